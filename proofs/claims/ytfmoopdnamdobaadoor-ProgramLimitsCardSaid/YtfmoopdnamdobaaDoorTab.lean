/-
  A text of this claim's proof: what stands below is laid by program; no condition.
-/
import Derived.Test.YtfmoopdnamdobaaDoorProg
import Derived.Test.YtfmoopdnamdobaaDoorSkmA
import Derived.Lib.ItoaNum
import Derived.Lib.LaidTab
namespace Go.Skm.Prg
open Go
abbrev kSg:List Kd:=[.int .i64,.int .i64,.int .i64,.slice false [.int .i64],.slice false [.int .i64],.slice false [.int .i64]]
abbrev kMv:List Kd:=[.int .i64,.int .i64,.int .i64,.int .i64,.int .i64,.int .i64]
abbrev kAc:List Kd:=[.str,.int .i64,.slice true kMv]
abbrev kV3:List Kd:=[.int .i64,.int .i64,.int .i64]
def spJ:List (List UInt8)→List UInt8
 | []=>[]
 | [x]=>x
 | x::y::r=>x++32::spJ (y::r)
def lineB (xs ys:List PV):ByteArray:=⟨(spJ (xs.map (fun x:PV=>x.toStr.toList)++ys.map (fun y:PV=>Lib.itoa y.toInt))++[10]).toArray⟩
def ty3:TI:=⟨.int .i64,1,8,false,(false,[.int .i64]),some (.int .i64 0),false⟩
def ty4:TI:=⟨.bool,1,1,false,(false,[.bool]),some (.bool false),false⟩
def ty5:TI:=⟨.int .u8,1,1,false,(false,[.int .u8]),some (.int .u8 0),false⟩
def ty9:TI:=⟨.string,1,16,false,(false,[.str]),some (.str ⟨#[]⟩),false⟩
def ty23:TI:=⟨.slice 9,1,24,false,(false,[.slice false [.str]]),some (.nil),false⟩
def ty24:TI:=⟨.slice 31,1,24,false,(false,[.slice true [.int .i64,.int .i64,.int .i64]]),some (.nil),false⟩
def ty25:TI:=⟨.slice 37,1,24,false,(false,[.slice true [.str,.int .i64,.slice true [.int .i64,.int .i64,.int .i64,.int .i64,.int .i64,.int .i64]]]),some (.nil),false⟩
def ty27 : TI := ⟨.struct #[⟨ "Names", 23, 0, false, "", "", 0⟩, ⟨ "Homes", 24, 1, false, "", "", 24⟩, ⟨ "Acts", 25, 2, false, "", "", 48⟩], 3, 72, true, (true, [.slice false [.str], .slice true [.int .i64, .int .i64, .int .i64], .slice true [.str, .int .i64, .slice true [.int .i64, .int .i64, .int .i64, .int .i64, .int .i64, .int .i64]]]), some (.agg [.nil, .nil, .nil]), false⟩
def ty28:TI:=⟨.slice 34,1,24,false,(false,[.slice true [.int .i64,.int .i64,.int .i64,.int .i64,.int .i64,.int .i64]]),some (.nil),false⟩
def ty29:TI:=⟨.slice 5,1,24,false,(false,[.slice false [.int .u8]]),some (.nil),false⟩
def ty31 : TI := ⟨.struct #[⟨ "X", 3, 0, false, "", "", 0⟩, ⟨ "Y", 3, 1, false, "", "", 8⟩, ⟨ "Z", 3, 2, false, "", "", 16⟩], 3, 24, true, (true, [.int .i64, .int .i64, .int .i64]), some (.agg [.int .i64 0, .int .i64 0, .int .i64 0]), true⟩
def ty34 : TI := ⟨.struct #[⟨ "To", 31, 0, false, "", "", 0⟩, ⟨ "Wait", 3, 3, false, "", "", 24⟩, ⟨ "Flight", 3, 4, false, "", "", 32⟩, ⟨ "Rise", 3, 5, false, "", "", 40⟩], 6, 48, true, (true, [.int .i64, .int .i64, .int .i64, .int .i64, .int .i64, .int .i64]), some (.agg [.int .i64 0, .int .i64 0, .int .i64 0, .int .i64 0, .int .i64 0, .int .i64 0]), true⟩
def ty37 : TI := ⟨.struct #[⟨ "Name", 9, 0, false, "", "", 0⟩, ⟨ "Length", 3, 1, false, "", "", 16⟩, ⟨ "Moves", 28, 2, false, "", "", 24⟩], 3, 48, true, (true, [.str, .int .i64, .slice true [.int .i64, .int .i64, .int .i64, .int .i64, .int .i64, .int .i64]]), some (.agg [.str ⟨#[]⟩, .int .i64 0, .nil]), false⟩
def ty40:TI:=⟨.int .i64,1,8,false,(false,[.int .i64]),some (.int .i64 0),false⟩
def ty60:TI:=⟨.slice 76,1,24,false,(false,[.slice true [.int .i64,.int .i64,.int .i64,.slice false [.int .i64],.slice false [.int .i64],.slice false [.int .i64]]]),some (.nil),false⟩
def ty63:TI:=⟨.slice 60,1,24,false,(false,[.slice false [.slice true [.int .i64,.int .i64,.int .i64,.slice false [.int .i64],.slice false [.int .i64],.slice false [.int .i64]]]]),some (.nil),false⟩
def ty74:TI:=⟨.slice 3,1,24,false,(false,[.slice false [.int .i64]]),some (.nil),false⟩
def ty76 : TI := ⟨.struct #[⟨ "From", 3, 0, false, "", "", 0⟩, ⟨ "To", 3, 1, false, "", "", 8⟩, ⟨ "Over", 3, 2, false, "", "", 16⟩, ⟨ "X", 74, 3, false, "", "", 24⟩, ⟨ "Y", 74, 4, false, "", "", 48⟩, ⟨ "Z", 74, 5, false, "", "", 72⟩], 6, 96, true, (true, [.int .i64, .int .i64, .int .i64, .slice false [.int .i64], .slice false [.int .i64], .slice false [.int .i64]]), some (.agg [.int .i64 0, .int .i64 0, .int .i64 0, .nil, .nil, .nil]), false⟩
def ty82:TI:=⟨.func #[100] #[] false,1,8,false,(false,[.other]),some (.nilfn),false⟩
def ty98:TI:=⟨.map 9 4,1,8,false,(false,[.other]),some (.nilm),false⟩
def ty99:TI:=⟨.map 31 4,1,8,false,(false,[.other]),some (.nilm),false⟩
def ty100:TI:=⟨.func #[60,40] #[4] false,1,8,false,(false,[.other]),some (.nilfn),false⟩
def ty110:TI:=⟨.pointer 112,1,8,false,(false,[.other]),some (.nilp),false⟩
def ty112 : TI := ⟨.struct #[⟨ "addr", 110, 0, false, "", "strings", 0⟩, ⟨ "buf", 29, 1, false, "", "strings", 8⟩], 2, 32, true, (true, [.other, .slice false [.int .u8]]), some (.agg [.nilp, .nil]), false⟩
def ty114 : TI := ⟨.struct #[⟨ "Builder", 112, 0, true, "", "", 0⟩], 2, 32, true, (true, [.other, .slice false [.int .u8]]), some (.agg [.nilp, .nil]), false⟩
def ty118:TI:=⟨.pointer 114,1,8,false,(false,[.other]),some (.nilp),false⟩
def ty125:TI:=⟨.pointer 5,1,8,false,(false,[.other]),some (.nilp),false⟩
def ty128:TI:=⟨.func #[31,3,3] #[] false,1,8,false,(false,[.other]),some (.nilfn),false⟩
def ty133:TI:=⟨.int .i64,1,8,false,(false,[.int .i64]),some (.int .i64 0),false⟩
def ty141:TI:=⟨.func #[153] #[] false,1,8,false,(false,[.other]),some (.nilfn),false⟩
def ty150:TI:=⟨.map 133 74,1,8,false,(false,[.other]),some (.nilm),false⟩
def ty153:TI:=⟨.func #[76] #[4] false,1,8,false,(false,[.other]),some (.nilfn),false⟩
noncomputable def fi3:FI:=⟨Go.Proofs.Tryd.f3,{ nvars:=13,fhomes:=[47,54,92],frzs:=[1011006],cuts:=[(6,[0,1,5,6,7],[5,6,5047,5054]),(18,[1,6,8,9,10,11],[8,9,10,105,5047,5054,5092])] },[(9,[[52,1052,2052,3052,53],[52,1052,2052,3052,53],[],[],[],[],[],[]]),(13,[[8],[8],[8],[8],[8],[8],[8],[],[]]),(15,[[],[],[9],[9],[],[],[],[]]),(20,[[91],[91],[],[],[],[],[],[],[]]),(24,[[],[],[109,1109,2109,3109],[109,1109,2109,3109],[],[],[],[],[],[],[],[],[],[],[],[],[],[],[],[],[],[],[],[],[],[],[],[]])]⟩
noncomputable def fi4:FI:=⟨Go.Proofs.Tryd.f4,{ nvars:=19 },[]⟩
noncomputable def fi5:FI:=⟨Go.Proofs.Tryd.f5,{ nvars:=8 },[(3,[[5],[5],[5],[26,5],[26,5],[5],[26,29,5],[26,29,5],[5],[5],[26,29,32],[]]),(11,[[],[],[],[78,1078,2078,3078],[],[],[],[],[],[],[],[],[]])]⟩
noncomputable def fi6:FI:=⟨Go.Proofs.Tryd.f6,{ nvars:=12 },[]⟩
noncomputable def fi8:FI:=⟨Go.Proofs.Tryd.f8,{ nvars:=18 },[(15,[[165,1165,2165,3165,167,1167,2167,3167,169],[],[167,1167,2167,3167],[],[],[],[],[],[],[],[],[]])]⟩
noncomputable def fi9:FI:=⟨Go.Proofs.Tryd.f9,{ nvars:=6 },[]⟩
noncomputable def fi10:FI:=⟨Go.Proofs.Tryd.f10,{ nvars:=10,cuts:=[(6,[1,2,3,4,24,25,26],[1,2,4,22]),(12,[1,2,3,4,6,7,24,25,26,59],[1,2,4,6,7,22])] },[]⟩
noncomputable def fi11:FI:=⟨Go.Proofs.Tryd.f11,{ nvars:=9,cuts:=[(4,[1,3,7],[3]),(9,[1,3,8],[3])] },[]⟩
noncomputable def fi12:FI:=⟨Go.Proofs.Tryd.f12,{ shares:=true,rets:=[.deep,.deep],nvars:=6 },[]⟩
noncomputable def fi13:FI:=⟨Go.Proofs.Tryd.f13,{ nvars:=8,cuts:=[(6,[1,2,4,5],[2])] },[]⟩
noncomputable def fi14:FI:=⟨Go.Proofs.Tryd.f14,{ nvars:=7 },[]⟩
noncomputable def fi15:FI:=⟨Go.Proofs.Tryd.f15,{ nvars:=12,cuts:=[(5,[1,3,4],[1]),(10,[1,3,4,5],[1]),(17,[1,3,6,7,8],[1,7]),(24,[1,3,6,7,8,9,10,11],[1,7,9,10])] },[(12,[[],[],[],[],[],[],[],[],[],[],[],[],[],[],[],[],[],[],[],[],[],[],[],[]]),(26,[[],[],[],[],[],[],[],[],[],[],[],[],[]]),(28,[[160,1160,2160,3160],[160,1160,2160,3160],[160,1160,2160,3160],[160,1160,2160,3160],[160,1160,2160,3160],[160,1160,2160,3160],[],[],[],[],[],[],[],[],[],[],[],[],[],[],[],[],[]])]⟩
noncomputable def fi16:FI:=⟨Go.Proofs.Tryd.f16,{ nvars:=6,cuts:=[(4,[0,1,5],[])] },[(6,[[],[],[],[],[],[],[],[],[]])]⟩
noncomputable def fi17:FI:=⟨Go.Proofs.Tryd.f17,{ rets:=[.fresh],nvars:=7,cuts:=[(5,[1,2,5,6],[2,5])] },[]⟩
noncomputable def fi18:FI:=⟨Go.Proofs.Tryd.f18,{ nvars:=9,cuts:=[(3,[1,2,7,8],[2])] },[]⟩
noncomputable def fi19:FI:=⟨Go.Proofs.Tryd.f19,{ nvars:=6,cuts:=[(2,[1,2,5],[2])] },[]⟩
noncomputable def fi20:FI:=⟨Go.Proofs.Tryd.f20,{ shares:=true,nvars:=7 },[]⟩
noncomputable def fi21:FI:=⟨Go.Proofs.Tryd.f21,{ nvars:=10,cuts:=[(4,[2,3,5],[2,3]),(9,[2,3,6],[2,3]),(14,[2,3,7],[2,3])] },[(6,[[],[],[],[],[],[],[],[],[],[],[]]),(11,[[],[],[],[],[],[],[],[],[],[],[]]),(16,[[8,9],[8,9],[8,9],[8,9],[8,9],[8,9,8],[8,9,8],[8,9,8],[8,9,8],[8,9,8],[9],[8],[],[]])]⟩
noncomputable def fi22:FI:=⟨Go.Proofs.Tryd.f22,{ shares:=true,nvars:=4,quiet:=true },[(1,[[9],[9],[9],[7],[7],[],[],[]])]⟩
noncomputable def fi23:FI:=⟨Go.Proofs.Tryd.f23,{ nvars:=7,cuts:=[(5,[4,11,12,13],[])] },[]⟩
noncomputable def fi24:FI:=⟨Go.Proofs.Tryd.f24,{ shares:=true,rets:=[.deep,.deep],nvars:=6 },[]⟩
noncomputable def fi25:FI:=⟨Go.Proofs.Tryd.f25,{ shares:=true,rets:=[.fresh,.deep],nvars:=4,quiet:=true },[]⟩
noncomputable def fi26:FI:=⟨Go.Proofs.Tryd.f26,{ nvars:=5,cuts:=[(3,[1,3,4],[1])] },[]⟩
noncomputable def fi27:FI:=⟨Go.Proofs.Tryd.f27,{ nvars:=6,cuts:=[(4,[0,1,5],[])] },[(6,[[],[],[],[],[],[],[],[],[],[]])]⟩
noncomputable def fi28:FI:=⟨Go.Proofs.Tryd.f28,{ shares:=true,rets:=[.fresh],nvars:=8,quiet:=true,cuts:=[(4,[1,2,5,6,7],[2,5])] },[(6,[[18,1018,2018,3018,38,1038,2038,3038],[],[],[],[18,1018,2018,3018],[],[],[18,1018,2018,3018],[18,1018,2018,3018],[18,1018,2018,3018],[18,1018,2018,3018],[18,1018,2018,3018],[18,1018,2018,3018],[18,1018,2018,3018],[18,1018,2018,3018],[18,1018,2018,3018],[18,1018,2018,3018],[18,1018,2018,3018],[18,1018,2018,3018],[18,1018,2018,3018],[18,1018,2018,3018],[18,1018,2018,3018],[18,1018,2018,3018],[],[],[]])]⟩
noncomputable def fi29:FI:=⟨Go.Proofs.Tryd.f29,{ nvars:=6,cuts:=[(4,[0,1,5],[])] },[(6,[[],[],[],[],[],[],[],[],[],[]])]⟩
noncomputable def fi30:FI:=⟨Go.Proofs.Tryd.f30,{ shares:=true,rets:=[.fresh],nvars:=5,quiet:=true,cuts:=[(3,[1,3,4],[1,3])] },[]⟩
noncomputable def fi32:FI:=⟨Go.Proofs.Tryd.f32,{ shares:=true,rets:=[.aggF],nvars:=4,quiet:=true,cuts:=[(3,[1,2,18,19],[1,2,12])] },[(1,[[],[],[],[6,1006,2006,3006],[6,1006,2006,3006],[],[6,1006,2006,3006,9,1009,2009,3009],[6,1006,2006,3006,9,1009,2009,3009],[],[9,1009,2009,3009,12,1012,2012,3012],[],[],[],[],[]]),(5,[[31,1031,2031,3031],[31,1031,2031,3031],[31,1031,2031,3031],[],[],[],[],[],[],[],[],[],[]])]⟩
noncomputable def fi33:FI:=⟨Go.Proofs.Tryd.f33,{ shares:=true,nvars:=0,quiet:=true },[]⟩
noncomputable def fi34:FI:=⟨Go.Proofs.Tryd.f34,{ nvars:=4 },[]⟩
noncomputable def fi35:FI:=⟨Go.Proofs.Tryd.f35,{ nvars:=1 },[]⟩
noncomputable def fi36:FI:=⟨Go.Proofs.Tryd.f36,{ nvars:=8,cuts:=[(6,[1,4,5,27,28,29],[1,24,25])] },[]⟩
noncomputable def fi37:FI:=⟨Go.Proofs.Tryd.f37,{ nvars:=5,cuts:=[(2,[0,6,7],[])] },[]⟩
noncomputable def fi38:FI:=⟨Go.Proofs.Tryd.f38,{ shares:=true,rets:=[.func 59 [(true,[.slice false [.str],.slice true [.int .i64,.int .i64,.int .i64],.slice true [.str,.int .i64,.slice true [.int .i64,.int .i64,.int .i64,.int .i64,.int .i64,.int .i64]]]),(true,[.int .i64]),(true,[.int .i64])]],nvars:=7 },[]⟩
noncomputable def fi39:FI:=⟨Go.Proofs.Tryd.f39,{ shares:=true,rets:=[.deep],nvars:=8,quiet:=true,cuts:=[(5,[5,19,20,21],[5])] },[]⟩
noncomputable def fi40:FI:=⟨Go.Proofs.Tryd.f40,{ nvars:=6,cuts:=[(2,[0,1,7,8],[])] },[]⟩
noncomputable def fi41:FI:=⟨Go.Proofs.Tryd.f41,{ nvars:=6,cuts:=[(2,[0,3],[])] },[]⟩
noncomputable def fi42:FI:=⟨Go.Proofs.Tryd.f42,{ nvars:=3 },[]⟩
noncomputable def fi43:FI:=⟨Go.Proofs.Tryd.f43,{ nvars:=11 },[]⟩
noncomputable def fi44:FI:=⟨Go.Proofs.Tryd.f44,{ shares:=true,rets:=[.fresh],nvars:=14,quiet:=true },[(4,[[],[],[],[],[],[],[],[],[],[],[],[],[]])]⟩
noncomputable def fi45:FI:=⟨Go.Proofs.Tryd.f45,{ shares:=true,rets:=[.deep],nvars:=3,quiet:=true },[]⟩
noncomputable def fi46:FI:=⟨Go.Proofs.Tryd.f46,{ nvars:=6,cuts:=[(4,[0,1,5],[])] },[(6,[[],[],[],[],[],[],[],[],[]])]⟩
noncomputable def fi47:FI:=⟨Go.Proofs.Tryd.f47,{ shares:=true,rets:=[.fresh],nvars:=9,quiet:=true },[]⟩
noncomputable def fi48:FI:=⟨Go.Proofs.Tryd.f48,{ nvars:=5 },[]⟩
noncomputable def fi54:FI:=⟨Go.Proofs.Tryd.f54,{ shares:=true,rets:=[.deep],nvars:=3,quiet:=true },[]⟩
noncomputable def fi55:FI:=⟨Go.Proofs.Tryd.f55,{ shares:=true,rets:=[.deep],nvars:=3,quiet:=true },[]⟩
noncomputable def fi56:FI:=⟨Go.Proofs.Tryd.f56,{ shares:=true,rets:=[.fresh],nvars:=3,quiet:=true },[]⟩
noncomputable def fi57:FI:=⟨Go.Proofs.Tryd.f57,{ nvars:=10,fhomes:=[39,54,79],cuts:=[(3,[1,3,11,12,13],[1,3,7990]),(8,[3,42,43,44],[3,7990]),(12,[3,42,43,44,56,57,58],[3,7990])] },[(5,[[38],[38],[19],[19],[19],[19],[19],[19],[19],[19],[19],[19],[19],[19],[19],[19],[19],[19],[19],[19],[19],[]])]⟩
noncomputable def fi58:FI:=⟨Go.Proofs.Tryd.f58,{ nvars:=3 },[]⟩
noncomputable def fi59:FI:=⟨Go.Proofs.Tryd.f59,{ nvars:=8,yk:=[(false,[.slice true [.int .i64,.int .i64,.int .i64,.slice false [.int .i64],.slice false [.int .i64],.slice false [.int .i64]]]),(false,[.int .i64])],ys:=[0,22],cuts:=[(2,[0,3,5,15,16,17],[5,100000])] },[(4,[[32,1032,2032,3032],[],[],[],[],[],[],[],[],[],[],[],[],[],[]])]⟩
noncomputable def fi60:FI:=⟨Go.Proofs.Tryd.f60,{ shares:=true,rets:=[.fresh,.deep],nvars:=10,quiet:=true },[]⟩
noncomputable def fi61:FI:=⟨Go.Proofs.Tryd.f61,{ nvars:=3 },[]⟩
noncomputable def fi62:FI:=⟨Go.Proofs.Tryd.f62,{ nvars:=3 },[]⟩
noncomputable def fi63:FI:=⟨Go.Proofs.Tryd.f63,{ nvars:=6 },[(4,[[20,1020,2020,3020],[],[],[],[]])]⟩
noncomputable def fi64:FI:=⟨Go.Proofs.Tryd.f64,{ shares:=true,rets:=[.fresh],nvars:=7,quiet:=true },[]⟩
noncomputable def fi65:FI:=⟨Go.Proofs.Tryd.f65,{ shares:=true,nvars:=10,quiet:=true },[(1,[[18,1018,2018,3018,24,1024,2024,3024,30,1030,2030,3030],[18,1018,2018,3018,24,1024,2024,3024,30,1030,2030,3030],[],[],[],[],[],[],[18,1018,2018,3018],[18,1018,2018,3018],[18,1018,2018,3018],[18,1018,2018,3018],[18,1018,2018,3018],[],[18,1018,2018,3018,24,1024,2024,3024],[18,1018,2018,3018,24,1024,2024,3024],[18,1018,2018,3018,24,1024,2024,3024],[18,1018,2018,3018,24,1024,2024,3024],[18,1018,2018,3018,24,1024,2024,3024],[],[],[]])]⟩
noncomputable def fi66:FI:=⟨Go.Proofs.Tryd.f66,{ shares:=true,rets:=[.fresh,.deep],nvars:=17,quiet:=true },[(8,[[],[],[],[],[],[],[],[66,1066,2066,3066],[66,1066,2066,3066],[66,1066,2066,3066],[66,1066,2066,3066],[66,1066,2066,3066],[66,1066,2066,3066],[66,1066,2066,3066],[66,1066,2066,3066],[66,1066,2066,3066],[],[66,1066,2066,3066,76,1076,2076,3076],[66,1066,2066,3066,76,1076,2076,3076],[66,1066,2066,3066,76,1076,2076,3076],[66,1066,2066,3066,76,1076,2076,3076],[66,1066,2066,3066,76,1076,2076,3076],[66,1066,2066,3066,76,1076,2076,3076],[66,1066,2066,3066,76,1076,2076,3076],[],[],[],[]])]⟩
noncomputable def fi67:FI:=⟨Go.Proofs.Tryd.f67,{ nvars:=6,cuts:=[(4,[0,1,5],[])] },[(6,[[],[],[],[],[],[],[],[],[]])]⟩
noncomputable def fi68:FI:=⟨Go.Proofs.Tryd.f68,{ prim:=.wline lineB,primTs:=[112,114],primE:=5,nvars:=8 },[]⟩
noncomputable def fi69:FI:=⟨Go.Proofs.Tryd.f69,{ prim:=.str,primTs:=[112,114],primE:=5,nvars:=3 },[]⟩
noncomputable def fi70:FI:=⟨Go.Proofs.Tryd.f70,{ nvars:=7,cuts:=[(2,[0,7,8,9],[])] },[]⟩
noncomputable def fi71:FI:=⟨Go.Proofs.Tryd.f71,{ nvars:=3 },[]⟩
noncomputable def fi72:FI:=⟨Go.Proofs.Tryd.f72,{ nvars:=7 },[]⟩
noncomputable def fi73:FI:=⟨Go.Proofs.Tryd.f73,{ shares:=true,rets:=[.fresh],nvars:=14,quiet:=true },[]⟩
noncomputable def fi74:FI:=⟨Go.Proofs.Tryd.f74,{ rets:=[.fresh],nvars:=8 },[]⟩
noncomputable def fi75:FI:=⟨Go.Proofs.Tryd.f75,{ nvars:=5 },[]⟩
noncomputable def fi79:FI:=⟨Go.Proofs.Tryd.f79,{ nvars:=5 },[]⟩
noncomputable def fi80:FI:=⟨Go.Proofs.Tryd.f80,{ nvars:=5 },[]⟩
noncomputable def fi81:FI:=⟨Go.Proofs.Tryd.f81,{ nvars:=9,vcall:=true,vElem:=76 },[]⟩
noncomputable def fi82:FI:=⟨Go.Proofs.Tryd.f82,{ shares:=true,rets:=[.fresh,.deep],nvars:=8,quiet:=true },[]⟩
noncomputable def fi83:FI:=⟨Go.Proofs.Tryd.f83,{ shares:=true,rets:=[.fresh,.deep],nvars:=10,quiet:=true },[]⟩
noncomputable def fi84:FI:=⟨Go.Proofs.Tryd.f84,{ shares:=true,rets:=[.fresh,.deep],nvars:=15,quiet:=true },[(6,[[13,14],[13,14,13],[14],[13],[],[]])]⟩
noncomputable def fi88:FI:=⟨Go.Proofs.Tryd.f88,{ shares:=true,rets:=[.fresh,.deep],nvars:=12,quiet:=true },[]⟩
noncomputable def fi89:FI:=⟨Go.Proofs.Tryd.f89,{ nvars:=9 },[]⟩
noncomputable def fi90:FI:=⟨Go.Proofs.Tryd.f90,{ shares:=true,rets:=[.fresh,.deep],nvars:=11,cuts:=[(5,[0,1,6,21,22,23],[]),(15,[9,50],[9,55])] },[]⟩
noncomputable def fi94:FI:=⟨Go.Proofs.Tryd.f94,{ shares:=true,nvars:=12,quiet:=true },[(2,[[22,1022,2022,3022,28,1028,2028,3028,34,1034,2034,3034],[22,1022,2022,3022,28,1028,2028,3028,34,1034,2034,3034],[],[],[],[],[],[],[22,1022,2022,3022],[22,1022,2022,3022],[22,1022,2022,3022],[22,1022,2022,3022],[22,1022,2022,3022],[],[22,1022,2022,3022,28,1028,2028,3028],[22,1022,2022,3022,28,1028,2028,3028],[22,1022,2022,3022,28,1028,2028,3028],[22,1022,2022,3022,28,1028,2028,3028],[22,1022,2022,3022,28,1028,2028,3028],[],[],[]])]⟩
noncomputable def fi95:FI:=⟨Go.Proofs.Tryd.f95,{ shares:=true,rets:=[.func 103 [(true,[.slice true [.int .i64,.int .i64,.int .i64]]),(true,[.slice false [.int .i64]])]],nvars:=5 },[]⟩
noncomputable def fi101:FI:=⟨Go.Proofs.Tryd.f101,{ shares:=true,nvars:=1,quiet:=true },[]⟩
noncomputable def fi102:FI:=⟨Go.Proofs.Tryd.f102,{ rets:=[.fresh],nvars:=10,cuts:=[(4,[0,1,7,15,16,17],[7])] },[]⟩
noncomputable def fi103:FI:=⟨Go.Proofs.Tryd.f103,{ nvars:=5,yk:=[(true,[.int .i64,.int .i64,.int .i64,.slice false [.int .i64],.slice false [.int .i64],.slice false [.int .i64]])],ys:=[0,11],cuts:=[(1,[0,1,2,4],[100000])] },[(3,[[30,1030,2030,3030],[],[],[],[],[],[],[],[],[],[],[],[],[],[],[],[],[],[],[],[],[]])]⟩
noncomputable def tab:Tab:=⟨[(3,ty3),(4,ty4),(5,ty5),(9,ty9),(23,ty23),(24,ty24),(25,ty25),(27,ty27),(28,ty28),(29,ty29),(31,ty31),(34,ty34),(37,ty37),(40,ty40),(60,ty60),(63,ty63),(74,ty74),(76,ty76),(82,ty82),(98,ty98),(99,ty99),(100,ty100),(110,ty110),(112,ty112),(114,ty114),(118,ty118),(125,ty125),(128,ty128),(133,ty133),(141,ty141),(150,ty150),(153,ty153)],
 [(3, fi3), (4, fi4), (5, fi5), (6, fi6), (8, fi8), (9, fi9), (10, fi10), (11, fi11), (12, fi12), (13, fi13), (14, fi14), (15, fi15), (16, fi16), (17, fi17), (18, fi18), (19, fi19), (20, fi20), (21, fi21), (22, fi22), (23, fi23), (24, fi24), (25, fi25), (26, fi26), (27, fi27), (28, fi28), (29, fi29), (30, fi30), (32, fi32), (33, fi33), (34, fi34), (35, fi35), (36, fi36), (37, fi37), (38, fi38), (39, fi39), (40, fi40), (41, fi41), (42, fi42), (43, fi43), (44, fi44), (45, fi45), (46, fi46), (47, fi47), (48, fi48), (54, fi54), (55, fi55), (56, fi56), (57, fi57), (58, fi58), (59, fi59), (60, fi60), (61, fi61), (62, fi62), (63, fi63), (64, fi64), (65, fi65), (66, fi66), (67, fi67), (68, fi68), (69, fi69), (70, fi70), (71, fi71), (72, fi72), (73, fi73), (74, fi74), (75, fi75), (79, fi79), (80, fi80), (81, fi81), (82, fi82), (83, fi83), (84, fi84), (88, fi88), (89, fi89), (90, fi90), (94, fi94), (95, fi95), (101, fi101), (102, fi102), (103, fi103)], false, [], [], [19, 38, 50, 53, 62, 78, 1000002, 1000003], fun b w => b = true ∧ Lib.TabIs Go.Proofs.Tryd.prog w "internal/strconv.uint64pow10" .u64 Lib.pow10Tab⟩
end Go.Skm.Prg
