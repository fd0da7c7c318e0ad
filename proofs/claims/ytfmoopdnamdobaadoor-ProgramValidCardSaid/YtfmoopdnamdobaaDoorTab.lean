import Derived.Test.YtfmoopdnamdobaaDoorProg
import Derived.Test.YtfmoopdnamdobaaDoorSkmA
import Derived.Lib.ItoaNum
import Derived.Lib.LaidTab
namespace Go.Skm.Prg
open Go.Proofs
open Go
def Uq:Nat→List AV→List AV
 | 0,l=>l
 | n+1,l=>.undef::Uq n l
abbrev iy:List Kd:=[.int .i64,.int .i64,.int .i64,.slice false [.int .i64],.slice false [.int .i64],.slice false [.int .i64]]
abbrev kR:List Kd:=[.int .i64,.int .i64,.int .i64,.int .i64,.int .i64,.int .i64]
abbrev dD:List Kd:=[.str,.int .i64,.slice true kR]
abbrev bZ:List Kd:=[.int .i64,.int .i64,.int .i64]
def Dz:List (List UInt8)→List UInt8
 | []=>[]
 | [x]=>x
 | x::y::r=>x++32::Dz (y::r)
def rD (xs ys:List PV):ByteArray:=⟨(Dz (xs.map (fun x:PV=>x.toStr.toList)++ys.map (fun y:PV=>Lib.itoa y.toInt))++[10]).toArray⟩
def ty3:TI:=⟨.int .i64,1,8,false,(false,[.int .i64]),some (.int .i64 0),false⟩
def ty4:TI:=⟨.bool,1,1,false,(false,[.bool]),some (.bool false),false⟩
def ty5:TI:=⟨.int .u8,1,1,false,(false,[.int .u8]),some (.int .u8 0),false⟩
def ty9:TI:=⟨.string,1,16,false,(false,[.str]),some (.str ⟨#[]⟩),false⟩
def afw:TI:=⟨.slice 9,1,24,false,(false,[.slice false [.str]]),some (.nil),false⟩
def afx:TI:=⟨.slice 31,1,24,false,(false,[.slice true [.int .i64,.int .i64,.int .i64]]),some (.nil),false⟩
def afy:TI:=⟨.slice 37,1,24,false,(false,[.slice true [.str,.int .i64,.slice true [.int .i64,.int .i64,.int .i64,.int .i64,.int .i64,.int .i64]]]),some (.nil),false⟩
def afz : TI := ⟨.struct #[⟨ "Names", 23, 0, false, "", "", 0⟩, ⟨ "Homes", 24, 1, false, "", "", 24⟩, ⟨ "Acts", 25, 2, false, "", "", 48⟩], 3, 72, true, (true, [.slice false [.str], .slice true [.int .i64, .int .i64, .int .i64], .slice true [.str, .int .i64, .slice true [.int .i64, .int .i64, .int .i64, .int .i64, .int .i64, .int .i64]]]), some (.agg [.nil, .nil, .nil]), false⟩
def afA:TI:=⟨.slice 34,1,24,false,(false,[.slice true [.int .i64,.int .i64,.int .i64,.int .i64,.int .i64,.int .i64]]),some (.nil),false⟩
def afB:TI:=⟨.slice 5,1,24,false,(false,[.slice false [.int .u8]]),some (.nil),false⟩
def afC : TI := ⟨.struct #[⟨ "X", 3, 0, false, "", "", 0⟩, ⟨ "Y", 3, 1, false, "", "", 8⟩, ⟨ "Z", 3, 2, false, "", "", 16⟩], 3, 24, true, (true, [.int .i64, .int .i64, .int .i64]), some (.agg [.int .i64 0, .int .i64 0, .int .i64 0]), true⟩
def afD : TI := ⟨.struct #[⟨ "To", 31, 0, false, "", "", 0⟩, ⟨ "Wait", 3, 3, false, "", "", 24⟩, ⟨ "Flight", 3, 4, false, "", "", 32⟩, ⟨ "Rise", 3, 5, false, "", "", 40⟩], 6, 48, true, (true, [.int .i64, .int .i64, .int .i64, .int .i64, .int .i64, .int .i64]), some (.agg [.int .i64 0, .int .i64 0, .int .i64 0, .int .i64 0, .int .i64 0, .int .i64 0]), true⟩
def afE : TI := ⟨.struct #[⟨ "Name", 9, 0, false, "", "", 0⟩, ⟨ "Length", 3, 1, false, "", "", 16⟩, ⟨ "Moves", 28, 2, false, "", "", 24⟩], 3, 48, true, (true, [.str, .int .i64, .slice true [.int .i64, .int .i64, .int .i64, .int .i64, .int .i64, .int .i64]]), some (.agg [.str ⟨#[]⟩, .int .i64 0, .nil]), false⟩
def afF:TI:=⟨.int .i64,1,8,false,(false,[.int .i64]),some (.int .i64 0),false⟩
def afG:TI:=⟨.slice 76,1,24,false,(false,[.slice true [.int .i64,.int .i64,.int .i64,.slice false [.int .i64],.slice false [.int .i64],.slice false [.int .i64]]]),some (.nil),false⟩
def afH:TI:=⟨.slice 60,1,24,false,(false,[.slice false [.slice true [.int .i64,.int .i64,.int .i64,.slice false [.int .i64],.slice false [.int .i64],.slice false [.int .i64]]]]),some (.nil),false⟩
def afI:TI:=⟨.slice 3,1,24,false,(false,[.slice false [.int .i64]]),some (.nil),false⟩
def afJ : TI := ⟨.struct #[⟨ "From", 3, 0, false, "", "", 0⟩, ⟨ "To", 3, 1, false, "", "", 8⟩, ⟨ "Over", 3, 2, false, "", "", 16⟩, ⟨ "X", 74, 3, false, "", "", 24⟩, ⟨ "Y", 74, 4, false, "", "", 48⟩, ⟨ "Z", 74, 5, false, "", "", 72⟩], 6, 96, true, (true, [.int .i64, .int .i64, .int .i64, .slice false [.int .i64], .slice false [.int .i64], .slice false [.int .i64]]), some (.agg [.int .i64 0, .int .i64 0, .int .i64 0, .nil, .nil, .nil]), false⟩
def afK:TI:=⟨.func #[100] #[] false,1,8,false,(false,[.other]),some (.nH),false⟩
def afL:TI:=⟨.func #[37,37] #[4] false,1,8,false,(false,[.other]),some (.nH),false⟩
def afM:TI:=⟨.map 9 4,1,8,false,(false,[.other]),some (.Ho),false⟩
def afN:TI:=⟨.map 31 4,1,8,false,(false,[.other]),some (.Ho),false⟩
def ace:TI:=⟨.func #[60,40] #[4] false,1,8,false,(false,[.other]),some (.nH),false⟩
def acf:TI:=⟨.pointer 112,1,8,false,(false,[.other]),some (.yQ),false⟩
def acg : TI := ⟨.struct #[⟨ "addr", 110, 0, false, "", "strings", 0⟩, ⟨ "buf", 29, 1, false, "", "strings", 8⟩], 2, 32, true, (true, [.other, .slice false [.int .u8]]), some (.agg [.yQ, .nil]), false⟩
def ach : TI := ⟨.struct #[⟨ "Builder", 112, 0, true, "", "", 0⟩], 2, 32, true, (true, [.other, .slice false [.int .u8]]), some (.agg [.yQ, .nil]), false⟩
def aci:TI:=⟨.pointer 114,1,8,false,(false,[.other]),some (.yQ),false⟩
def acj:TI:=⟨.pointer 5,1,8,false,(false,[.other]),some (.yQ),false⟩
def acn:TI:=⟨.func #[31,3,3] #[] false,1,8,false,(false,[.other]),some (.nH),false⟩
def aco:TI:=⟨.int .i64,1,8,false,(false,[.int .i64]),some (.int .i64 0),false⟩
def acp:TI:=⟨.func #[153] #[] false,1,8,false,(false,[.other]),some (.nH),false⟩
def acr:TI:=⟨.map 133 74,1,8,false,(false,[.other]),some (.Ho),false⟩
def acs:TI:=⟨.func #[76] #[4] false,1,8,false,(false,[.other]),some (.nH),false⟩
noncomputable def fi3:FI:=⟨Tryd.f3,{ nvars:=13,fhomes:=[47,54,92],frzs:=[1011006],cuts:=[(6,[0,1,5,6,7],[5,6,5047,5054]),(18,[1,6,8,9,10,11],[8,9,10,105,5047,5054,5092])] },[(9,[[52,1052,2052,3052,53],[52,1052,2052,3052,53],[],[],[],[],[],[]]),(13,[[8],[8],[8],[8],[8],[8],[8],[],[]]),(15,[[],[],[9],[9],[],[],[],[]]),(20,[[91],[91],[],[],[],[],[],[],[]]),(24,[[],[],[109,1109,2109,3109],[109,1109,2109,3109],[],[],[],[],[],[],[],[],[],[],[],[],[],[],[],[],[],[],[],[],[],[],[],[]])]⟩
noncomputable def fi4:FI:=⟨Tryd.f4,{ nvars:=19 },[]⟩
noncomputable def fi5:FI:=⟨Tryd.f5,{ nvars:=8 },[(3,[[5],[5],[5],[26,5],[26,5],[5],[26,29,5],[26,29,5],[5],[5],[26,29,32],[]]),(11,[[],[],[],[78,1078,2078,3078],[],[],[],[],[],[],[],[],[]])]⟩
noncomputable def fi6:FI:=⟨Tryd.f6,{ nvars:=12 },[]⟩
noncomputable def fi8:FI:=⟨Tryd.f8,{ nvars:=18 },[(15,[[165,1165,2165,3165,167,1167,2167,3167,169],[],[167,1167,2167,3167],[],[],[],[],[],[],[],[],[]])]⟩
noncomputable def fi9:FI:=⟨Tryd.f9,{ nvars:=6 },[]⟩
noncomputable def adz:FI:=⟨Tryd.f10,{ nvars:=10,cuts:=[(6,[1,2,3,4,24,25,26],[1,2,4,22]),(12,[1,2,3,4,6,7,24,25,26,59],[1,2,4,6,7,22])] },[]⟩
noncomputable def adA:FI:=⟨Tryd.f11,{ nvars:=9,cuts:=[(4,[1,3,7],[3]),(9,[1,3,8],[3])] },[]⟩
noncomputable def afO:FI:=⟨Tryd.f12,{ shares:=true,rets:=[.deep,.deep],nvars:=6 },[]⟩
noncomputable def afP:FI:=⟨Tryd.f13,{ nvars:=8,cuts:=[(6,[1,2,4,5],[2])] },[]⟩
noncomputable def afQ:FI:=⟨Tryd.f14,{ nvars:=7 },[]⟩
noncomputable def adB:FI:=⟨Tryd.f15,{ nvars:=12,cuts:=[(5,[1,3,4],[1]),(10,[1,3,4,5],[1]),(17,[1,3,6,7,8],[1,7]),(24,[1,3,6,7,8,9,10,11],[1,7,9,10])] },[(12,[[],[],[],[],[],[],[],[],[],[],[],[],[],[],[],[],[],[],[],[],[],[],[],[]]),(26,[[],[],[],[],[],[],[],[],[],[],[],[],[]]),(28,[[160,1160,2160,3160],[160,1160,2160,3160],[160,1160,2160,3160],[160,1160,2160,3160],[160,1160,2160,3160],[160,1160,2160,3160],[],[],[],[],[],[],[],[],[],[],[],[],[],[],[],[],[]])]⟩
noncomputable def afR:FI:=⟨Tryd.f16,{ nvars:=6,cuts:=[(4,[0,1,5],[])] },[(6,[[],[],[],[],[],[],[],[],[]])]⟩
noncomputable def afS:FI:=⟨Tryd.f17,{ rets:=[.fresh],nvars:=7,cuts:=[(5,[1,2,5,6],[2,5])] },[]⟩
noncomputable def afT:FI:=⟨Tryd.f18,{ nvars:=9,cuts:=[(3,[1,2,7,8],[2])] },[]⟩
noncomputable def afU:FI:=⟨Tryd.f19,{ nvars:=6,cuts:=[(2,[1,2,5],[2])] },[]⟩
noncomputable def afV:FI:=⟨Tryd.f20,{ shares:=true,nvars:=7 },[]⟩
noncomputable def abK:FI:=⟨Tryd.f21,{ nvars:=10,cuts:=[(4,[2,3,5],[2,3]),(9,[2,3,6],[2,3]),(14,[2,3,7],[2,3])] },[(6,[[],[],[],[],[],[],[],[],[],[],[]]),(11,[[],[],[],[],[],[],[],[],[],[],[]]),(16,[[8,9],[8,9],[8,9],[8,9],[8,9],[8,9,8],[8,9,8],[8,9,8],[8,9,8],[8,9,8],[9],[8],[],[]])]⟩
noncomputable def afW:FI:=⟨Tryd.f22,{ shares:=true,nvars:=4,quiet:=true },[(1,[[9],[9],[9],[7],[7],[],[],[]])]⟩
noncomputable def afX:FI:=⟨Tryd.f23,{ nvars:=7,cuts:=[(5,[4,11,12,13],[])] },[]⟩
noncomputable def afY:FI:=⟨Tryd.f24,{ shares:=true,rets:=[.deep,.deep],nvars:=6 },[]⟩
noncomputable def afZ:FI:=⟨Tryd.f25,{ shares:=true,rets:=[.fresh,.deep],nvars:=4,quiet:=true },[]⟩
noncomputable def af0:FI:=⟨Tryd.f26,{ nvars:=5,cuts:=[(3,[1,3,4],[1])] },[]⟩
noncomputable def af2:FI:=⟨Tryd.f27,{ nvars:=6,cuts:=[(4,[0,1,5],[])] },[(6,[[],[],[],[],[],[],[],[],[],[]])]⟩
noncomputable def af4:FI:=⟨Tryd.f28,{ shares:=true,rets:=[.fresh],nvars:=8,quiet:=true,cuts:=[(4,[1,2,5,6,7],[2,5])] },[(6,[[18,1018,2018,3018,38,1038,2038,3038],[],[],[],[18,1018,2018,3018],[],[],[18,1018,2018,3018],[18,1018,2018,3018],[18,1018,2018,3018],[18,1018,2018,3018],[18,1018,2018,3018],[18,1018,2018,3018],[18,1018,2018,3018],[18,1018,2018,3018],[18,1018,2018,3018],[18,1018,2018,3018],[18,1018,2018,3018],[18,1018,2018,3018],[18,1018,2018,3018],[18,1018,2018,3018],[18,1018,2018,3018],[18,1018,2018,3018],[],[],[]])]⟩
noncomputable def af5:FI:=⟨Tryd.f29,{ nvars:=6,cuts:=[(4,[0,1,5],[])] },[(6,[[],[],[],[],[],[],[],[],[],[]])]⟩
noncomputable def af6:FI:=⟨Tryd.f30,{ shares:=true,rets:=[.fresh],nvars:=5,quiet:=true,cuts:=[(3,[1,3,4],[1,3])] },[]⟩
noncomputable def abL:FI:=⟨Tryd.f31,{ nvars:=5 },[]⟩
noncomputable def af7:FI:=⟨Tryd.f32,{ shares:=true,rets:=[.DF],nvars:=4,quiet:=true,cuts:=[(3,[1,2,18,19],[1,2,12])] },[(1,[[],[],[],[6,1006,2006,3006],[6,1006,2006,3006],[],[6,1006,2006,3006,9,1009,2009,3009],[6,1006,2006,3006,9,1009,2009,3009],[],[9,1009,2009,3009,12,1012,2012,3012],[],[],[],[],[]]),(5,[[31,1031,2031,3031],[31,1031,2031,3031],[31,1031,2031,3031],[],[],[],[],[],[],[],[],[],[]])]⟩
noncomputable def af8:FI:=⟨Tryd.f33,{ shares:=true,nvars:=0,quiet:=true },[]⟩
noncomputable def af9:FI:=⟨Tryd.f34,{ nvars:=4 },[]⟩
noncomputable def aga:FI:=⟨Tryd.f35,{ nvars:=1 },[]⟩
noncomputable def agb:FI:=⟨Tryd.f36,{ nvars:=8,cuts:=[(6,[1,4,5,27,28,29],[1,24,25])] },[]⟩
noncomputable def agc:FI:=⟨Tryd.f37,{ nvars:=5,cuts:=[(2,[0,6,7],[])] },[]⟩
noncomputable def WY:FI:=⟨Tryd.f38,{ shares:=true,rets:=[.func 59 [(true,[.slice false [.str],.slice true [.int .i64,.int .i64,.int .i64],.slice true [.str,.int .i64,.slice true [.int .i64,.int .i64,.int .i64,.int .i64,.int .i64,.int .i64]]]),(true,[.int .i64]),(true,[.int .i64])]],nvars:=7 },[]⟩
noncomputable def agd:FI:=⟨Tryd.f39,{ shares:=true,rets:=[.deep],nvars:=8,quiet:=true,cuts:=[(5,[5,19,20,21],[5])] },[]⟩
noncomputable def agf:FI:=⟨Tryd.f40,{ nvars:=6,cuts:=[(2,[0,1,7,8],[])] },[]⟩
noncomputable def agh:FI:=⟨Tryd.f41,{ nvars:=6,cuts:=[(2,[0,3],[])] },[]⟩
noncomputable def agi:FI:=⟨Tryd.f42,{ nvars:=3 },[]⟩
noncomputable def agj:FI:=⟨Tryd.f43,{ nvars:=11 },[]⟩
noncomputable def agk:FI:=⟨Tryd.f44,{ shares:=true,rets:=[.fresh],nvars:=14,quiet:=true },[(4,[[],[],[],[],[],[],[],[],[],[],[],[],[]])]⟩
noncomputable def YS:FI:=⟨Tryd.f45,{ shares:=true,rets:=[.deep],nvars:=3,quiet:=true },[]⟩
noncomputable def agl:FI:=⟨Tryd.f46,{ nvars:=6,cuts:=[(4,[0,1,5],[])] },[(6,[[],[],[],[],[],[],[],[],[]])]⟩
noncomputable def Us:FI:=⟨Tryd.f47,{ shares:=true,rets:=[.fresh],nvars:=9,quiet:=true },[]⟩
noncomputable def agm:FI:=⟨Tryd.f48,{ nvars:=5 },[]⟩
noncomputable def agn:FI:=⟨Tryd.f49,{ nvars:=6,cuts:=[(4,[0,1,12,13],[])] },[(6,[[],[],[],[],[],[],[],[],[]])]⟩
noncomputable def agp:FI:=⟨Tryd.f50,{ nvars:=6,cuts:=[(4,[0,1,12,13],[])] },[(6,[[],[],[],[],[],[],[],[],[]])]⟩
noncomputable def agq:FI:=⟨Tryd.f51,{ nvars:=10,cuts:=[(4,[1,2,15,16,17],[])] },[]⟩
noncomputable def agr:FI:=⟨Tryd.f52,{ nvars:=5 },[]⟩
noncomputable def ags:FI:=⟨Tryd.f53,{ nvars:=6,cuts:=[(4,[0,1,12,13],[])] },[(6,[[],[],[],[],[],[],[],[],[]])]⟩
noncomputable def YU:FI:=⟨Tryd.f54,{ shares:=true,rets:=[.deep],nvars:=3,quiet:=true },[]⟩
noncomputable def YW:FI:=⟨Tryd.f55,{ shares:=true,rets:=[.deep],nvars:=3,quiet:=true },[]⟩
noncomputable def YZ:FI:=⟨Tryd.f56,{ shares:=true,rets:=[.fresh],nvars:=3,quiet:=true },[]⟩
noncomputable def agt:FI:=⟨Tryd.f57,{ nvars:=10,fhomes:=[39,54,79],cuts:=[(3,[1,3,11,12,13],[1,3,7990]),(8,[3,42,43,44],[3,7990]),(12,[3,42,43,44,56,57,58],[3,7990])] },[(5,[[38],[38],[19],[19],[19],[19],[19],[19],[19],[19],[19],[19],[19],[19],[19],[19],[19],[19],[19],[19],[19],[]])]⟩
noncomputable def agu:FI:=⟨Tryd.f58,{ nvars:=3 },[]⟩
noncomputable def Yr:FI:=⟨Tryd.f59,{ nvars:=8,yk:=[(false,[.slice true [.int .i64,.int .i64,.int .i64,.slice false [.int .i64],.slice false [.int .i64],.slice false [.int .i64]]]),(false,[.int .i64])],ys:=[0,22],cuts:=[(2,[0,3,5,15,16,17],[5,100000])] },[(4,[[32,1032,2032,3032],[],[],[],[],[],[],[],[],[],[],[],[],[],[]])]⟩
noncomputable def agv:FI:=⟨Tryd.f60,{ shares:=true,rets:=[.fresh,.deep],nvars:=10,quiet:=true },[]⟩
noncomputable def agw:FI:=⟨Tryd.f61,{ nvars:=3 },[]⟩
noncomputable def agx:FI:=⟨Tryd.f62,{ nvars:=3 },[]⟩
noncomputable def agy:FI:=⟨Tryd.f63,{ nvars:=6 },[(4,[[20,1020,2020,3020],[],[],[],[]])]⟩
noncomputable def agz:FI:=⟨Tryd.f64,{ shares:=true,rets:=[.fresh],nvars:=7,quiet:=true },[]⟩
noncomputable def agA:FI:=⟨Tryd.f65,{ shares:=true,nvars:=10,quiet:=true },[(1,[[18,1018,2018,3018,24,1024,2024,3024,30,1030,2030,3030],[18,1018,2018,3018,24,1024,2024,3024,30,1030,2030,3030],[],[],[],[],[],[],[18,1018,2018,3018],[18,1018,2018,3018],[18,1018,2018,3018],[18,1018,2018,3018],[18,1018,2018,3018],[],[18,1018,2018,3018,24,1024,2024,3024],[18,1018,2018,3018,24,1024,2024,3024],[18,1018,2018,3018,24,1024,2024,3024],[18,1018,2018,3018,24,1024,2024,3024],[18,1018,2018,3018,24,1024,2024,3024],[],[],[]])]⟩
noncomputable def agB:FI:=⟨Tryd.f66,{ shares:=true,rets:=[.fresh,.deep],nvars:=17,quiet:=true },[(8,[[],[],[],[],[],[],[],[66,1066,2066,3066],[66,1066,2066,3066],[66,1066,2066,3066],[66,1066,2066,3066],[66,1066,2066,3066],[66,1066,2066,3066],[66,1066,2066,3066],[66,1066,2066,3066],[66,1066,2066,3066],[],[66,1066,2066,3066,76,1076,2076,3076],[66,1066,2066,3066,76,1076,2076,3076],[66,1066,2066,3066,76,1076,2076,3076],[66,1066,2066,3066,76,1076,2076,3076],[66,1066,2066,3066,76,1076,2076,3076],[66,1066,2066,3066,76,1076,2076,3076],[66,1066,2066,3066,76,1076,2076,3076],[],[],[],[]])]⟩
noncomputable def agC:FI:=⟨Tryd.f67,{ nvars:=6,cuts:=[(4,[0,1,5],[])] },[(6,[[],[],[],[],[],[],[],[],[]])]⟩
noncomputable def acW:FI:=⟨Tryd.f68,{ Bd:=.RU rD,Hr:=[112,114],KL:=5,nvars:=8 },[]⟩
noncomputable def acX:FI:=⟨Tryd.f69,{ Bd:=.str,Hr:=[112,114],KL:=5,nvars:=3 },[]⟩
noncomputable def agD:FI:=⟨Tryd.f70,{ nvars:=7,cuts:=[(2,[0,7,8,9],[])] },[]⟩
noncomputable def agE:FI:=⟨Tryd.f71,{ nvars:=3 },[]⟩
noncomputable def agF:FI:=⟨Tryd.f72,{ nvars:=7 },[]⟩
noncomputable def agG:FI:=⟨Tryd.f73,{ shares:=true,rets:=[.fresh],nvars:=14,quiet:=true },[]⟩
noncomputable def agH:FI:=⟨Tryd.f74,{ rets:=[.fresh],nvars:=8 },[]⟩
noncomputable def agI:FI:=⟨Tryd.f75,{ nvars:=5 },[]⟩
noncomputable def agJ:FI:=⟨Tryd.f79,{ nvars:=5 },[]⟩
noncomputable def agK:FI:=⟨Tryd.f80,{ nvars:=5 },[]⟩
noncomputable def agL:FI:=⟨Tryd.f81,{ nvars:=9,vcall:=true,Zl:=76 },[]⟩
noncomputable def agM:FI:=⟨Tryd.f82,{ shares:=true,rets:=[.fresh,.deep],nvars:=8,quiet:=true },[]⟩
noncomputable def agN:FI:=⟨Tryd.f83,{ shares:=true,rets:=[.fresh,.deep],nvars:=10,quiet:=true },[]⟩
noncomputable def agO:FI:=⟨Tryd.f84,{ shares:=true,rets:=[.fresh,.deep],nvars:=15,quiet:=true },[(6,[[13,14],[13,14,13],[14],[13],[],[]])]⟩
noncomputable def agP:FI:=⟨Tryd.f88,{ shares:=true,rets:=[.fresh,.deep],nvars:=12,quiet:=true },[]⟩
noncomputable def agQ:FI:=⟨Tryd.f89,{ nvars:=9 },[]⟩
noncomputable def agR:FI:=⟨Tryd.f90,{ shares:=true,rets:=[.fresh,.deep],nvars:=11,cuts:=[(5,[0,1,6,21,22,23],[]),(15,[9,50],[9,55])] },[]⟩
noncomputable def agS:FI:=⟨Tryd.f94,{ shares:=true,nvars:=12,quiet:=true },[(2,[[22,1022,2022,3022,28,1028,2028,3028,34,1034,2034,3034],[22,1022,2022,3022,28,1028,2028,3028,34,1034,2034,3034],[],[],[],[],[],[],[22,1022,2022,3022],[22,1022,2022,3022],[22,1022,2022,3022],[22,1022,2022,3022],[22,1022,2022,3022],[],[22,1022,2022,3022,28,1028,2028,3028],[22,1022,2022,3022,28,1028,2028,3028],[22,1022,2022,3022,28,1028,2028,3028],[22,1022,2022,3022,28,1028,2028,3028],[22,1022,2022,3022,28,1028,2028,3028],[],[],[]])]⟩
noncomputable def agT:FI:=⟨Tryd.f95,{ shares:=true,rets:=[.func 103 [(true,[.slice true [.int .i64,.int .i64,.int .i64]]),(true,[.slice false [.int .i64]])]],nvars:=5 },[]⟩
noncomputable def acu:FI:=⟨Tryd.f101,{ shares:=true,nvars:=1,quiet:=true },[]⟩
noncomputable def acv:FI:=⟨Tryd.f102,{ rets:=[.fresh],nvars:=10,cuts:=[(4,[0,1,7,15,16,17],[7])] },[]⟩
noncomputable def acw:FI:=⟨Tryd.f103,{ nvars:=5,yk:=[(true,[.int .i64,.int .i64,.int .i64,.slice false [.int .i64],.slice false [.int .i64],.slice false [.int .i64]])],ys:=[0,11],cuts:=[(1,[0,1,2,4],[100000])] },[(3,[[30,1030,2030,3030],[],[],[],[],[],[],[],[],[],[],[],[],[],[],[],[],[],[],[],[],[]])]⟩
noncomputable def tab:Tab:=⟨[(3,ty3),(4,ty4),(5,ty5),(9,ty9),(23,afw),(24,afx),(25,afy),(27,afz),(28,afA),(29,afB),(31,afC),(34,afD),(37,afE),(40,afF),(60,afG),(63,afH),(74,afI),(76,afJ),(82,afK),(93,afL),(98,afM),(99,afN),(100,ace),(110,acf),(112,acg),(114,ach),(118,aci),(125,acj),(128,acn),(133,aco),(141,acp),(150,acr),(153,acs)],
 [(3, fi3), (4, fi4), (5, fi5), (6, fi6), (8, fi8), (9, fi9), (10, adz), (11, adA), (12, afO), (13, afP), (14, afQ), (15, adB), (16, afR), (17, afS), (18, afT), (19, afU), (20, afV), (21, abK), (22, afW), (23, afX), (24, afY), (25, afZ), (26, af0), (27, af2), (28, af4), (29, af5), (30, af6), (31, abL), (32, af7), (33, af8), (34, af9), (35, aga), (36, agb), (37, agc), (38, WY), (39, agd), (40, agf), (41, agh), (42, agi), (43, agj), (44, agk), (45, YS), (46, agl), (47, Us), (48, agm), (49, agn), (50, agp), (51, agq), (52, agr), (53, ags), (54, YU), (55, YW), (56, YZ), (57, agt), (58, agu), (59, Yr), (60, agv), (61, agw), (62, agx), (63, agy), (64, agz), (65, agA), (66, agB), (67, agC), (68, acW), (69, acX), (70, agD), (71, agE), (72, agF), (73, agG), (74, agH), (75, agI), (79, agJ), (80, agK), (81, agL), (82, agM), (83, agN), (84, agO), (88, agP), (89, agQ), (90, agR), (94, agS), (95, agT), (101, acu), (102, acv), (103, acw)], false, [], [], [19, 38, 50, 53, 62, 78, 1000002, 1000003], fun b w => b = true ∧ Lib.TabIs Tryd.prog w "internal/strconv.uint64pow10" .u64 Lib.pow10Tab⟩
end Go.Skm.Prg
