/-
  A text of this claim's proof: what stands below is laid by program; no condition.
-/
import Derived.Test.YtipkmkmngcjdbaaGreatDoorProg
import Derived.Test.YtipkmkmngcjdbaaGreatDoorSkmA
namespace Go.Skm.Fig
open Go
abbrev kindL:List PV:=([.str ⟨#[]⟩,.str ⟨#[100,111,116,115]⟩,.str ⟨#[108,105,110,101]⟩,.str ⟨#[108,111,111,112]⟩,.str ⟨#[114,105,110,103]⟩,.str ⟨#[115,112,104,101,114,101]⟩]:List PV)
abbrev planeL:List PV:=([.str ⟨#[120,121]⟩,.str ⟨#[120,122]⟩,.str ⟨#[121,122]⟩]:List PV)
abbrev kSh:List Kd:=[.int .i64,.slice true [.int .i64,.int .i64,.int .i64],.int .i64,.int .i64,.int .i64,.int .i64]
abbrev kV3:List Kd:=[.int .i64,.int .i64,.int .i64]
def ty3:TI:=⟨.int .i64,1,8,false,(false,[.int .i64]),some (.int .i64 0),false⟩
def ty4:TI:=⟨.bool,1,1,false,(false,[.bool]),some (.bool false),false⟩
def ty5:TI:=⟨.int .u8,1,1,false,(false,[.int .u8]),some (.int .u8 0),false⟩
def ty9:TI:=⟨.string,1,16,false,(false,[.str]),some (.str ⟨#[]⟩),false⟩
def ty23:TI:=⟨.slice 47,1,24,false,(false,[.slice true [.int .i64,.slice true [.int .i64,.int .i64,.int .i64],.int .i64,.int .i64,.int .i64,.int .i64]]),some (.nil),false⟩
def ty26:TI:=⟨.slice 43,1,24,false,(false,[.slice true [.int .i64,.int .i64,.int .i64]]),some (.nil),false⟩
def ty27:TI:=⟨.int .i64,1,8,false,(false,[.int .i64]),some (.int .i64 0),false⟩
def ty43 : TI := ⟨.struct #[⟨ "X", 3, 0, false, "", "", 0⟩, ⟨ "Y", 3, 1, false, "", "", 8⟩, ⟨ "Z", 3, 2, false, "", "", 16⟩], 3, 24, true, (true, [.int .i64, .int .i64, .int .i64]), some (.agg [.int .i64 0, .int .i64 0, .int .i64 0]), true⟩
def ty44:TI:=⟨.int .i64,1,8,false,(false,[.int .i64]),some (.int .i64 0),false⟩
def ty45:TI:=⟨.int .i64,1,8,false,(false,[.int .i64]),some (.int .i64 0),false⟩
def ty47 : TI := ⟨.struct #[⟨ "Kind", 44, 0, false, "", "", 0⟩, ⟨ "Corners", 26, 1, false, "", "", 8⟩, ⟨ "Many", 3, 2, false, "", "", 32⟩, ⟨ "Radius", 3, 3, false, "", "", 40⟩, ⟨ "Step", 3, 4, false, "", "", 48⟩, ⟨ "Plane", 45, 5, false, "", "", 56⟩], 6, 64, true, (true, [.int .i64, .slice true [.int .i64, .int .i64, .int .i64], .int .i64, .int .i64, .int .i64, .int .i64]), some (.agg [.int .i64 0, .nil, .int .i64 0, .int .i64 0, .int .i64 0, .int .i64 0]), false⟩
def ty50:TI:=⟨.func #[43] #[4] false,1,8,false,(false,[.other]),some (.nilfn),false⟩
def ty58:TI:=⟨.map 43 4,1,8,false,(false,[.other]),some (.nilm),false⟩
def ty60:TI:=⟨.func #[50] #[] false,1,8,false,(false,[.other]),some (.nilfn),false⟩
def ty64:TI:=⟨.func #[43,43] #[3] false,1,8,false,(false,[.other]),some (.nilfn),false⟩
def ty65:TI:=⟨.func #[47] #[4] false,1,8,false,(false,[.other]),some (.nilfn),false⟩
def ty69:TI:=⟨.pointer 72,1,8,false,(false,[.other]),some (.nilp),false⟩
def ty70:TI:=⟨.slice 5,1,24,false,(false,[.slice false [.int .u8]]),some (.nil),false⟩
def ty72 : TI := ⟨.struct #[⟨ "addr", 69, 0, false, "", "strings", 0⟩, ⟨ "buf", 70, 1, false, "", "strings", 8⟩], 2, 32, true, (true, [.other, .slice false [.int .u8]]), some (.agg [.nilp, .nil]), false⟩
def ty74 : TI := ⟨.interface #[("Error", 78)], 1, 16, false, (false, [.other]), some (.nilif), false⟩
def ty83:TI:=⟨.slice 9,1,24,false,(false,[.slice false [.str]]),some (.nil),false⟩
def ty91:TI:=⟨.func #[47,47] #[4] false,1,8,false,(false,[.other]),some (.nilfn),false⟩
def ty96:TI:=⟨.array 3 3,3,24,true,(true,[.int .i64,.int .i64,.int .i64]),some (.agg [.int .i64 0,.int .i64 0,.int .i64 0]),false⟩
def ty99:TI:=⟨.slice 3,1,24,false,(false,[.slice false [.int .i64]]),some (.nil),false⟩
def ty103 : TI := ⟨.struct #[⟨ "word", 9, 0, false, "", "skylantern/figure", 0⟩, ⟨ "least", 3, 1, false, "", "skylantern/figure", 16⟩, ⟨ "most", 3, 2, false, "", "skylantern/figure", 24⟩, ⟨ "many", 4, 3, false, "", "skylantern/figure", 32⟩, ⟨ "round", 4, 4, false, "", "skylantern/figure", 33⟩, ⟨ "plane", 4, 5, false, "", "skylantern/figure", 34⟩], 6, 40, true, (true, [.str, .int .i64, .int .i64, .bool, .bool, .bool]), some (.agg [.str ⟨#[]⟩, .int .i64 0, .int .i64 0, .bool false, .bool false, .bool false]), true⟩
def ty107:TI:=⟨.func #[99] #[] true,1,8,false,(false,[.other]),some (.nilfn),false⟩
def ty109:TI:=⟨.pointer 5,1,8,false,(false,[.other]),some (.nilp),false⟩
def ty111:TI:=⟨.func #[] #[3] false,1,8,false,(false,[.other]),some (.nilfn),false⟩
def ty117:TI:=⟨.func #[3,3] #[3] false,1,8,false,(false,[.other]),some (.nilfn),false⟩
noncomputable def fi3:FI:=⟨Go.Proofs.Tryz.f3,{ nvars:=7 },[]⟩
noncomputable def fi4:FI:=⟨Go.Proofs.Tryz.f4,{ nvars:=5 },[]⟩
noncomputable def fi5:FI:=⟨Go.Proofs.Tryz.f5,{ nvars:=12,cuts:=[(5,[0,1,5],[])] },[]⟩
noncomputable def fi7:FI:=⟨Go.Proofs.Tryz.f7,{ nvars:=22,cuts:=[(10,[12,13],[12])] },[]⟩
noncomputable def fi8:FI:=⟨Go.Proofs.Tryz.f8,{ nvars:=39,cuts:=[(20,[0,6,19,20,23,24,187,188,189],[6,19,20,21]),(43,[0,6,19,30,265,266],[6,19,30]),(51,[283,284,285],[]),(59,[35,37,283,284,285,315,316],[35,37])] },[(23,[[],[],[],[],[],[],[],[],[],[],[],[]]),(26,[[],[],[],[],[],[],[],[],[],[],[],[]]),(45,[[278,1278,2278,3278],[278,1278,2278,3278],[278,1278,2278,3278],[278,1278,2278,3278],[],[],[],[],[],[],[]]),(57,[[37],[37],[37],[37],[37],[37],[37],[37],[37],[313,1313,2313,3313],[]]),(61,[[],[],[],[],[],[],[324,1324,2324,3324],[324,1324,2324,3324],[324,1324,2324,3324],[324,1324,2324,3324],[324,1324,2324,3324],[324,1324,2324,3324],[324,1324,2324,3324],[324,1324,2324,3324],[]])]⟩
noncomputable def fi9:FI:=⟨Go.Proofs.Tryz.f9,{ nvars:=5 },[]⟩
noncomputable def fi10:FI:=⟨Go.Proofs.Tryz.f10,{ nvars:=5,cuts:=[(2,[0,5,6,7],[])] },[]⟩
noncomputable def fi11:FI:=⟨Go.Proofs.Tryz.f11,{ nvars:=5,cuts:=[(2,[5,6,7],[])] },[]⟩
noncomputable def fi12:FI:=⟨Go.Proofs.Tryz.f12,{ nvars:=23,cuts:=[(10,[3,8,10],[3,8])] },[(12,[[101,1101,2101,3101],[101,1101,2101,3101],[101,1101,2101,3101],[101,1101,2101,3101],[],[],[],[],[],[],[],[],[],[]])]⟩
noncomputable def fi13:FI:=⟨Go.Proofs.Tryz.f13,{ rets:=[.fresh,.deep],nvars:=8,alts:=[(1000008,[(19,[(92,[(true,[.slice true [.int .i64,.int .i64,.int .i64]])]),(93,[(true,[.int .i64,.slice true [.int .i64,.int .i64,.int .i64],.int .i64,.int .i64,.int .i64,.int .i64])]),(95,[(true,[.int .i64,.slice true [.int .i64,.int .i64,.int .i64],.int .i64,.int .i64,.int .i64,.int .i64])])])])],cuts:=[(5,[2,3,4,12,13,14],[2,3,4,11]),(8,[2,3,4,12,13,14,19],[2,3,4,11])] },[]⟩
noncomputable def fi14:FI:=⟨Go.Proofs.Tryz.f14,{ nvars:=4,cuts:=[(2,[0,3],[])] },[]⟩
noncomputable def fi15:FI:=⟨Go.Proofs.Tryz.f15,{ rets:=[.fresh,.deep],nvars:=7,cuts:=[(3,[0,4,5],[4])] },[]⟩
noncomputable def fi16:FI:=⟨Go.Proofs.Tryz.f16,{ nvars:=6,cuts:=[(4,[0,1,5],[])] },[(6,[[],[],[],[],[],[],[],[],[]])]⟩
noncomputable def fi17:FI:=⟨Go.Proofs.Tryz.f17,{ nvars:=7,cuts:=[(5,[4,10,11,12],[4,19])] },[]⟩
noncomputable def fi18:FI:=⟨Go.Proofs.Tryz.f18,{ nvars:=5,cuts:=[(3,[0,3,4],[])] },[]⟩
noncomputable def fi19:FI:=⟨Go.Proofs.Tryz.f19,{ shares:=true,rets:=[.fresh,.deep,.deep],nvars:=12,cuts:=[(3,[0,5,6],[5])] },[]⟩
noncomputable def fi20:FI:=⟨Go.Proofs.Tryz.f20,{ shares:=true,rets:=[.fresh,.deep,.deep],nvars:=10,cuts:=[(4,[5,6,7],[5,6])] },[]⟩
noncomputable def fi21:FI:=⟨Go.Proofs.Tryz.f21,{ nvars:=8,cuts:=[(4,[0,1,5],[])] },[(6,[[6,7],[6,7],[6,7],[6,7],[6,7,6],[6,7,6],[6,7,6],[6,7,6],[7],[6],[],[]])]⟩
noncomputable def fi22:FI:=⟨Go.Proofs.Tryz.f22,{ shares:=true,rets:=[.fresh,.deep],nvars:=13,cuts:=[(5,[3,6,21,22,23],[3,6]),(9,[3,6,8,21,22,23,32,33,34],[3,6,8,29])] },[]⟩
noncomputable def fi25:FI:=⟨Go.Proofs.Tryz.f25,{ nvars:=6 },[]⟩
noncomputable def fi26:FI:=⟨Go.Proofs.Tryz.f26,{ nvars:=4 },[]⟩
noncomputable def fi27:FI:=⟨Go.Proofs.Tryz.f27,{ nvars:=4 },[(1,[[7,1007,2007,3007],[],[],[],[]])]⟩
noncomputable def fi28:FI:=⟨Go.Proofs.Tryz.f28,{ nvars:=3 },[]⟩
noncomputable def fi29:FI:=⟨Go.Proofs.Tryz.f29,{ nvars:=5 },[]⟩
noncomputable def fi30:FI:=⟨Go.Proofs.Tryz.f30,{ shares:=true,rets:=[.fnAny],nvars:=3 },[]⟩
noncomputable def fi31:FI:=⟨Go.Proofs.Tryz.f31,{ nvars:=3 },[]⟩
noncomputable def fi32:FI:=⟨Go.Proofs.Tryz.f32,{ rets:=[.fresh],nvars:=6 },[]⟩
noncomputable def fi33:FI:=⟨Go.Proofs.Tryz.f33,{ shares:=true,rets:=[.func 64 [(true,[.other])]],nvars:=3 },[]⟩
noncomputable def fi34:FI:=⟨Go.Proofs.Tryz.f34,{ nvars:=7 },[(1,[[5,6],[5,6],[8,1008,2008,3008,5,6],[5,6],[8,1008,2008,3008,10,1010,2010,3010,6],[8,1008,2008,3008,10,1010,2010,3010,5],[],[]]),(2,[[],[],[],[]])]⟩
noncomputable def fi35:FI:=⟨Go.Proofs.Tryz.f35,{ nvars:=6 },[]⟩
noncomputable def fi36:FI:=⟨Go.Proofs.Tryz.f36,{ shares:=true,rets:=[.deep],nvars:=13,cuts:=[(9,[1,3,4,5],[1,3]),(17,[1,3,4,6,7],[1,3]),(20,[1,3,4,6,7,8],[1,3]),(28,[1,3,4,6,7,8,12],[1,3])] },[(11,[[42,1042,2042,3042],[],[],[],[],[],[],[],[],[],[],[],[],[],[]]),(13,[[59,1059,2059,3059],[],[],[],[],[],[],[],[],[],[],[],[],[],[]]),(24,[[],[],[],[],[],[],[],[],[],[]]),(26,[[117,1117,2117,3117,118],[],[],[],[],[],[],[],[]]),(31,[[157,1157,2157,3157,158],[],[],[],[],[],[],[],[],[],[],[],[],[],[],[],[],[],[],[],[]])]⟩
noncomputable def fi37:FI:=⟨Go.Proofs.Tryz.f37,{ nvars:=4,cuts:=[(2,[0,3],[])] },[]⟩
noncomputable def fi38:FI:=⟨Go.Proofs.Tryz.f38,{ shares:=true,rets:=[.deep],nvars:=6,quiet:=true,cuts:=[(5,[3,4,5],[5])] },[(3,[[],[],[],[],[],[],[15,1015,2015,3015],[15,1015,2015,3015],[15,1015,2015,3015],[15,1015,2015,3015],[15,1015,2015,3015],[],[],[]]),(6,[[],[],[],[],[],[],[],[],[],[],[],[],[],[],[],[],[],[]]),(7,[[],[],[],[],[],[],[],[],[],[],[],[]])]⟩
noncomputable def fi39:FI:=⟨Go.Proofs.Tryz.f39,{ shares:=true,prim:=.wstr,primTs:=[72],primE:=5,nvars:=6 },[]⟩
noncomputable def fi40:FI:=⟨Go.Proofs.Tryz.f40,{ nvars:=9,cuts:=[(11,[5,6,49,50,51],[5,17])] },[(7,[[37],[],[],[],[],[],[],[],[],[],[],[]])]⟩
noncomputable def fi41:FI:=⟨Go.Proofs.Tryz.f41,{ prim:=.str,primTs:=[72],primE:=5,nvars:=3 },[]⟩
noncomputable def fi42:FI:=⟨Go.Proofs.Tryz.f42,{ nvars:=5,cuts:=[(9,[1,3,4],[1])] },[(7,[[42,1042,2042,3042,47,1047,2047,3047],[42,1042,2042,3042,47,1047,2047,3047],[],[],[],[47,1047,2047,3047],[47,1047,2047,3047],[42,1042,2042,3042],[42,1042,2042,3042],[],[],[]]),(11,[[64,1064,2064,3064,73,1073,2073,3073,82,1082,2082,3082],[64,1064,2064,3064,73,1073,2073,3073,82,1082,2082,3082],[],[],[],[],[],[],[],[73,1073,2073,3073,82,1082,2082,3082],[73,1073,2073,3073,82,1082,2082,3082],[64,1064,2064,3064],[64,1064,2064,3064],[64,1064,2064,3064],[64,1064,2064,3064],[64,1064,2064,3064],[64,1064,2064,3064],[],[82,1082,2082,3082],[82,1082,2082,3082],[64,1064,2064,3064,73,1073,2073,3073],[64,1064,2064,3064,73,1073,2073,3073],[64,1064,2064,3064,73,1073,2073,3073],[64,1064,2064,3064,73,1073,2073,3073],[64,1064,2064,3064,73,1073,2073,3073],[64,1064,2064,3064,73,1073,2073,3073],[],[],[]])]⟩
noncomputable def fi43:FI:=⟨Go.Proofs.Tryz.f43,{ nvars:=7 },[]⟩
noncomputable def fi44:FI:=⟨Go.Proofs.Tryz.f44,{ shares:=true,nvars:=11,cuts:=[(5,[0,2,4,5,6,7],[2,4,5,6]),(19,[0,2,4,5,10],[2,4,5,75])] },[(8,[[],[],[],[],[],[]]),(9,[[],[5],[],[],[]]),(20,[[68,1068,2068,3068,4,70,1070,2070,3070,4,72,1072,2072,3072,4,74],[68,1068,2068,3068,4,70,1070,2070,3070,4,72,1072,2072,3072,4,74],[],[],[68,1068,2068,3068,4],[],[68,1068,2068,3068,4,70,1070,2070,3070,4],[],[],[],[],[],[]]),(21,[[79,1079,2079,3079,82,1082,2082,3082],[],[],[],[],[],[82,1082,2082,3082,2],[2],[2],[],[]])]⟩
noncomputable def fi45:FI:=⟨Go.Proofs.Tryz.f45,{ rets:=[.fresh],nvars:=7,cuts:=[(3,[0,1,5,6],[5])] },[(7,[[],[],[],[],[],[],[],[],[],[],[],[],[],[],[],[],[],[]])]⟩
noncomputable def fi46:FI:=⟨Go.Proofs.Tryz.f46,{ shares:=true,nvars:=13,fhomes:=[160],cuts:=[(4,[2,4,5,6],[2,4,5]),(13,[2,4,5,7],[2,4,5]),(20,[2,4,5,8,9],[2,4,5,8]),(33,[2,5,8,12],[2,5,8,5160])] },[(6,[[],[20],[],[],[20],[20],[20],[]]),(15,[[],[61],[],[],[61],[61],[61],[]]),(27,[[],[],[],[5],[5],[],[],[]]),(29,[[],[],[],[5],[5],[5],[5,5],[5,5],[],[],[],[],[]]),(35,[[159],[159],[],[],[],[],[],[],[],[],[],[],[],[],[],[],[],[],[],[],[]]),(36,[[164,1164,2164,3164],[],[],[],[]])]⟩
noncomputable def fi47:FI:=⟨Go.Proofs.Tryz.f47,{ nvars:=3 },[]⟩
noncomputable def fi48:FI:=⟨Go.Proofs.Tryz.f48,{ rets:=[.fresh],nvars:=3 },[]⟩
noncomputable def fi49:FI:=⟨Go.Proofs.Tryz.f49,{ nvars:=6 },[]⟩
noncomputable def fi50:FI:=⟨Go.Proofs.Tryz.f50,{ nvars:=6,cuts:=[(2,[1,2,5],[2])] },[]⟩
noncomputable def fi51:FI:=⟨Go.Proofs.Tryz.f51,{ nvars:=2 },[]⟩
noncomputable def fi52:FI:=⟨Go.Proofs.Tryz.f52,{ nvars:=5 },[]⟩
noncomputable def fi53:FI:=⟨Go.Proofs.Tryz.f53,{ nvars:=3 },[]⟩
noncomputable def fi54:FI:=⟨Go.Proofs.Tryz.f54,{ nvars:=5 },[]⟩
noncomputable def fi55:FI:=⟨Go.Proofs.Tryz.f55,{ nvars:=10,cuts:=[(4,[1,2,15,16,17],[])] },[]⟩
noncomputable def fi56:FI:=⟨Go.Proofs.Tryz.f56,{ nvars:=5 },[]⟩
noncomputable def fi57:FI:=⟨Go.Proofs.Tryz.f57,{ nvars:=6,cuts:=[(4,[0,1,12,13],[])] },[(6,[[],[],[],[],[],[],[],[],[]])]⟩
noncomputable def fi58:FI:=⟨Go.Proofs.Tryz.f58,{ shares:=true,rets:=[.func 92 [(true,[.slice true [.int .i64,.int .i64,.int .i64]])]],nvars:=3 },[]⟩
noncomputable def fi59:FI:=⟨Go.Proofs.Tryz.f59,{ shares:=true,rets:=[.func 93 [(true,[.int .i64,.slice true [.int .i64,.int .i64,.int .i64],.int .i64,.int .i64,.int .i64,.int .i64])]],nvars:=3 },[]⟩
noncomputable def fi60:FI:=⟨Go.Proofs.Tryz.f60,{ shares:=true,rets:=[.func 95 [(true,[.int .i64,.slice true [.int .i64,.int .i64,.int .i64],.int .i64,.int .i64,.int .i64,.int .i64])]],nvars:=3 },[]⟩
noncomputable def fi61:FI:=⟨Go.Proofs.Tryz.f61,{ nvars:=7,cuts:=[(2,[0,7,8,9],[])] },[]⟩
noncomputable def fi64:FI:=⟨Go.Proofs.Tryz.f64,{ nvars:=4 },[]⟩
noncomputable def fi65:FI:=⟨Go.Proofs.Tryz.f65,{ nvars:=2 },[]⟩
noncomputable def fi66:FI:=⟨Go.Proofs.Tryz.f66,{ nvars:=9,cuts:=[(2,[0,1,9,10,11],[])] },[]⟩
noncomputable def fi67:FI:=⟨Go.Proofs.Tryz.f67,{ nvars:=7 },[]⟩
noncomputable def fi68:FI:=⟨Go.Proofs.Tryz.f68,{ rets:=[.fresh],nvars:=9,cuts:=[(3,[2,3,4,7,8],[3,4,7])] },[]⟩
noncomputable def fi69:FI:=⟨Go.Proofs.Tryz.f69,{ nvars:=5 },[]⟩
noncomputable def fi70:FI:=⟨Go.Proofs.Tryz.f70,{ nvars:=3 },[]⟩
noncomputable def fi71:FI:=⟨Go.Proofs.Tryz.f71,{ nvars:=6,cuts:=[(2,[2,3,5],[2,3])] },[(4,[[],[],[],[12,1012,2012,3012],[12,1012,2012,3012],[],[]]),(6,[[],[],[],[19,1019,2019,3019],[19,1019,2019,3019],[],[]])]⟩
noncomputable def fi73:FI:=⟨Go.Proofs.Tryz.f73,{ nvars:=4 },[]⟩
noncomputable def fi74:FI:=⟨Go.Proofs.Tryz.f74,{ nvars:=5,vcall:=true,vElem:=9,cuts:=[(1,[1,5,6,7],[99999,100000])] },[(3,[[13,1013,2013,3013,14],[],[],[],[],[]])]⟩
noncomputable def fi75:FI:=⟨Go.Proofs.Tryz.f75,{ nvars:=3 },[]⟩
noncomputable def fi76:FI:=⟨Go.Proofs.Tryz.f76,{ nvars:=11 },[]⟩
noncomputable def fi77:FI:=⟨Go.Proofs.Tryz.f77,{ nvars:=3 },[]⟩
noncomputable def fi79:FI:=⟨Go.Proofs.Tryz.f79,{ shares:=true,rets:=[.deep],nvars:=5 },[]⟩
noncomputable def fi80:FI:=⟨Go.Proofs.Tryz.f80,{ byRef:=true,nvars:=4 },[]⟩
noncomputable def fi81:FI:=⟨Go.Proofs.Tryz.f81,{ shares:=true,nvars:=6 },[]⟩
noncomputable def fi82:FI:=⟨Go.Proofs.Tryz.f82,{ nvars:=5 },[]⟩
noncomputable def fi83:FI:=⟨Go.Proofs.Tryz.f83,{ nvars:=7,cuts:=[(3,[0,4,5,6],[])] },[(1,[[],[],[],[],[],[],[],[],[],[]])]⟩
noncomputable def fi84:FI:=⟨Go.Proofs.Tryz.f84,{ nvars:=4 },[]⟩
noncomputable def fi85:FI:=⟨Go.Proofs.Tryz.f85,{ nvars:=6 },[(1,[[],[],[],[],[],[],[12,1012,2012,3012],[12,1012,2012,3012],[12,1012,2012,3012],[12,1012,2012,3012],[12,1012,2012,3012],[],[12,1012,2012,3012,18,1018,2018,3018],[12,1012,2012,3012,18,1018,2018,3018],[12,1012,2012,3012,18,1018,2018,3018],[12,1012,2012,3012,18,1018,2018,3018],[12,1012,2012,3012,18,1018,2018,3018],[],[],[]])]⟩
noncomputable def fi86:FI:=⟨Go.Proofs.Tryz.f86,{ nvars:=5 },[]⟩
noncomputable def fi87:FI:=⟨Go.Proofs.Tryz.f87,{ nvars:=5 },[]⟩
noncomputable def fi88:FI:=⟨Go.Proofs.Tryz.f88,{ nvars:=6,cuts:=[(2,[0,1,7,8],[])] },[]⟩
noncomputable def fi89:FI:=⟨Go.Proofs.Tryz.f89,{ nvars:=7 },[]⟩
noncomputable def fi90:FI:=⟨Go.Proofs.Tryz.f90,{ nvars:=5 },[]⟩
noncomputable def fi91:FI:=⟨Go.Proofs.Tryz.f91,{ nvars:=3 },[]⟩
noncomputable def fi92:FI:=⟨Go.Proofs.Tryz.f92,{ nvars:=5,yk:=[(true,[.int .i64,.int .i64,.int .i64])],ys:=[0,11],cuts:=[(1,[0,5,6,7],[100000])] },[]⟩
noncomputable def fi93:FI:=⟨Go.Proofs.Tryz.f93,{ nvars:=9,yk:=[(true,[.int .i64,.int .i64,.int .i64])],ys:=[0,53],cuts:=[(1,[0,1,10,11,12],[100000]),(6,[0,1,4,5,10,11,12,40,41],[4,5,100000])] },[(4,[[5],[5],[5],[5],[5],[5],[5],[5],[5],[5],[],[]])]⟩
noncomputable def fi94:FI:=⟨Go.Proofs.Tryz.f94,{ nvars:=10 },[]⟩
noncomputable def fi95:FI:=⟨Go.Proofs.Tryz.f95,{ nvars:=11,yk:=[(true,[.int .i64,.int .i64,.int .i64])],ys:=[0,102],cuts:=[(5,[0,1,3,4,5,6],[4,100000]),(8,[0,1,3,4,5,6,7],[4,100000]),(11,[0,1,3,4,5,6,7,8],[4,100000])] },[(0,[[4],[4],[4],[4],[4],[4],[],[],[]])]⟩
noncomputable def fi99:FI:=⟨Go.Proofs.Tryz.f99,{ nvars:=7 },[]⟩
noncomputable def fi100:FI:=⟨Go.Proofs.Tryz.f100,{ nvars:=10 },[(2,[[19,1019,2019,3019,25,1025,2025,3025,31,1031,2031,3031],[],[],[],[],[],[],[19,1019,2019,3019],[19,1019,2019,3019],[19,1019,2019,3019],[19,1019,2019,3019],[19,1019,2019,3019],[],[19,1019,2019,3019,25,1025,2025,3025],[19,1019,2019,3019,25,1025,2025,3025],[19,1019,2019,3019,25,1025,2025,3025],[19,1019,2019,3019,25,1025,2025,3025],[19,1019,2019,3019,25,1025,2025,3025],[],[],[],[]])]⟩
noncomputable def fi108:FI:=⟨Go.Proofs.Tryz.f108,{ nvars:=6,cuts:=[(2,[0,1,7,8],[])] },[]⟩
noncomputable def fi109:FI:=⟨Go.Proofs.Tryz.f109,{ nvars:=10 },[(1,[[],[],[],[],[],[],[],[],[],[],[],[]])]⟩
noncomputable def fi120:FI:=⟨Go.Proofs.Tryz.f120,{ nvars:=3 },[]⟩
noncomputable def fi121:FI:=⟨Go.Proofs.Tryz.f121,{ nvars:=6,cuts:=[(2,[0,1,5],[]),(4,[0,1,5],[])] },[]⟩
noncomputable def tab:Tab:=⟨[(3,ty3),(4,ty4),(5,ty5),(9,ty9),(23,ty23),(26,ty26),(27,ty27),(43,ty43),(44,ty44),(45,ty45),(47,ty47),(50,ty50),(58,ty58),(60,ty60),(64,ty64),(65,ty65),(69,ty69),(70,ty70),(72,ty72),(74,ty74),(83,ty83),(91,ty91),(96,ty96),(99,ty99),(103,ty103),(107,ty107),(109,ty109),(111,ty111),(117,ty117)],
 [(3,fi3),(4,fi4),(5,fi5),(7,fi7),(8,fi8),(9,fi9),(10,fi10),(11,fi11),(12,fi12),(13,fi13),(14,fi14),(15,fi15),(16,fi16),(17,fi17),(18,fi18),(19,fi19),(20,fi20),(21,fi21),(22,fi22),(25,fi25),(26,fi26),(27,fi27),(28,fi28),(29,fi29),(30,fi30),(31,fi31),(32,fi32),(33,fi33),(34,fi34),(35,fi35),(36,fi36),(37,fi37),(38,fi38),(39,fi39),(40,fi40),(41,fi41),(42,fi42),(43,fi43),(44,fi44),(45,fi45),(46,fi46),(47,fi47),(48,fi48),(49,fi49),(50,fi50),(51,fi51),(52,fi52),(53,fi53),(54,fi54),(55,fi55),(56,fi56),(57,fi57),(58,fi58),(59,fi59),(60,fi60),(61,fi61),(64,fi64),(65,fi65),(66,fi66),(67,fi67),(68,fi68),(69,fi69),(70,fi70),(71,fi71),(73,fi73),(74,fi74),(75,fi75),(76,fi76),(77,fi77),(79,fi79),(80,fi80),(81,fi81),(82,fi82),(83,fi83),(84,fi84),(85,fi85),(86,fi86),(87,fi87),(88,fi88),(89,fi89),(90,fi90),(91,fi91),(92,fi92),(93,fi93),(94,fi94),(95,fi95),(99,fi99),(100,fi100),(108,fi108),(109,fi109),(120,fi120),(121,fi121)],false,[(68,4),(70,4),(72,4),(1001015,100000)]⟩
end Go.Skm.Fig
