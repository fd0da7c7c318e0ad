/-
  A text of this aiH proof: what stands below is laid by program; no condition.
-/
import Derived.Test.YtipkmkmngcjdbaaGreatDoorProg
import Derived.Test.YtipkmkmngcjdbaaGreatDoorSkmA
namespace Go.Skm.Fig
open Go
abbrev gJ:List Kd:=[.int .i64,.slice true [.int .i64,.int .i64,.int .i64],.int .i64,.int .i64,.int .i64,.int .i64]
abbrev gU:List Kd:=[.int .i64,.int .i64,.int .i64]
def ty3:TI:=⟨.int .i64,1,8,false,(false,[.int .i64]),some (.int .i64 0),false⟩
def ty4:TI:=⟨.bool,1,1,false,(false,[.bool]),some (.bool false),false⟩
def ty5:TI:=⟨.int .u8,1,1,false,(false,[.int .u8]),some (.int .u8 0),false⟩
def ty9:TI:=⟨.string,1,16,false,(false,[.str]),some (.str ⟨#[]⟩),false⟩
def afc:TI:=⟨.slice 47,1,24,false,(false,[.slice true [.int .i64,.slice true [.int .i64,.int .i64,.int .i64],.int .i64,.int .i64,.int .i64,.int .i64]]),some (.nil),false⟩
def afd:TI:=⟨.slice 43,1,24,false,(false,[.slice true [.int .i64,.int .i64,.int .i64]]),some (.nil),false⟩
def afe:TI:=⟨.int .i64,1,8,false,(false,[.int .i64]),some (.int .i64 0),false⟩
def aff : TI := ⟨.struct #[⟨ "X", 3, 0, false, "", "", 0⟩, ⟨ "Y", 3, 1, false, "", "", 8⟩, ⟨ "Z", 3, 2, false, "", "", 16⟩], 3, 24, true, (true, [.int .i64, .int .i64, .int .i64]), some (.agg [.int .i64 0, .int .i64 0, .int .i64 0]), true⟩
def afg:TI:=⟨.int .i64,1,8,false,(false,[.int .i64]),some (.int .i64 0),false⟩
def afh:TI:=⟨.int .i64,1,8,false,(false,[.int .i64]),some (.int .i64 0),false⟩
def afi : TI := ⟨.struct #[⟨ "Kind", 44, 0, false, "", "", 0⟩, ⟨ "Corners", 26, 1, false, "", "", 8⟩, ⟨ "Many", 3, 2, false, "", "", 32⟩, ⟨ "Radius", 3, 3, false, "", "", 40⟩, ⟨ "Step", 3, 4, false, "", "", 48⟩, ⟨ "Plane", 45, 5, false, "", "", 56⟩], 6, 64, true, (true, [.int .i64, .slice true [.int .i64, .int .i64, .int .i64], .int .i64, .int .i64, .int .i64, .int .i64]), some (.agg [.int .i64 0, .nil, .int .i64 0, .int .i64 0, .int .i64 0, .int .i64 0]), false⟩
def afj:TI:=⟨.func #[43] #[4] false,1,8,false,(false,[.other]),some (.jL),false⟩
def afk:TI:=⟨.map 43 4,1,8,false,(false,[.other]),some (.Po),false⟩
def afl:TI:=⟨.func #[50] #[] false,1,8,false,(false,[.other]),some (.jL),false⟩
def afm:TI:=⟨.func #[43,43] #[3] false,1,8,false,(false,[.other]),some (.jL),false⟩
def afn:TI:=⟨.func #[47] #[4] false,1,8,false,(false,[.other]),some (.jL),false⟩
def afo:TI:=⟨.pointer 72,1,8,false,(false,[.other]),some (.zS),false⟩
def afp:TI:=⟨.slice 5,1,24,false,(false,[.slice false [.int .u8]]),some (.nil),false⟩
def afq : TI := ⟨.struct #[⟨ "addr", 69, 0, false, "", "strings", 0⟩, ⟨ "buf", 70, 1, false, "", "strings", 8⟩], 2, 32, true, (true, [.other, .slice false [.int .u8]]), some (.agg [.zS, .nil]), false⟩
def afr : TI := ⟨.interface #[("Error", 78)], 1, 16, false, (false, [.other]), some (.oO), false⟩
def afs:TI:=⟨.slice 9,1,24,false,(false,[.slice false [.str]]),some (.nil),false⟩
def aft:TI:=⟨.func #[47,47] #[4] false,1,8,false,(false,[.other]),some (.jL),false⟩
def afu:TI:=⟨.array 3 3,3,24,true,(true,[.int .i64,.int .i64,.int .i64]),some (.agg [.int .i64 0,.int .i64 0,.int .i64 0]),false⟩
def afv:TI:=⟨.slice 3,1,24,false,(false,[.slice false [.int .i64]]),some (.nil),false⟩
def abN : TI := ⟨.struct #[⟨ "word", 9, 0, false, "", "skylantern/figure", 0⟩, ⟨ "least", 3, 1, false, "", "skylantern/figure", 16⟩, ⟨ "most", 3, 2, false, "", "skylantern/figure", 24⟩, ⟨ "many", 4, 3, false, "", "skylantern/figure", 32⟩, ⟨ "round", 4, 4, false, "", "skylantern/figure", 33⟩, ⟨ "plane", 4, 5, false, "", "skylantern/figure", 34⟩], 6, 40, true, (true, [.str, .int .i64, .int .i64, .bool, .bool, .bool]), some (.agg [.str ⟨#[]⟩, .int .i64 0, .int .i64 0, .bool false, .bool false, .bool false]), true⟩
def abO:TI:=⟨.func #[99] #[] true,1,8,false,(false,[.other]),some (.jL),false⟩
def abP:TI:=⟨.pointer 5,1,8,false,(false,[.other]),some (.zS),false⟩
def abQ:TI:=⟨.func #[] #[3] false,1,8,false,(false,[.other]),some (.jL),false⟩
def abR:TI:=⟨.func #[3,3] #[3] false,1,8,false,(false,[.other]),some (.jL),false⟩
noncomputable def fi3:FI:=⟨Go.Proofs.Tryz.f3,{ nvars:=7 },[]⟩
noncomputable def fi4:FI:=⟨Go.Proofs.Tryz.f4,{ nvars:=5 },[]⟩
noncomputable def fi5:FI:=⟨Go.Proofs.Tryz.f5,{ nvars:=12,cuts:=[(5,[0,1,5],[])] },[]⟩
noncomputable def fi7:FI:=⟨Go.Proofs.Tryz.f7,{ nvars:=22,cuts:=[(10,[12,13],[12])] },[]⟩
noncomputable def fi8:FI:=⟨Go.Proofs.Tryz.f8,{ nvars:=39,cuts:=[(20,[0,6,19,20,23,24,187,188,189],[6,19,20,21]),(43,[0,6,19,30,265,266],[6,19,30]),(51,[283,284,285],[]),(59,[35,37,283,284,285,315,316],[35,37])] },[(23,[[],[],[],[],[],[],[],[],[],[],[],[]]),(26,[[],[],[],[],[],[],[],[],[],[],[],[]]),(45,[[278,1278,2278,3278],[278,1278,2278,3278],[278,1278,2278,3278],[278,1278,2278,3278],[],[],[],[],[],[],[]]),(57,[[37],[37],[37],[37],[37],[37],[37],[37],[37],[313,1313,2313,3313],[]]),(61,[[],[],[],[],[],[],[324,1324,2324,3324],[324,1324,2324,3324],[324,1324,2324,3324],[324,1324,2324,3324],[324,1324,2324,3324],[324,1324,2324,3324],[324,1324,2324,3324],[324,1324,2324,3324],[]])]⟩
noncomputable def fi9:FI:=⟨Go.Proofs.Tryz.f9,{ nvars:=5 },[]⟩
noncomputable def acR:FI:=⟨Go.Proofs.Tryz.f10,{ nvars:=5,cuts:=[(2,[0,5,6,7],[])] },[]⟩
noncomputable def afw:FI:=⟨Go.Proofs.Tryz.f11,{ nvars:=5,cuts:=[(2,[5,6,7],[])] },[]⟩
noncomputable def acQ:FI:=⟨Go.Proofs.Tryz.f12,{ nvars:=23,cuts:=[(10,[3,8,10],[3,8])] },[(12,[[101,1101,2101,3101],[101,1101,2101,3101],[101,1101,2101,3101],[101,1101,2101,3101],[],[],[],[],[],[],[],[],[],[]])]⟩
noncomputable def afx:FI:=⟨Go.Proofs.Tryz.f13,{ rets:=[.fresh,.deep],nvars:=8,alts:=[(1000008,[(19,[(92,[(true,[.slice true [.int .i64,.int .i64,.int .i64]])]),(93,[(true,[.int .i64,.slice true [.int .i64,.int .i64,.int .i64],.int .i64,.int .i64,.int .i64,.int .i64])]),(95,[(true,[.int .i64,.slice true [.int .i64,.int .i64,.int .i64],.int .i64,.int .i64,.int .i64,.int .i64])])])])],cuts:=[(5,[2,3,4,12,13,14],[2,3,4,11]),(8,[2,3,4,12,13,14,19],[2,3,4,11])] },[]⟩
noncomputable def acT:FI:=⟨Go.Proofs.Tryz.f14,{ nvars:=4,cuts:=[(2,[0,3],[])] },[]⟩
noncomputable def afy:FI:=⟨Go.Proofs.Tryz.f15,{ rets:=[.fresh,.deep],nvars:=7,cuts:=[(3,[0,4,5],[4])] },[]⟩
noncomputable def afz:FI:=⟨Go.Proofs.Tryz.f16,{ nvars:=6,cuts:=[(4,[0,1,5],[])] },[(6,[[],[],[],[],[],[],[],[],[]])]⟩
noncomputable def afA:FI:=⟨Go.Proofs.Tryz.f17,{ nvars:=7,cuts:=[(5,[4,10,11,12],[4,19])] },[]⟩
noncomputable def afB:FI:=⟨Go.Proofs.Tryz.f18,{ nvars:=5,cuts:=[(3,[0,3,4],[])] },[]⟩
noncomputable def afC:FI:=⟨Go.Proofs.Tryz.f19,{ shares:=true,rets:=[.fresh,.deep,.deep],nvars:=12,cuts:=[(3,[0,5,6],[5])] },[]⟩
noncomputable def afD:FI:=⟨Go.Proofs.Tryz.f20,{ shares:=true,rets:=[.fresh,.deep,.deep],nvars:=10,cuts:=[(4,[5,6,7],[5,6])] },[]⟩
noncomputable def acS:FI:=⟨Go.Proofs.Tryz.f21,{ nvars:=8,cuts:=[(4,[0,1,5],[])] },[(6,[[6,7],[6,7],[6,7],[6,7],[6,7,6],[6,7,6],[6,7,6],[6,7,6],[7],[6],[],[]])]⟩
noncomputable def afE:FI:=⟨Go.Proofs.Tryz.f22,{ shares:=true,rets:=[.fresh,.deep],nvars:=13,cuts:=[(5,[3,6,21,22,23],[3,6]),(9,[3,6,8,21,22,23,32,33,34],[3,6,8,29])] },[]⟩
noncomputable def acU:FI:=⟨Go.Proofs.Tryz.f23,{ nvars:=3 },[]⟩
noncomputable def acY:FI:=⟨Go.Proofs.Tryz.f24,{ shares:=true,rets:=[.fresh,.deep],nvars:=10,fhomes:=[44],cuts:=[(3,[0,3,6,7],[3,6]),(8,[0,3,6,7,8,9],[3,6,8,5044])] },[(10,[[42,1042,2042,3042,43],[42,1042,2042,3042,43],[],[],[],[],[],[],[],[],[],[],[],[],[],[]])]⟩
noncomputable def afF:FI:=⟨Go.Proofs.Tryz.f25,{ nvars:=6 },[]⟩
noncomputable def afG:FI:=⟨Go.Proofs.Tryz.f26,{ nvars:=4 },[]⟩
noncomputable def afH:FI:=⟨Go.Proofs.Tryz.f27,{ nvars:=4 },[(1,[[7,1007,2007,3007],[],[],[],[]])]⟩
noncomputable def acV:FI:=⟨Go.Proofs.Tryz.f28,{ nvars:=3 },[]⟩
noncomputable def afI:FI:=⟨Go.Proofs.Tryz.f29,{ nvars:=5 },[]⟩
noncomputable def afJ:FI:=⟨Go.Proofs.Tryz.f30,{ shares:=true,rets:=[.yc],nvars:=3 },[]⟩
noncomputable def acX:FI:=⟨Go.Proofs.Tryz.f31,{ nvars:=3 },[]⟩
noncomputable def WE:FI:=⟨Go.Proofs.Tryz.f32,{ rets:=[.fresh],nvars:=6 },[]⟩
noncomputable def afK:FI:=⟨Go.Proofs.Tryz.f33,{ shares:=true,rets:=[.func 64 [(true,[.other])]],nvars:=3 },[]⟩
noncomputable def acg:FI:=⟨Go.Proofs.Tryz.f34,{ nvars:=7 },[(1,[[5,6],[5,6],[8,1008,2008,3008,5,6],[5,6],[8,1008,2008,3008,10,1010,2010,3010,6],[8,1008,2008,3008,10,1010,2010,3010,5],[],[]]),(2,[[],[],[],[]])]⟩
noncomputable def afL:FI:=⟨Go.Proofs.Tryz.f35,{ nvars:=6 },[]⟩
noncomputable def afM:FI:=⟨Go.Proofs.Tryz.f36,{ shares:=true,rets:=[.deep],nvars:=13,cuts:=[(9,[1,3,4,5],[1,3]),(17,[1,3,4,6,7],[1,3]),(20,[1,3,4,6,7,8],[1,3]),(28,[1,3,4,6,7,8,12],[1,3])] },[(11,[[42,1042,2042,3042],[],[],[],[],[],[],[],[],[],[],[],[],[],[]]),(13,[[59,1059,2059,3059],[],[],[],[],[],[],[],[],[],[],[],[],[],[]]),(24,[[],[],[],[],[],[],[],[],[],[]]),(26,[[117,1117,2117,3117,118],[],[],[],[],[],[],[],[]]),(31,[[157,1157,2157,3157,158],[],[],[],[],[],[],[],[],[],[],[],[],[],[],[],[],[],[],[],[]])]⟩
noncomputable def afN:FI:=⟨Go.Proofs.Tryz.f37,{ nvars:=4,cuts:=[(2,[0,3],[])] },[]⟩
noncomputable def afO:FI:=⟨Go.Proofs.Tryz.f38,{ shares:=true,rets:=[.deep],nvars:=6,quiet:=true,cuts:=[(5,[3,4,5],[5])] },[(3,[[],[],[],[],[],[],[15,1015,2015,3015],[15,1015,2015,3015],[15,1015,2015,3015],[15,1015,2015,3015],[15,1015,2015,3015],[],[],[]]),(6,[[],[],[],[],[],[],[],[],[],[],[],[],[],[],[],[],[],[]]),(7,[[],[],[],[],[],[],[],[],[],[],[],[]])]⟩
noncomputable def acd:FI:=⟨Go.Proofs.Tryz.f39,{ shares:=true,zT:=.Zb,Gi:=[72],JR:=5,nvars:=6 },[]⟩
noncomputable def afP:FI:=⟨Go.Proofs.Tryz.f40,{ nvars:=9,cuts:=[(11,[5,6,49,50,51],[5,17])] },[(7,[[37],[],[],[],[],[],[],[],[],[],[],[]])]⟩
noncomputable def ace:FI:=⟨Go.Proofs.Tryz.f41,{ zT:=.str,Gi:=[72],JR:=5,nvars:=3 },[]⟩
noncomputable def afQ:FI:=⟨Go.Proofs.Tryz.f42,{ nvars:=5,cuts:=[(9,[1,3,4],[1])] },[(7,[[42,1042,2042,3042,47,1047,2047,3047],[42,1042,2042,3042,47,1047,2047,3047],[],[],[],[47,1047,2047,3047],[47,1047,2047,3047],[42,1042,2042,3042],[42,1042,2042,3042],[],[],[]]),(11,[[64,1064,2064,3064,73,1073,2073,3073,82,1082,2082,3082],[64,1064,2064,3064,73,1073,2073,3073,82,1082,2082,3082],[],[],[],[],[],[],[],[73,1073,2073,3073,82,1082,2082,3082],[73,1073,2073,3073,82,1082,2082,3082],[64,1064,2064,3064],[64,1064,2064,3064],[64,1064,2064,3064],[64,1064,2064,3064],[64,1064,2064,3064],[64,1064,2064,3064],[],[82,1082,2082,3082],[82,1082,2082,3082],[64,1064,2064,3064,73,1073,2073,3073],[64,1064,2064,3064,73,1073,2073,3073],[64,1064,2064,3064,73,1073,2073,3073],[64,1064,2064,3064,73,1073,2073,3073],[64,1064,2064,3064,73,1073,2073,3073],[64,1064,2064,3064,73,1073,2073,3073],[],[],[]])]⟩
noncomputable def aav:FI:=⟨Go.Proofs.Tryz.f43,{ nvars:=7 },[]⟩
noncomputable def afR:FI:=⟨Go.Proofs.Tryz.f44,{ shares:=true,nvars:=11,cuts:=[(5,[0,2,4,5,6,7],[2,4,5,6]),(19,[0,2,4,5,10],[2,4,5,75])] },[(8,[[],[],[],[],[],[]]),(9,[[],[5],[],[],[]]),(20,[[68,1068,2068,3068,4,70,1070,2070,3070,4,72,1072,2072,3072,4,74],[68,1068,2068,3068,4,70,1070,2070,3070,4,72,1072,2072,3072,4,74],[],[],[68,1068,2068,3068,4],[],[68,1068,2068,3068,4,70,1070,2070,3070,4],[],[],[],[],[],[]]),(21,[[79,1079,2079,3079,82,1082,2082,3082],[],[],[],[],[],[82,1082,2082,3082,2],[2],[2],[],[]])]⟩
noncomputable def afS:FI:=⟨Go.Proofs.Tryz.f45,{ rets:=[.fresh],nvars:=7,cuts:=[(3,[0,1,5,6],[5])] },[(7,[[],[],[],[],[],[],[],[],[],[],[],[],[],[],[],[],[],[]])]⟩
noncomputable def afT:FI:=⟨Go.Proofs.Tryz.f46,{ shares:=true,nvars:=13,fhomes:=[160],cuts:=[(4,[2,4,5,6],[2,4,5]),(13,[2,4,5,7],[2,4,5]),(20,[2,4,5,8,9],[2,4,5,8]),(33,[2,5,8,12],[2,5,8,5160])] },[(6,[[],[20],[],[],[20],[20],[20],[]]),(15,[[],[61],[],[],[61],[61],[61],[]]),(27,[[],[],[],[5],[5],[],[],[]]),(29,[[],[],[],[5],[5],[5],[5,5],[5,5],[],[],[],[],[]]),(35,[[159],[159],[],[],[],[],[],[],[],[],[],[],[],[],[],[],[],[],[],[],[]]),(36,[[164,1164,2164,3164],[],[],[],[]])]⟩
noncomputable def acW:FI:=⟨Go.Proofs.Tryz.f47,{ nvars:=3 },[]⟩
noncomputable def Tz:FI:=⟨Go.Proofs.Tryz.f48,{ rets:=[.fresh],nvars:=3 },[]⟩
noncomputable def aaS:FI:=⟨Go.Proofs.Tryz.f49,{ nvars:=6 },[]⟩
noncomputable def afU:FI:=⟨Go.Proofs.Tryz.f50,{ nvars:=6,cuts:=[(2,[1,2,5],[2])] },[]⟩
noncomputable def afV:FI:=⟨Go.Proofs.Tryz.f51,{ nvars:=2 },[]⟩
noncomputable def afW:FI:=⟨Go.Proofs.Tryz.f52,{ nvars:=5 },[]⟩
noncomputable def afX:FI:=⟨Go.Proofs.Tryz.f53,{ nvars:=3 },[]⟩
noncomputable def afY:FI:=⟨Go.Proofs.Tryz.f54,{ nvars:=5 },[]⟩
noncomputable def afZ:FI:=⟨Go.Proofs.Tryz.f55,{ nvars:=10,cuts:=[(4,[1,2,15,16,17],[])] },[]⟩
noncomputable def af0:FI:=⟨Go.Proofs.Tryz.f56,{ nvars:=5 },[]⟩
noncomputable def af2:FI:=⟨Go.Proofs.Tryz.f57,{ nvars:=6,cuts:=[(4,[0,1,12,13],[])] },[(6,[[],[],[],[],[],[],[],[],[]])]⟩
noncomputable def af4:FI:=⟨Go.Proofs.Tryz.f58,{ shares:=true,rets:=[.func 92 [(true,[.slice true [.int .i64,.int .i64,.int .i64]])]],nvars:=3 },[]⟩
noncomputable def af5:FI:=⟨Go.Proofs.Tryz.f59,{ shares:=true,rets:=[.func 93 [(true,[.int .i64,.slice true [.int .i64,.int .i64,.int .i64],.int .i64,.int .i64,.int .i64,.int .i64])]],nvars:=3 },[]⟩
noncomputable def af6:FI:=⟨Go.Proofs.Tryz.f60,{ shares:=true,rets:=[.func 95 [(true,[.int .i64,.slice true [.int .i64,.int .i64,.int .i64],.int .i64,.int .i64,.int .i64,.int .i64])]],nvars:=3 },[]⟩
noncomputable def af7:FI:=⟨Go.Proofs.Tryz.f61,{ nvars:=7,cuts:=[(2,[0,7,8,9],[])] },[]⟩
noncomputable def af8:FI:=⟨Go.Proofs.Tryz.f64,{ nvars:=4 },[]⟩
noncomputable def af9:FI:=⟨Go.Proofs.Tryz.f65,{ nvars:=2 },[]⟩
noncomputable def aga:FI:=⟨Go.Proofs.Tryz.f66,{ nvars:=9,cuts:=[(2,[0,1,9,10,11],[])] },[]⟩
noncomputable def agb:FI:=⟨Go.Proofs.Tryz.f67,{ nvars:=7 },[]⟩
noncomputable def agc:FI:=⟨Go.Proofs.Tryz.f68,{ rets:=[.fresh],nvars:=9,cuts:=[(3,[2,3,4,7,8],[3,4,7])] },[]⟩
noncomputable def agd:FI:=⟨Go.Proofs.Tryz.f69,{ nvars:=5 },[]⟩
noncomputable def agf:FI:=⟨Go.Proofs.Tryz.f70,{ nvars:=3 },[]⟩
noncomputable def agh:FI:=⟨Go.Proofs.Tryz.f71,{ nvars:=6,cuts:=[(2,[2,3,5],[2,3])] },[(4,[[],[],[],[12,1012,2012,3012],[12,1012,2012,3012],[],[]]),(6,[[],[],[],[19,1019,2019,3019],[19,1019,2019,3019],[],[]])]⟩
noncomputable def agi:FI:=⟨Go.Proofs.Tryz.f73,{ nvars:=4 },[]⟩
noncomputable def agj:FI:=⟨Go.Proofs.Tryz.f74,{ nvars:=5,vcall:=true,Zd:=9,cuts:=[(1,[1,5,6,7],[99999,100000])] },[(3,[[13,1013,2013,3013,14],[],[],[],[],[]])]⟩
noncomputable def aas:FI:=⟨Go.Proofs.Tryz.f75,{ nvars:=3 },[]⟩
noncomputable def aaw:FI:=⟨Go.Proofs.Tryz.f76,{ nvars:=11 },[]⟩
noncomputable def agk:FI:=⟨Go.Proofs.Tryz.f77,{ nvars:=3 },[]⟩
noncomputable def aat:FI:=⟨Go.Proofs.Tryz.f79,{ shares:=true,rets:=[.deep],nvars:=5 },[]⟩
noncomputable def agl:FI:=⟨Go.Proofs.Tryz.f80,{ zD:=true,nvars:=4 },[]⟩
noncomputable def aau:FI:=⟨Go.Proofs.Tryz.f81,{ shares:=true,nvars:=6 },[]⟩
noncomputable def aax:FI:=⟨Go.Proofs.Tryz.f82,{ nvars:=5 },[]⟩
noncomputable def agm:FI:=⟨Go.Proofs.Tryz.f83,{ nvars:=7,cuts:=[(3,[0,4,5,6],[])] },[(1,[[],[],[],[],[],[],[],[],[],[]])]⟩
noncomputable def agn:FI:=⟨Go.Proofs.Tryz.f84,{ nvars:=4 },[]⟩
noncomputable def agp:FI:=⟨Go.Proofs.Tryz.f85,{ nvars:=6 },[(1,[[],[],[],[],[],[],[12,1012,2012,3012],[12,1012,2012,3012],[12,1012,2012,3012],[12,1012,2012,3012],[12,1012,2012,3012],[],[12,1012,2012,3012,18,1018,2018,3018],[12,1012,2012,3012,18,1018,2018,3018],[12,1012,2012,3012,18,1018,2018,3018],[12,1012,2012,3012,18,1018,2018,3018],[12,1012,2012,3012,18,1018,2018,3018],[],[],[]])]⟩
noncomputable def agq:FI:=⟨Go.Proofs.Tryz.f86,{ nvars:=5 },[]⟩
noncomputable def agr:FI:=⟨Go.Proofs.Tryz.f87,{ nvars:=5 },[]⟩
noncomputable def ags:FI:=⟨Go.Proofs.Tryz.f88,{ nvars:=6,cuts:=[(2,[0,1,7,8],[])] },[]⟩
noncomputable def agt:FI:=⟨Go.Proofs.Tryz.f89,{ nvars:=7 },[]⟩
noncomputable def agu:FI:=⟨Go.Proofs.Tryz.f90,{ nvars:=5 },[]⟩
noncomputable def agv:FI:=⟨Go.Proofs.Tryz.f91,{ nvars:=3 },[]⟩
noncomputable def agw:FI:=⟨Go.Proofs.Tryz.f92,{ nvars:=5,yk:=[(true,[.int .i64,.int .i64,.int .i64])],ys:=[0,11],cuts:=[(1,[0,5,6,7],[100000])] },[]⟩
noncomputable def agx:FI:=⟨Go.Proofs.Tryz.f93,{ nvars:=9,yk:=[(true,[.int .i64,.int .i64,.int .i64])],ys:=[0,53],cuts:=[(1,[0,1,10,11,12],[100000]),(6,[0,1,4,5,10,11,12,40,41],[4,5,100000])] },[(4,[[5],[5],[5],[5],[5],[5],[5],[5],[5],[5],[],[]])]⟩
noncomputable def agy:FI:=⟨Go.Proofs.Tryz.f94,{ nvars:=10 },[]⟩
noncomputable def agz:FI:=⟨Go.Proofs.Tryz.f95,{ nvars:=11,yk:=[(true,[.int .i64,.int .i64,.int .i64])],ys:=[0,102],cuts:=[(5,[0,1,3,4,5,6],[4,100000]),(8,[0,1,3,4,5,6,7],[4,100000]),(11,[0,1,3,4,5,6,7,8],[4,100000])] },[(0,[[4],[4],[4],[4],[4],[4],[],[],[]])]⟩
noncomputable def agA:FI:=⟨Go.Proofs.Tryz.f99,{ nvars:=7 },[]⟩
noncomputable def abS:FI:=⟨Go.Proofs.Tryz.f100,{ nvars:=10 },[(2,[[19,1019,2019,3019,25,1025,2025,3025,31,1031,2031,3031],[],[],[],[],[],[],[19,1019,2019,3019],[19,1019,2019,3019],[19,1019,2019,3019],[19,1019,2019,3019],[19,1019,2019,3019],[],[19,1019,2019,3019,25,1025,2025,3025],[19,1019,2019,3019,25,1025,2025,3025],[19,1019,2019,3019,25,1025,2025,3025],[19,1019,2019,3019,25,1025,2025,3025],[19,1019,2019,3019,25,1025,2025,3025],[],[],[],[]])]⟩
noncomputable def abT:FI:=⟨Go.Proofs.Tryz.f108,{ nvars:=6,cuts:=[(2,[0,1,7,8],[])] },[]⟩
noncomputable def abU:FI:=⟨Go.Proofs.Tryz.f109,{ nvars:=10 },[(1,[[],[],[],[],[],[],[],[],[],[],[],[]])]⟩
noncomputable def abV:FI:=⟨Go.Proofs.Tryz.f120,{ nvars:=3 },[]⟩
noncomputable def abW:FI:=⟨Go.Proofs.Tryz.f121,{ nvars:=6,cuts:=[(2,[0,1,5],[]),(4,[0,1,5],[])] },[]⟩
noncomputable def tab:Tab:=⟨[(3,ty3),(4,ty4),(5,ty5),(9,ty9),(23,afc),(26,afd),(27,afe),(43,aff),(44,afg),(45,afh),(47,afi),(50,afj),(58,afk),(60,afl),(64,afm),(65,afn),(69,afo),(70,afp),(72,afq),(74,afr),(83,afs),(91,aft),(96,afu),(99,afv),(103,abN),(107,abO),(109,abP),(111,abQ),(117,abR)],
 [(3,fi3),(4,fi4),(5,fi5),(7,fi7),(8,fi8),(9,fi9),(10,acR),(11,afw),(12,acQ),(13,afx),(14,acT),(15,afy),(16,afz),(17,afA),(18,afB),(19,afC),(20,afD),(21,acS),(22,afE),(23,acU),(24,acY),(25,afF),(26,afG),(27,afH),(28,acV),(29,afI),(30,afJ),(31,acX),(32,WE),(33,afK),(34,acg),(35,afL),(36,afM),(37,afN),(38,afO),(39,acd),(40,afP),(41,ace),(42,afQ),(43,aav),(44,afR),(45,afS),(46,afT),(47,acW),(48,Tz),(49,aaS),(50,afU),(51,afV),(52,afW),(53,afX),(54,afY),(55,afZ),(56,af0),(57,af2),(58,af4),(59,af5),(60,af6),(61,af7),(64,af8),(65,af9),(66,aga),(67,agb),(68,agc),(69,agd),(70,agf),(71,agh),(73,agi),(74,agj),(75,aas),(76,aaw),(77,agk),(79,aat),(80,agl),(81,aau),(82,aax),(83,agm),(84,agn),(85,agp),(86,agq),(87,agr),(88,ags),(89,agt),(90,agu),(91,agv),(92,agw),(93,agx),(94,agy),(95,agz),(99,agA),(100,abS),(108,abT),(109,abU),(120,abV),(121,abW)],false,[(68,4),(70,4),(72,4),(1001015,100000)],[]⟩
end Go.Skm.Fig
