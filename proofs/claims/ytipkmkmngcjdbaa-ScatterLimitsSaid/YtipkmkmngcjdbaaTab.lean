/-
  A text of this claim's proof: what stands below is laid by program; no condition.
-/
import Derived.Test.YtipkmkmngcjdbaaProg
import Derived.Test.YtipkmkmngcjdbaaSkmA
namespace Go.Skm.Sct
open Go
def ty3 : TI := ⟨.int .i64,1,8,false,(false,[.int .i64]),some (.int .i64 0),false⟩
def ty4 : TI := ⟨.bool,1,1,false,(false,[.bool]),some (.bool false),false⟩
def ty9 : TI := ⟨.string,1,16,false,(false,[.str]),some (.str ⟨#[]⟩),false⟩
def ty22 : TI := ⟨.slice 31,1,24,false,(false,[.slice true [.int .i64,.int .i64,.int .i64]]),some (.nil),false⟩
def ty24 : TI := ⟨.int .i64,1,8,false,(false,[.int .i64]),some (.int .i64 0),false⟩
def ty31 : TI := ⟨.struct #[⟨ "X", 3, 0, false, "", "", 0⟩, ⟨ "Y", 3, 1, false, "", "", 8⟩, ⟨ "Z", 3, 2, false, "", "", 16⟩], 3, 24, true, (true, [.int .i64, .int .i64, .int .i64]), some (.agg [.int .i64 0, .int .i64 0, .int .i64 0]), true⟩
def ty41 : TI := ⟨.slice 45,1,24,false,(false,[.slice true [.int .i64,.slice true [.int .i64,.int .i64,.int .i64],.int .i64,.int .i64,.int .i64,.int .i64]]),some (.nil),false⟩
def ty42 : TI := ⟨.int .i64,1,8,false,(false,[.int .i64]),some (.int .i64 0),false⟩
def ty43 : TI := ⟨.int .i64,1,8,false,(false,[.int .i64]),some (.int .i64 0),false⟩
def ty45 : TI := ⟨.struct #[⟨ "Kind", 42, 0, false, "", "", 0⟩, ⟨ "Corners", 22, 1, false, "", "", 8⟩, ⟨ "Many", 3, 2, false, "", "", 32⟩, ⟨ "Radius", 3, 3, false, "", "", 40⟩, ⟨ "Step", 3, 4, false, "", "", 48⟩, ⟨ "Plane", 43, 5, false, "", "", 56⟩], 6, 64, true, (true, [.int .i64, .slice true [.int .i64, .int .i64, .int .i64], .int .i64, .int .i64, .int .i64, .int .i64]), some (.agg [.int .i64 0, .nil, .int .i64 0, .int .i64 0, .int .i64 0, .int .i64 0]), false⟩
def ty51 : TI := ⟨.func #[31,31] #[3] false,1,8,false,(false,[.other]),some (.nilfn),false⟩
def ty55 : TI := ⟨.slice 3,1,24,false,(false,[.slice false [.int .i64]]),some (.nil),false⟩
def ty58 : TI := ⟨.func #[] #[3] false,1,8,false,(false,[.other]),some (.nilfn),false⟩
def ty66 : TI := ⟨.int .u64,1,8,false,(false,[.int .u64]),some (.int .u64 0),false⟩
def ty71 : TI := ⟨.func #[31] #[4] false,1,8,false,(false,[.other]),some (.nilfn),false⟩
def ty72 : TI := ⟨.map 31 4,1,8,false,(false,[.other]),some (.nilm),false⟩
def ty74 : TI := ⟨.func #[71] #[] false,1,8,false,(false,[.other]),some (.nilfn),false⟩
def ty80 : TI := ⟨.array 3 3,3,24,true,(true,[.int .i64,.int .i64,.int .i64]),some (.agg [.int .i64 0,.int .i64 0,.int .i64 0]),false⟩
def ty83 : TI := ⟨.func #[45] #[4] false,1,8,false,(false,[.other]),some (.nilfn),false⟩
def ty88 : TI := ⟨.int .u32,1,4,false,(false,[.int .u32]),some (.int .u32 0),false⟩
def ty91 : TI := ⟨.int .u64,1,8,false,(false,[.int .u64]),some (.int .u64 0),false⟩
def ty95 : TI := ⟨.func #[3,3] #[3] false,1,8,false,(false,[.other]),some (.nilfn),false⟩
def ty116 : TI := ⟨.struct #[⟨ "word", 9, 0, false, "", "skylantern/figure", 0⟩, ⟨ "least", 3, 1, false, "", "skylantern/figure", 16⟩, ⟨ "most", 3, 2, false, "", "skylantern/figure", 24⟩, ⟨ "many", 4, 3, false, "", "skylantern/figure", 32⟩, ⟨ "round", 4, 4, false, "", "skylantern/figure", 33⟩, ⟨ "plane", 4, 5, false, "", "skylantern/figure", 34⟩], 6, 40, true, (true, [.str, .int .i64, .int .i64, .bool, .bool, .bool]), some (.agg [.str ⟨#[]⟩, .int .i64 0, .int .i64 0, .bool false, .bool false, .bool false]), true⟩
noncomputable def fi3 : FI := ⟨Go.Proofs.Try.f3,{ nvars := 11,cuts := [(9,[0,5,6,39,40],[5,6])] },[]⟩
noncomputable def fi4 : FI := ⟨Go.Proofs.Try.f4,{ nvars := 7 },[]⟩
noncomputable def fi5 : FI := ⟨Go.Proofs.Try.f5,{ nvars := 9 },[]⟩
noncomputable def fi6 : FI := ⟨Go.Proofs.Try.f6,{ nvars := 11,cuts := [(4,[0,1,23,24,25],[])] },[]⟩
noncomputable def fi7 : FI := ⟨Go.Proofs.Try.f7,{ nvars := 15,cuts := [(5,[0,1,5,6],[5])] },[(10,[[],[],[],[],[],[],[],[],[],[]]),(11,[[],[],[],[],[],[],[],[],[],[],[],[],[],[],[],[],[],[],[],[],[],[],[],[],[],[],[],[],[],[],[],[],[],[],[],[],[],[],[],[],[],[],[],[],[],[],[],[],[],[],[],[],[]])]⟩
noncomputable def fi9 : FI := ⟨Go.Proofs.Try.f9,{ nvars := 17 },[]⟩
noncomputable def fi10 : FI := ⟨Go.Proofs.Try.f10,{ rets := [.fresh,.deep],nvars := 12,cuts := [(10,[0,7,8,9,30,31],[7,9,28]),(14,[0,7,8,9,10,30,31,43,44],[7,9,28])] },[(16,[[61,1061,2061,3061],[61,1061,2061,3061],[61,1061,2061,3061],[61,1061,2061,3061],[61,1061,2061,3061],[61,1061,2061,3061],[],[],[],[],[],[],[],[],[],[],[],[]])]⟩
noncomputable def fi11 : FI := ⟨Go.Proofs.Try.f11,{ rets := [.fresh,.deep],nvars := 9,cuts := [(6,[0,1,6],[6]),(9,[0,1,6,7,8],[6])] },[(12,[[],[],[],[],[],[],[],[],[],[],[],[],[],[48,1048,2048,3048],[48,1048,2048,3048],[48,1048,2048,3048],[48,1048,2048,3048],[48,1048,2048,3048],[],[],[],[]])]⟩
noncomputable def fi12 : FI := ⟨Go.Proofs.Try.f12,{ nvars := 6,cuts := [(4,[0,1,5],[])] },[(6,[[],[],[],[],[],[],[],[],[]])]⟩
noncomputable def fi13 : FI := ⟨Go.Proofs.Try.f13,{ nvars := 9,cuts := [(7,[0,4,15,16,17],[]),(10,[0,4,6,15,16,17,25,26,27],[6])] },[]⟩
noncomputable def fi14 : FI := ⟨Go.Proofs.Try.f14,{ nvars := 6,cuts := [(7,[0,4,5],[])] },[(5,[[],[],[],[],[],[],[],[]]),(9,[[],[],[],[],[],[],[],[],[32,1032,2032,3032],[]]),(10,[[],[],[],[],[],[],[],[],[]])]⟩
noncomputable def fi15 : FI := ⟨Go.Proofs.Try.f15,{ nvars := 12,cuts := [(7,[1,6,23,24,25],[]),(11,[1,6,8,9,23,24,25,29,30,31],[8])] },[]⟩
noncomputable def fi16 : FI := ⟨Go.Proofs.Try.f16,{ nvars := 8,cuts := [(7,[0,1,6,7],[])] },[]⟩
noncomputable def fi17 : FI := ⟨Go.Proofs.Try.f17,{ rets := [.fresh,.deep],nvars := 9 },[]⟩
noncomputable def fi18 : FI := ⟨Go.Proofs.Try.f18,{ rets := [.fresh,.deep],nvars := 11,cuts := [(11,[6,8,9,10],[6,8,9])] },[]⟩
noncomputable def fi19 : FI := ⟨Go.Proofs.Try.f19,{ nvars := 6 },[]⟩
noncomputable def fi20 : FI := ⟨Go.Proofs.Try.f20,{ nvars := 4,cuts := [(2,[0,3],[])] },[(4,[[],[],[],[],[],[],[],[],[],[],[]])]⟩
noncomputable def fi21 : FI := ⟨Go.Proofs.Try.f21,{ nvars := 5 },[(1,[[],[],[],[7,1007,2007,3007],[7,1007,2007,3007],[],[],[]])]⟩
noncomputable def fi23 : FI := ⟨Go.Proofs.Try.f23,{ rets := [.fresh],nvars := 6,cuts := [(3,[3,6,7,8],[3])] },[]⟩
noncomputable def fi24 : FI := ⟨Go.Proofs.Try.f24,{ nvars := 4,cuts := [(2,[0,3],[])] },[(4,[[],[],[],[],[],[],[],[],[],[],[]])]⟩
noncomputable def fi25 : FI := ⟨Go.Proofs.Try.f25,{ rets := [.fresh],nvars := 9,cuts := [(8,[7,8],[7])] },[(9,[[],[],[],[],[],[],[],[],[],[]])]⟩
noncomputable def fi26 : FI := ⟨Go.Proofs.Try.f26,{ rets := [.fresh],nvars := 3 },[]⟩
noncomputable def fi27 : FI := ⟨Go.Proofs.Try.f27,{ nvars := 5,cuts := [(3,[0,2,5,6,7],[])] },[]⟩
noncomputable def fi28 : FI := ⟨Go.Proofs.Try.f28,{ nvars := 7 },[]⟩
noncomputable def fi29 : FI := ⟨Go.Proofs.Try.f29,{ nvars := 6,cuts := [(2,[0,3,5],[3])] },[(4,[[],[],[],[],[],[]])]⟩
noncomputable def fi30 : FI := ⟨Go.Proofs.Try.f30,{ nvars := 7,cuts := [(3,[1,2,5,6],[2])] },[(1,[[],[],[],[],[],[]]),(5,[[],[],[],[],[],[],[23,1023,2023,3023],[]]),(6,[[],[],[],[],[],[],[]])]⟩
noncomputable def fi31 : FI := ⟨Go.Proofs.Try.f31,{ nvars := 3 },[]⟩
noncomputable def fi32 : FI := ⟨Go.Proofs.Try.f32,{ nvars := 4,cuts := [(2,[0,3],[])] },[]⟩
noncomputable def fi33 : FI := ⟨Go.Proofs.Try.f33,{ rets := [.fresh,.deep],nvars := 8,alts := [(1000008,[(19,[(96,[(true,[.slice true [.int .i64,.int .i64,.int .i64]])]),(97,[(true,[.int .i64,.slice true [.int .i64,.int .i64,.int .i64],.int .i64,.int .i64,.int .i64,.int .i64])]),(99,[(true,[.int .i64,.slice true [.int .i64,.int .i64,.int .i64],.int .i64,.int .i64,.int .i64,.int .i64])])])])],cuts := [(5,[2,3,4,12,13,14],[2,3,4,11]),(8,[2,3,4,12,13,14,19],[2,3,4,11])] },[]⟩
noncomputable def fi34 : FI := ⟨Go.Proofs.Try.f34,{ byRef := true,nvars := 5 },[]⟩
noncomputable def fi35 : FI := ⟨Go.Proofs.Try.f35,{ nvars := 7 },[(1,[[5,6],[5,6],[8,1008,2008,3008,5,6],[5,6],[8,1008,2008,3008,10,1010,2010,3010,6],[8,1008,2008,3008,10,1010,2010,3010,5],[],[]]),(2,[[],[],[],[]])]⟩
noncomputable def fi36 : FI := ⟨Go.Proofs.Try.f36,{ nvars := 4,cuts := [(2,[0,3],[])] },[]⟩
noncomputable def fi37 : FI := ⟨Go.Proofs.Try.f37,{ rets := [.fresh,.deep],nvars := 7,cuts := [(3,[0,4,5],[4])] },[]⟩
noncomputable def fi38 : FI := ⟨Go.Proofs.Try.f38,{ nvars := 6,cuts := [(2,[2,3,5],[2,3])] },[(4,[[],[],[],[12,1012,2012,3012],[12,1012,2012,3012],[],[]]),(6,[[],[],[],[19,1019,2019,3019],[19,1019,2019,3019],[],[]])]⟩
noncomputable def fi39 : FI := ⟨Go.Proofs.Try.f39,{ nvars := 7,cuts := [(3,[2,3,5,6],[2,3])] },[(5,[[14,1014,2014,3014,17,1017,2017,3017],[],[],[],[14,1014,2014,3014],[14,1014,2014,3014],[],[],[],[]])]⟩
noncomputable def fi40 : FI := ⟨Go.Proofs.Try.f40,{ nvars := 4 },[(1,[[7,1007,2007,3007],[],[],[],[]])]⟩
noncomputable def fi41 : FI := ⟨Go.Proofs.Try.f41,{ nvars := 10 },[]⟩
noncomputable def fi42 : FI := ⟨Go.Proofs.Try.f42,{ nvars := 7 },[]⟩
noncomputable def fi43 : FI := ⟨Go.Proofs.Try.f43,{ nvars := 5 },[]⟩
noncomputable def fi44 : FI := ⟨Go.Proofs.Try.f44,{ nvars := 3 },[]⟩
noncomputable def fi45 : FI := ⟨Go.Proofs.Try.f45,{ nvars := 3 },[]⟩
noncomputable def fi46 : FI := ⟨Go.Proofs.Try.f46,{ nvars := 3 },[]⟩
noncomputable def fi47 : FI := ⟨Go.Proofs.Try.f47,{ nvars := 3 },[]⟩
noncomputable def fi48 : FI := ⟨Go.Proofs.Try.f48,{ shares := true,rets := [.fnAny],nvars := 3 },[]⟩
noncomputable def fi49 : FI := ⟨Go.Proofs.Try.f49,{ rets := [.fresh],nvars := 6 },[]⟩
noncomputable def fi50 : FI := ⟨Go.Proofs.Try.f50,{ shares := true,rets := [.func 77 [(true,[.other])]],nvars := 3 },[]⟩
noncomputable def fi53 : FI := ⟨Go.Proofs.Try.f53,{ nvars := 2 },[]⟩
noncomputable def fi54 : FI := ⟨Go.Proofs.Try.f54,{ nvars := 9,cuts := [(2,[0,1,9,10,11],[])] },[]⟩
noncomputable def fi55 : FI := ⟨Go.Proofs.Try.f55,{ nvars := 6 },[]⟩
noncomputable def fi56 : FI := ⟨Go.Proofs.Try.f56,{ shares := true,rets := [.deep],nvars := 13,cuts := [(9,[1,3,4,5],[1,3]),(17,[1,3,4,6,7],[1,3]),(20,[1,3,4,6,7,8],[1,3]),(28,[1,3,4,6,7,8,12],[1,3])] },[(11,[[42,1042,2042,3042],[],[],[],[],[],[],[],[],[],[],[],[],[],[]]),(13,[[59,1059,2059,3059],[],[],[],[],[],[],[],[],[],[],[],[],[],[]]),(24,[[],[],[],[],[],[],[],[],[],[]]),(26,[[117,1117,2117,3117,118],[],[],[],[],[],[],[],[]]),(31,[[157,1157,2157,3157,158],[],[],[],[],[],[],[],[],[],[],[],[],[],[],[],[],[],[],[],[]])]⟩
noncomputable def fi57 : FI := ⟨Go.Proofs.Try.f57,{ shares := true,rets := [.deep],nvars := 6,quiet := true,cuts := [(5,[3,4,5],[5])] },[(3,[[],[],[],[],[],[],[15,1015,2015,3015],[15,1015,2015,3015],[15,1015,2015,3015],[15,1015,2015,3015],[15,1015,2015,3015],[],[],[]]),(6,[[],[],[],[],[],[],[],[],[],[],[],[],[],[],[],[],[],[]]),(7,[[],[],[],[],[],[],[],[],[],[],[],[]])]⟩
noncomputable def fi58 : FI := ⟨Go.Proofs.Try.f58,{ nvars := 5 },[]⟩
noncomputable def fi59 : FI := ⟨Go.Proofs.Try.f59,{ nvars := 4 },[]⟩
noncomputable def fi60 : FI := ⟨Go.Proofs.Try.f60,{ nvars := 2 },[]⟩
noncomputable def fi61 : FI := ⟨Go.Proofs.Try.f61,{ nvars := 7 },[]⟩
noncomputable def fi62 : FI := ⟨Go.Proofs.Try.f62,{ nvars := 14 },[]⟩
noncomputable def fi63 : FI := ⟨Go.Proofs.Try.f63,{ nvars := 3 },[]⟩
noncomputable def fi64 : FI := ⟨Go.Proofs.Try.f64,{ nvars := 6 },[(1,[[],[],[],[],[],[],[12,1012,2012,3012],[12,1012,2012,3012],[12,1012,2012,3012],[12,1012,2012,3012],[12,1012,2012,3012],[],[12,1012,2012,3012,18,1018,2018,3018],[12,1012,2012,3012,18,1018,2018,3018],[12,1012,2012,3012,18,1018,2018,3018],[12,1012,2012,3012,18,1018,2018,3018],[12,1012,2012,3012,18,1018,2018,3018],[],[],[]])]⟩
noncomputable def fi65 : FI := ⟨Go.Proofs.Try.f65,{ nvars := 5 },[]⟩
noncomputable def fi66 : FI := ⟨Go.Proofs.Try.f66,{ nvars := 5 },[]⟩
noncomputable def fi67 : FI := ⟨Go.Proofs.Try.f67,{ nvars := 6,cuts := [(2,[0,1,7,8],[])] },[]⟩
noncomputable def fi68 : FI := ⟨Go.Proofs.Try.f68,{ nvars := 7,cuts := [(2,[0,7,8,9],[])] },[]⟩
noncomputable def fi69 : FI := ⟨Go.Proofs.Try.f69,{ nvars := 6,cuts := [(2,[1,2,5],[2])] },[]⟩
noncomputable def fi70 : FI := ⟨Go.Proofs.Try.f70,{ nvars := 5 },[]⟩
noncomputable def fi71 : FI := ⟨Go.Proofs.Try.f71,{ nvars := 3 },[]⟩
noncomputable def fi72 : FI := ⟨Go.Proofs.Try.f72,{ nvars := 5 },[]⟩
noncomputable def fi73 : FI := ⟨Go.Proofs.Try.f73,{ shares := true,rets := [.func 96 [(true,[.slice true [.int .i64,.int .i64,.int .i64]])]],nvars := 3 },[]⟩
noncomputable def fi74 : FI := ⟨Go.Proofs.Try.f74,{ shares := true,rets := [.func 97 [(true,[.int .i64,.slice true [.int .i64,.int .i64,.int .i64],.int .i64,.int .i64,.int .i64,.int .i64])]],nvars := 3 },[]⟩
noncomputable def fi75 : FI := ⟨Go.Proofs.Try.f75,{ shares := true,rets := [.func 99 [(true,[.int .i64,.slice true [.int .i64,.int .i64,.int .i64],.int .i64,.int .i64,.int .i64,.int .i64])]],nvars := 3 },[]⟩
noncomputable def fi77 : FI := ⟨Go.Proofs.Try.f77,{ nvars := 4 },[]⟩
noncomputable def fi88 : FI := ⟨Go.Proofs.Try.f88,{ nvars := 7 },[]⟩
noncomputable def fi89 : FI := ⟨Go.Proofs.Try.f89,{ nvars := 7 },[]⟩
noncomputable def fi90 : FI := ⟨Go.Proofs.Try.f90,{ rets := [.fresh],nvars := 9,cuts := [(3,[2,3,4,7,8],[3,4,7])] },[]⟩
noncomputable def fi91 : FI := ⟨Go.Proofs.Try.f91,{ nvars := 5 },[]⟩
noncomputable def fi92 : FI := ⟨Go.Proofs.Try.f92,{ nvars := 6,cuts := [(2,[0,1,7,8],[])] },[]⟩
noncomputable def fi93 : FI := ⟨Go.Proofs.Try.f93,{ nvars := 4 },[]⟩
noncomputable def fi94 : FI := ⟨Go.Proofs.Try.f94,{ nvars := 7 },[]⟩
noncomputable def fi95 : FI := ⟨Go.Proofs.Try.f95,{ nvars := 3 },[]⟩
noncomputable def fi96 : FI := ⟨Go.Proofs.Try.f96,{ nvars := 5,yk := [(true,[.int .i64,.int .i64,.int .i64])],ys := [0,11],cuts := [(1,[0,5,6,7],[100000])] },[]⟩
noncomputable def fi97 : FI := ⟨Go.Proofs.Try.f97,{ nvars := 9,yk := [(true,[.int .i64,.int .i64,.int .i64])],ys := [0,53],cuts := [(1,[0,1,10,11,12],[100000]),(6,[0,1,4,5,10,11,12,40,41],[4,5,100000])] },[(4,[[5],[5],[5],[5],[5],[5],[5],[5],[5],[5],[],[]])]⟩
noncomputable def fi98 : FI := ⟨Go.Proofs.Try.f98,{ nvars := 10 },[]⟩
noncomputable def fi99 : FI := ⟨Go.Proofs.Try.f99,{ nvars := 11,yk := [(true,[.int .i64,.int .i64,.int .i64])],ys := [0,102],cuts := [(5,[0,1,3,4,5,6],[4,100000]),(8,[0,1,3,4,5,6,7],[4,100000]),(11,[0,1,3,4,5,6,7,8],[4,100000])] },[(0,[[4],[4],[4],[4],[4],[4],[],[],[]])]⟩
noncomputable def fi106 : FI := ⟨Go.Proofs.Try.f106,{ nvars := 3 },[]⟩
noncomputable def fi107 : FI := ⟨Go.Proofs.Try.f107,{ nvars := 10 },[(2,[[19,1019,2019,3019,25,1025,2025,3025,31,1031,2031,3031],[],[],[],[],[],[],[19,1019,2019,3019],[19,1019,2019,3019],[19,1019,2019,3019],[19,1019,2019,3019],[19,1019,2019,3019],[],[19,1019,2019,3019,25,1025,2025,3025],[19,1019,2019,3019,25,1025,2025,3025],[19,1019,2019,3019,25,1025,2025,3025],[19,1019,2019,3019,25,1025,2025,3025],[19,1019,2019,3019,25,1025,2025,3025],[],[],[],[]])]⟩
noncomputable def fi108 : FI := ⟨Go.Proofs.Try.f108,{ nvars := 10 },[(1,[[],[],[],[],[],[],[],[],[],[],[],[]])]⟩
noncomputable def fi110 : FI := ⟨Go.Proofs.Try.f110,{ nvars := 6,cuts := [(2,[0,1,5],[]),(4,[0,1,5],[])] },[]⟩
noncomputable def tab : Tab := ⟨[(3,ty3),(4,ty4),(9,ty9),(22,ty22),(24,ty24),(31,ty31),(41,ty41),(42,ty42),(43,ty43),(45,ty45),(51,ty51),(55,ty55),(58,ty58),(66,ty66),(71,ty71),(72,ty72),(74,ty74),(80,ty80),(83,ty83),(88,ty88),(91,ty91),(95,ty95),(116,ty116)],
  [(3,fi3),(4,fi4),(5,fi5),(6,fi6),(7,fi7),(9,fi9),(10,fi10),(11,fi11),(12,fi12),(13,fi13),(14,fi14),(15,fi15),(16,fi16),(17,fi17),(18,fi18),(19,fi19),(20,fi20),(21,fi21),(23,fi23),(24,fi24),(25,fi25),(26,fi26),(27,fi27),(28,fi28),(29,fi29),(30,fi30),(31,fi31),(32,fi32),(33,fi33),(34,fi34),(35,fi35),(36,fi36),(37,fi37),(38,fi38),(39,fi39),(40,fi40),(41,fi41),(42,fi42),(43,fi43),(44,fi44),(45,fi45),(46,fi46),(47,fi47),(48,fi48),(49,fi49),(50,fi50),(53,fi53),(54,fi54),(55,fi55),(56,fi56),(57,fi57),(58,fi58),(59,fi59),(60,fi60),(61,fi61),(62,fi62),(63,fi63),(64,fi64),(65,fi65),(66,fi66),(67,fi67),(68,fi68),(69,fi69),(70,fi70),(71,fi71),(72,fi72),(73,fi73),(74,fi74),(75,fi75),(77,fi77),(88,fi88),(89,fi89),(90,fi90),(91,fi91),(92,fi92),(93,fi93),(94,fi94),(95,fi95),(96,fi96),(97,fi97),(98,fi98),(99,fi99),(106,fi106),(107,fi107),(108,fi108),(110,fi110)],false⟩
end Go.Skm.Sct
