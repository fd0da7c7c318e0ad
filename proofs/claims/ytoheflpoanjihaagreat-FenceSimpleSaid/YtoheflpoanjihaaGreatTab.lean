import Derived.Test.YtoheflpoanjihaaGreatProg
import Derived.Test.YtoheflpoanjihaaGreatSkmA
namespace Go.Skm.Fen
abbrev Rz:=Option (List Go.Skm.AV×List Go.Skm.cu)
open Go.Proofs
open Go
def Uq:Nat→List AV→List AV
 | 0,l=>l
 | n+1,l=>.undef::Uq n l
abbrev aW:List Kd:=[.int .i64,.int .i64,.int .i64]
def ty3:TI:=⟨.int .i64,1,8,false,(false,[.int .i64]),some (.int .i64 0),false⟩
def ty4:TI:=⟨.bool,1,1,false,(false,[.bool]),some (.bool false),false⟩
def ty5:TI:=⟨.int .u8,1,1,false,(false,[.int .u8]),some (.int .u8 0),false⟩
def ty9:TI:=⟨.string,1,16,false,(false,[.str]),some (.str ⟨#[]⟩),false⟩
def aoO:TI:=⟨.slice 26,1,24,false,(false,[.slice true [.int .i64,.int .i64,.int .i64]]),some (.nil),false⟩
def aoP:TI:=⟨.func #[22] #[4] false,1,8,false,(false,[.other]),some (.pX),false⟩
def aoQ : TI := ⟨.struct #[⟨ "X", 3, 0, false, "", "", 0⟩, ⟨ "Y", 3, 1, false, "", "", 8⟩, ⟨ "Z", 3, 2, false, "", "", 16⟩], 3, 24, true, (true, [.int .i64, .int .i64, .int .i64]), some (.agg [.int .i64 0, .int .i64 0, .int .i64 0]), true⟩
def aoR:TI:=⟨.slice 22,1,24,false,(false,[.slice false [.slice true [.int .i64,.int .i64,.int .i64]]]),some (.nil),false⟩
def aoS : TI := ⟨.struct #[⟨ "Outer", 22, 0, false, "", "", 0⟩, ⟨ "Holes", 29, 1, false, "", "", 24⟩, ⟨ "Low", 3, 2, false, "", "", 48⟩, ⟨ "High", 3, 3, false, "", "", 56⟩], 4, 64, true, (true, [.slice true [.int .i64, .int .i64, .int .i64], .slice false [.slice true [.int .i64, .int .i64, .int .i64]], .int .i64, .int .i64]), some (.agg [.nil, .nil, .int .i64 0, .int .i64 0]), false⟩
def aoT:TI:=⟨.int .i64,1,8,false,(false,[.int .i64]),some (.int .i64 0),false⟩
def aoU:TI:=⟨.func #[26] #[4] false,1,8,false,(false,[.other]),some (.pX),false⟩
def aoV : TI := ⟨.struct #[⟨ "Neg", 4, 0, false, "", "", 0⟩, ⟨ "Mag", 9, 1, false, "", "", 8⟩], 2, 24, true, (true, [.bool, .str]), some (.agg [.bool false, .str ⟨#[]⟩]), true⟩
def aoW : TI := ⟨.struct #[⟨ "Num", 43, 0, false, "", "", 0⟩, ⟨ "Den", 43, 2, false, "", "", 24⟩], 4, 48, true, (true, [.bool, .str, .bool, .str]), some (.agg [.bool false, .str ⟨#[]⟩, .bool false, .str ⟨#[]⟩]), true⟩
def aoX:TI:=⟨.slice 45,1,24,false,(false,[.slice true [.bool,.str,.bool,.str]]),some (.nil),false⟩
def aoY:TI:=⟨.slice 3,1,24,false,(false,[.slice false [.int .i64]]),some (.nil),false⟩
def aoZ : TI := ⟨.struct #[⟨ "Neg", 4, 0, false, "", "", 0⟩, ⟨ "D", 50, 1, false, "", "", 8⟩], 2, 32, true, (true, [.bool, .slice false [.int .i64]]), some (.agg [.bool false, .nil]), false⟩
def ao0 : TI := ⟨.struct #[⟨ "N", 52, 0, false, "", "", 0⟩, ⟨ "D", 52, 2, false, "", "", 32⟩], 4, 64, true, (true, [.bool, .slice false [.int .i64], .bool, .slice false [.int .i64]]), some (.agg [.bool false, .nil, .bool false, .nil]), false⟩
def ao1 : TI := ⟨.struct #[⟨ "X", 54, 0, false, "", "", 0⟩, ⟨ "Y", 54, 4, false, "", "", 64⟩], 8, 128, true, (true, [.bool, .slice false [.int .i64], .bool, .slice false [.int .i64], .bool, .slice false [.int .i64], .bool, .slice false [.int .i64]]), some (.agg [.bool false, .nil, .bool false, .nil, .bool false, .nil, .bool false, .nil]), false⟩
def ao2:TI:=⟨.slice 5,1,24,false,(false,[.slice false [.int .u8]]),some (.nil),false⟩
def ao3:TI:=⟨.func #[3,3] #[45] false,1,8,false,(false,[.other]),some (.pX),false⟩
def ao4:TI:=⟨.slice 69,1,24,false,(false,[.slice true [.int .i64,.int .i64,.int .i64,.int .i64,.int .i64,.int .i64]]),some (.nil),false⟩
def ao5:TI:=⟨.func #[122] #[] false,1,8,false,(false,[.other]),some (.pX),false⟩
def ao6 : TI := ⟨.struct #[⟨ "A", 26, 0, false, "", "", 0⟩, ⟨ "B", 26, 3, false, "", "", 24⟩], 6, 48, true, (true, [.int .i64, .int .i64, .int .i64, .int .i64, .int .i64, .int .i64]), some (.agg [.int .i64 0, .int .i64 0, .int .i64 0, .int .i64 0, .int .i64 0, .int .i64 0]), true⟩
def ao7:TI:=⟨.func #[22] #[3] false,1,8,false,(false,[.other]),some (.pX),false⟩
def ao8 : TI := ⟨.struct #[⟨ "first", 33, 0, false, "", "skylantern/fence", 0⟩], 1, 8, true, (true, [.int .i64]), some (.agg [.int .i64 0]), true⟩
def ao9 : TI := ⟨.struct #[⟨ "u", 43, 0, false, "", "skylantern/fence", 0⟩, ⟨ "v", 43, 2, false, "", "skylantern/fence", 24⟩, ⟨ "w", 43, 4, false, "", "skylantern/fence", 48⟩], 6, 72, true, (true, [.bool, .str, .bool, .str, .bool, .str]), some (.agg [.bool false, .str ⟨#[]⟩, .bool false, .str ⟨#[]⟩, .bool false, .str ⟨#[]⟩]), true⟩
def aj3:TI:=⟨.func #[45,45] #[3] false,1,8,false,(false,[.other]),some (.pX),false⟩
def aj6:TI:=⟨.func #[3,3,45] #[45] false,1,8,false,(false,[.other]),some (.pX),false⟩
def aj7:TI:=⟨.slice 54,1,24,false,(false,[.slice true [.bool,.slice false [.int .i64],.bool,.slice false [.int .i64]]]),some (.nil),false⟩
def aj8:TI:=⟨.func #[26,26] #[4] false,1,8,false,(false,[.other]),some (.pX),false⟩
def aj9:TI:=⟨.func #[26,26] #[3] false,1,8,false,(false,[.other]),some (.pX),false⟩
def akb:TI:=⟨.func #[26,3] #[3] false,1,8,false,(false,[.other]),some (.pX),false⟩
def akc:TI:=⟨.slice 143,1,24,false,(false,[.slice false [.int .u64]]),some (.nil),false⟩
def akd:TI:=⟨.int .u64,1,8,false,(false,[.int .u64]),some (.int .u64 0),false⟩
def ake : TI := ⟨.struct #[⟨ "neg", 4, 0, false, "", "skylantern/wide", 0⟩, ⟨ "mag", 140, 1, false, "", "skylantern/wide", 8⟩], 2, 32, true, (true, [.bool, .slice false [.int .u64]]), some (.agg [.bool false, .nil]), false⟩
def akf:TI:=⟨.pointer 97,1,8,false,(false,[.other]),some (.VG),false⟩
def akg:TI:=⟨.func #[26] #[43,43] false,1,8,false,(false,[.other]),some (.pX),false⟩
def akh:TI:=⟨.slice 164,1,24,false,(false,[.slice true [.int .i64,.int .i64]]),some (.nil),false⟩
def aki:TI:=⟨.array 2 3,2,16,true,(true,[.int .i64,.int .i64]),some (.agg [.int .i64 0,.int .i64 0]),false⟩
def akj:TI:=⟨.func #[163] #[] true,1,8,false,(false,[.other]),some (.pX),false⟩
def akk:TI:=⟨.int .u64,1,8,false,(false,[.int .u64]),some (.int .u64 0),false⟩
def akl:TI:=⟨.array 3 3,3,24,true,(true,[.int .i64,.int .i64,.int .i64]),some (.agg [.int .i64 0,.int .i64 0,.int .i64 0]),false⟩
def akm : TI := ⟨.interface #[("Error", 182)], 1, 16, false, (false, [.other]), none, false⟩
noncomputable def fi3:FI:=⟨Tryz.f3,{ nvars:=7,cuts:=[(9,[1,5,6],[5])] },[]⟩
noncomputable def apa:FI:=⟨Tryz.f11,{ nvars:=26,frzs:=[1002001],cuts:=[(8,[0,1,66,67,68],[0,66]),(27,[0,1,20,179],[0,20])] },[(14,[[90,1090,2090,3090,91,1091,2091,3091,92,1092,2092,3092],[],[],[],[],[],[],[],[],[]]),(15,[[98,1098,2098,3098,99,1099,2099,3099,100,1100,2100,3100],[],[],[],[],[],[],[],[],[]]),(16,[[106,1106,2106,3106,107,1107,2107,3107],[],[],[],[],[],[],[],[]]),(17,[[113,1113,2113,3113,114,1114,2114,3114],[],[],[],[],[],[],[],[]]),(18,[[120,1120,2120,3120,121,1121,2121,3121],[],[],[],[],[],[],[],[]]),(19,[[127,1127,2127,3127,128,1128,2128,3128],[],[],[],[],[],[],[],[]]),(29,[[],[],[],[186,1186,2186,3186],[],[],[],[190,1190,2190,3190],[],[],[],[],[],[],[],[],[199,1199,2199,3199],[],[],[],[203,1203,2203,3203],[],[],[],[],[],[],[],[],[]]),(32,[[216,1216,2216,3216,23],[23],[23],[23],[23],[23,23],[216,1216,2216,3216,217,1217,2217,3217],[],[]]),(33,[[222,1222,2222,3222,24],[24],[24],[24],[24],[24,24],[222,1222,2222,3222,223,1223,2223,3223],[],[]]),(34,[[228,1228,2228,3228,25],[25],[25],[25],[25],[25,25],[228,1228,2228,3228,229,1229,2229,3229],[],[]]),(35,[[],[],[],[236,1236,2236,3236],[],[],[],[],[],[],[],[],[245,1245,2245,3245],[],[],[],[],[],[],[],[],[254,1254,2254,3254],[],[],[],[],[],[],[],[]])]⟩
noncomputable def apb:FI:=⟨Tryz.f12,{ nvars:=11,cuts:=[(5,[0,3,23,24],[]),(11,[0,3,4,5,6,7,23,24],[5,6])] },[(7,[[5,6],[5,6],[5,6],[5,6],[5,6,5],[5,6,5],[5,6,5],[5,6,5],[5,6,5],[5,6,5],[5,6,5],[6],[5],[],[]]),(13,[[8,9],[8,9],[8,9],[8,9],[8,9,8],[8,9,8],[8,9,8],[8,9,8],[8,9,8],[8,9,8],[8,9,8],[9],[8],[],[]])]⟩
noncomputable def apc:FI:=⟨Tryz.f13,{ nvars:=6,cuts:=[(5,[3,4],[3]),(10,[3,4,5],[3])] },[(7,[[],[],[],[],[],[],[],[],[],[],[]]),(16,[[],[],[],[],[],[],[],[],[],[],[],[],[],[],[],[],[],[],[],[],[],[],[],[],[],[],[],[],[],[],[],[],[],[]]),(13,[[],[],[],[],[],[],[],[],[]])]⟩
noncomputable def apd:FI:=⟨Tryz.f14,{ nvars:=6 },[]⟩
noncomputable def ape:FI:=⟨Tryz.f16,{ nvars:=7,cuts:=[(5,[4,19,20,21],[])] },[(3,[[],[],[],[12,1012,2012,3012],[12,1012,2012,3012],[],[],[],[]])]⟩
noncomputable def apf:FI:=⟨Tryz.f18,{ nvars:=16,cuts:=[(5,[1,2,3,47,48,49],[1,2,3,45]),(10,[1,2,3,5,47,48,49,57],[1,2,3,45]),(15,[1,2,3,5,6,7,47,48,49,57,65,66,67],[1,2,3,6,7,45]),(18,[1,2,3,5,6,7,47,48,49,57,65,66,67,72],[1,2,3,6,7,45]),(26,[1,2,87,88,89],[1,2]),(29,[1,2,12,13,87,88,89,95,96,97],[1,2])] },[]⟩
noncomputable def apg:FI:=⟨Tryz.f20,{ nvars:=6 },[]⟩
noncomputable def aph:FI:=⟨Tryz.f21,{ nvars:=3 },[]⟩
noncomputable def apj:FI:=⟨Tryz.f24,{ nvars:=21,cuts:=[(3,[4,5,6,7,10,24,25,26],[4,5,6,7,24])] },[(7,[[],[],[],[],[],[37,1037,2037,3037],[37,1037,2037,3037],[],[],[],[],[]]),(14,[[56,1056,2056,3056],[],[],[],[56,1056,2056,3056],[],[],[],[],[],[],[]]),(15,[[66,1066,2066,3066],[],[],[],[66,1066,2066,3066],[],[],[],[],[],[],[]]),(19,[[],[],[],[],[],[],[],[],[],[]])]⟩
noncomputable def apk:FI:=⟨Tryz.f27,{ nvars:=4 },[]⟩
noncomputable def apl:FI:=⟨Tryz.f28,{ nvars:=21,cuts:=[(10,[3,4,5,8,9,64],[3,4,5,8,9,62,72]),(19,[3,4,5,8,9,13,14,15],[3,4,5,8,9,13,62,72])] },[(21,[[16],[16],[16],[16],[16],[16],[16],[16],[16],[16],[16],[16],[16,16],[95,1095,2095,3095],[],[]]),(22,[[101,1101,2101,3101,18],[101,1101,2101,3101,18],[18],[18],[18],[18],[18],[18,18],[101,1101,2101,3101,103,1103,2103,3103],[],[]]),(23,[[20],[20],[20],[20],[20],[20],[20],[20],[20],[20],[115,1115,2115,3115,20],[115,1115,2115,3115,20],[115,1115,2115,3115,20],[115,1115,2115,3115,20],[115,1115,2115,3115,20],[115,1115,2115,3115,20],[115,1115,2115,3115,20],[115,1115,2115,3115,20],[115,1115,2115,3115,20],[20],[20],[115,1115,2115,3115,125,1125,2125,3125,126,1126,2126,3126],[]])]⟩
noncomputable def apm:FI:=⟨Tryz.f31,{ shares:=true,rets:=[.func 87 [(true,[.slice true [.int .i64,.int .i64,.int .i64],.slice false [.slice true [.int .i64,.int .i64,.int .i64]],.int .i64,.int .i64])]],nvars:=3 },[]⟩
noncomputable def apn:FI:=⟨Tryz.f32,{ nvars:=12,cuts:=[(5,[3,4,6,22],[3,4,6])] },[]⟩
noncomputable def apo:FI:=⟨Tryz.f37,{ rets:=[.fresh],nvars:=5,cuts:=[(3,[0,3,4],[3])] },[(5,[[23],[],[],[],[],[],[],[],[],[],[],[],[],[]])]⟩
noncomputable def apq:FI:=⟨Tryz.f38,{ nvars:=5 },[]⟩
noncomputable def apr:FI:=⟨Tryz.f39,{ nvars:=3 },[]⟩
noncomputable def aps:FI:=⟨Tryz.f40,{ nvars:=3 },[]⟩
noncomputable def apt:FI:=⟨Tryz.f41,{ nvars:=7 },[]⟩
noncomputable def apu:FI:=⟨Tryz.f42,{ nvars:=9 },[(1,[[],[],[],[],[],[],[],[],[],[],[],[],[],[],[],[],[],[],[],[],[],[],[],[],[],[],[],[35,1035,2035,3035],[35,1035,2035,3035],[35,1035,2035,3035],[],[],[],[],[],[],[],[],[46,1046,2046,3046],[46,1046,2046,3046],[46,1046,2046,3046],[],[],[],[],[],[]])]⟩
noncomputable def apv:FI:=⟨Tryz.f43,{ nvars:=4,cuts:=[(2,[0,3],[])] },[]⟩
noncomputable def apw:FI:=⟨Tryz.f44,{ rets:=[.fresh],nvars:=6,cuts:=[(3,[0,3,4],[3])] },[(6,[[41],[],[],[],[],[],[],[],[],[],[],[],[],[],[],[],[],[],[],[],[],[],[],[],[],[],[]])]⟩
noncomputable def apx:FI:=⟨Tryz.f45,{ nvars:=7 },[]⟩
noncomputable def apy:FI:=⟨Tryz.f46,{ nvars:=5 },[(3,[[],[],[],[],[],[],[],[45,1045,2045,3045],[45,1045,2045,3045],[45,1045,2045,3045],[45,1045,2045,3045],[45,1045,2045,3045],[45,1045,2045,3045],[],[],[],[],[],[],[],[],[],[],[],[62,1062,2062,3062],[62,1062,2062,3062],[62,1062,2062,3062],[62,1062,2062,3062],[62,1062,2062,3062],[62,1062,2062,3062],[],[],[],[],[],[],[],[],[],[],[],[],[],[],[],[],[],[],[],[],[],[],[],[],[]])]⟩
noncomputable def apz:FI:=⟨Tryz.f47,{ nvars:=6,cuts:=[(3,[3,7],[3])] },[]⟩
noncomputable def apA:FI:=⟨Tryz.f48,{ nvars:=3 },[]⟩
noncomputable def apB:FI:=⟨Tryz.f51,{ shares:=true,rets:=[.func 100 [(true,[.slice true [.int .i64,.int .i64,.int .i64]])]],nvars:=3 },[]⟩
noncomputable def apC:FI:=⟨Tryz.f52,{ nvars:=5 },[]⟩
noncomputable def apD:FI:=⟨Tryz.f55,{ nvars:=5 },[]⟩
noncomputable def apE:FI:=⟨Tryz.f56,{ nvars:=6,cuts:=[(2,[1,2,5],[2])] },[]⟩
noncomputable def apF:FI:=⟨Tryz.f59,{ nvars:=3 },[]⟩
noncomputable def apG:FI:=⟨Tryz.f60,{ nvars:=3 },[]⟩
noncomputable def apH:FI:=⟨Tryz.f61,{ nvars:=6 },[]⟩
noncomputable def apI:FI:=⟨Tryz.f62,{ nvars:=9 },[(4,[[22,1022,2022,3022],[],[],[],[],[],[]])]⟩
noncomputable def apJ:FI:=⟨Tryz.f63,{ nvars:=6 },[(1,[[],[],[],[],[],[],[12,1012,2012,3012],[12,1012,2012,3012],[12,1012,2012,3012],[12,1012,2012,3012],[12,1012,2012,3012],[],[12,1012,2012,3012,18,1018,2018,3018],[12,1012,2012,3012,18,1018,2018,3018],[12,1012,2012,3012,18,1018,2018,3018],[12,1012,2012,3012,18,1018,2018,3018],[12,1012,2012,3012,18,1018,2018,3018],[],[],[]])]⟩
noncomputable def apK:FI:=⟨Tryz.f64,{ nvars:=5 },[]⟩
noncomputable def apL:FI:=⟨Tryz.f65,{ nvars:=5 },[]⟩
noncomputable def apM:FI:=⟨Tryz.f66,{ nvars:=8,frzs:=[1006003,1006005] },[]⟩
noncomputable def apN:FI:=⟨Tryz.f70,{ nvars:=9,cuts:=[(3,[1,2,3,4],[1,2,3,4]),(6,[1,2,3,4,5,6],[1,2,3,4]),(15,[1,2,3,7,8],[1,2,3,7])] },[]⟩
noncomputable def apO:FI:=⟨Tryz.f71,{ shares:=true,nvars:=2,quiet:=true },[]⟩
noncomputable def apP:FI:=⟨Tryz.f72,{ rets:=[.fresh],nvars:=15,take:=true },[(2,[[],[],[],[],[],[],[],[],[],[],[],[]])]⟩
noncomputable def aiz:FI:=⟨Tryz.f73,{ nvars:=7 },[]⟩
noncomputable def ag8:FI:=⟨Tryz.f74,{ vY:=true,nvars:=5 },[]⟩
noncomputable def apQ:FI:=⟨Tryz.f75,{ vY:=true,rets:=[.alias 0],nvars:=6,cuts:=[(4,[0,3],[100000]),(9,[0,3,4,5],[100000])] },[(6,[[],[],[],[],[],[],[],[],[],[]]),(11,[[],[],[],[],[],[],[],[],[],[]])]⟩
noncomputable def apR:FI:=⟨Tryz.f76,{ nvars:=9 },[(1,[[8],[8],[10,1010,2010,3010,8],[10,1010,2010,3010,8],[8],[10,1010,2010,3010,13,1013,2013,3013],[]]),(2,[[16,1016,2016,3016,19,1019,2019,3019],[],[],[16,1016,2016,3016],[16,1016,2016,3016],[],[],[],[],[],[16,1016,2016,3016,19,1019,2019,3019,20,1020,2020,3020,23,1023,2023,3023],[16,1016,2016,3016,19,1019,2019,3019,20,1020,2020,3020,23,1023,2023,3023],[],[]])]⟩
noncomputable def apS:FI:=⟨Tryz.f77,{ nvars:=6 },[]⟩
noncomputable def apT:FI:=⟨Tryz.f78,{ nvars:=6 },[]⟩
noncomputable def apU:FI:=⟨Tryz.f79,{ nvars:=6 },[(3,[[],[],[12,1012,2012,3012],[],[],[],[],[],[],[]])]⟩
noncomputable def apV:FI:=⟨Tryz.f80,{ nvars:=9 },[(4,[[],[],[],[23,1023,2023,3023],[],[],[],[],[]])]⟩
noncomputable def apW:FI:=⟨Tryz.f81,{ nvars:=6 },[(3,[[],[],[],[13,1013,2013,3013],[13,1013,2013,3013],[],[],[13,1013,2013,3013,16,1016,2016,3016,17,1017,2017,3017],[13,1013,2013,3013,16,1016,2016,3016,17,1017,2017,3017],[],[13,1013,2013,3013,16,1016,2016,3016,17,1017,2017,3017,20,1020,2020,3020],[13,1013,2013,3013,16,1016,2016,3016,17,1017,2017,3017,20,1020,2020,3020],[],[],[],[],[],[],[]])]⟩
noncomputable def apX:FI:=⟨Tryz.f82,{ nvars:=5 },[]⟩
noncomputable def qw:FI:=⟨Tryz.f87,{ nvars:=7,gext:=true,yk:=[(true,[.int .i64,.int .i64,.int .i64]),(true,[.int .i64,.int .i64,.int .i64])] },[]⟩
noncomputable def ag3:FI:=⟨Tryz.f88,{ shares:=true,rets:=[.fresh],nvars:=3 },[]⟩
noncomputable def apY:FI:=⟨Tryz.f89,{ vY:=true,nvars:=4,cuts:=[(1,[0,2,3],[100000])] },[(3,[[],[],[],[],[],[],[],[],[],[],[],[],[],[],[],[]])]⟩
noncomputable def apZ:FI:=⟨Tryz.f90,{ nvars:=19 },[(1,[[],[],[],[],[],[],[],[],[],[],[],[]]),(7,[[85,1085,2085,3085,15],[15],[15],[15],[15],[15],[15,15],[85,1085,2085,3085,86,1086,2086,3086],[],[]])]⟩
noncomputable def ap0:FI:=⟨Tryz.f94,{ nvars:=6,cuts:=[(2,[0,1,7,8],[])] },[]⟩
noncomputable def ap1:FI:=⟨Tryz.f95,{ nvars:=7,cuts:=[(2,[0,7,8,9],[])] },[]⟩
noncomputable def ap2:FI:=⟨Tryz.f96,{ nvars:=9 },[]⟩
noncomputable def ap3:FI:=⟨Tryz.f97,{ nvars:=8 },[(1,[[],[],[],[10,1010,2010,3010],[10,1010,2010,3010],[],[],[],[]])]⟩
noncomputable def aaL:FI:=⟨Tryz.f100,{ nvars:=6,yk:=[(true,[.int .i64,.int .i64,.int .i64]),(true,[.int .i64,.int .i64,.int .i64])],ys:=[0,21],cuts:=[(1,[0,1,6,7,8],[100000])] },[(3,[[5],[5],[5],[5],[5],[5],[5],[5],[],[]])]⟩
noncomputable def akn:FI:=⟨Tryz.f101,{ nvars:=15,cuts:=[(3,[4,5,6,7,16],[4,5,6,7])] },[(6,[[],[],[],[25,1025,2025,3025],[25,1025,2025,3025],[],[25,1025,2025,3025,28,1028,2028,3028],[25,1025,2025,3025,28,1028,2028,3028],[],[25,1025,2025,3025,28,1028,2028,3028,31,1031,2031,3031],[25,1025,2025,3025,28,1028,2028,3028,31,1031,2031,3031],[],[],[],[],[]])]⟩
noncomputable def ako:FI:=⟨Tryz.f102,{ nvars:=6 },[]⟩
noncomputable def akp:FI:=⟨Tryz.f103,{ nvars:=6 },[]⟩
noncomputable def akq:FI:=⟨Tryz.f104,{ nvars:=7,cuts:=[(3,[2,3,4,5,6],[2,3,4,5])] },[(5,[[16,1016,2016,3016,21,1021,2021,3021,27,1027,2027,3027,32,1032,2032,3032],[],[],[],[],[],[16,1016,2016,3016],[16,1016,2016,3016],[16,1016,2016,3016],[16,1016,2016,3016],[],[27,1027,2027,3027,32,1032,2032,3032],[16,1016,2016,3016,21,1021,2021,3021],[16,1016,2016,3016,21,1021,2021,3021],[16,1016,2016,3016,21,1021,2021,3021],[16,1016,2016,3016,21,1021,2021,3021],[],[16,1016,2016,3016,21,1021,2021,3021,27,1027,2027,3027],[16,1016,2016,3016,21,1021,2021,3021,27,1027,2027,3027],[16,1016,2016,3016,21,1021,2021,3021,27,1027,2027,3027],[16,1016,2016,3016,21,1021,2021,3021,27,1027,2027,3027],[],[],[],[],[]])]⟩
noncomputable def akr:FI:=⟨Tryz.f105,{ nvars:=4 },[(1,[[7,1007,2007,3007],[],[],[],[]])]⟩
noncomputable def aks:FI:=⟨Tryz.f106,{ nvars:=4 },[]⟩
noncomputable def akt:FI:=⟨Tryz.f107,{ nvars:=5 },[]⟩
noncomputable def aku:FI:=⟨Tryz.f108,{ nvars:=5 },[]⟩
noncomputable def akv:FI:=⟨Tryz.f109,{ nvars:=3 },[]⟩
noncomputable def akw:FI:=⟨Tryz.f110,{ nvars:=3 },[]⟩
noncomputable def akx:FI:=⟨Tryz.f111,{ rets:=[.fresh],nvars:=6,cuts:=[(3,[0,3,12,13],[3])] },[(6,[[29],[29],[29],[29],[29],[],[],[],[],[29],[29],[29],[],[],[],[]])]⟩
noncomputable def aky:FI:=⟨Tryz.f112,{ nvars:=3 },[]⟩
noncomputable def akz:FI:=⟨Tryz.f113,{ vY:=true,rets:=[.alias 0],nvars:=3,cuts:=[(1,[0],[100000])] },[]⟩
noncomputable def akA:FI:=⟨Tryz.f114,{ nvars:=4 },[(3,[[],[],[],[19,1019,2019,3019],[19,1019,2019,3019],[19,1019,2019,3019],[19,1019,2019,3019],[19,1019,2019,3019],[],[],[],[],[],[]])]⟩
noncomputable def akB:FI:=⟨Tryz.f115,{ nvars:=5 },[]⟩
noncomputable def akC:FI:=⟨Tryz.f116,{ shares:=true,nvars:=7,quiet:=true },[(1,[[],[],[],[9,1009,2009,3009],[9,1009,2009,3009],[],[],[9,1009,2009,3009,12,1012,2012,3012,13,1013,2013,3013],[9,1009,2009,3009,12,1012,2012,3012,13,1013,2013,3013],[],[9,1009,2009,3009,12,1012,2012,3012,13,1013,2013,3013,16,1016,2016,3016],[9,1009,2009,3009,12,1012,2012,3012,13,1013,2013,3013,16,1016,2016,3016],[],[],[9,1009,2009,3009,12,1012,2012,3012,13,1013,2013,3013,16,1016,2016,3016,19,1019,2019,3019,20,1020,2020,3020],[9,1009,2009,3009,12,1012,2012,3012,13,1013,2013,3013,16,1016,2016,3016,19,1019,2019,3019,20,1020,2020,3020],[],[9,1009,2009,3009,12,1012,2012,3012,13,1013,2013,3013,16,1016,2016,3016,19,1019,2019,3019,20,1020,2020,3020,23,1023,2023,3023],[9,1009,2009,3009,12,1012,2012,3012,13,1013,2013,3013,16,1016,2016,3016,19,1019,2019,3019,20,1020,2020,3020,23,1023,2023,3023],[],[],[],[],[]])]⟩
noncomputable def akD:FI:=⟨Tryz.f117,{ shares:=true,nvars:=4,quiet:=true },[(2,[[17,1017,2017,3017],[17,1017,2017,3017],[],[],[],[],[],[],[]]),(4,[[32,1032,2032,3032],[32,1032,2032,3032],[],[],[],[],[],[],[]]),(5,[[40,1040,2040,3040],[40,1040,2040,3040],[],[],[],[],[],[],[]])]⟩
noncomputable def akE:FI:=⟨Tryz.f118,{ shares:=true,nvars:=2,quiet:=true },[]⟩
noncomputable def akF:FI:=⟨Tryz.f119,{ nvars:=3 },[]⟩
noncomputable def akG:FI:=⟨Tryz.f120,{ nvars:=5 },[]⟩
noncomputable def akH:FI:=⟨Tryz.f121,{ nvars:=4 },[]⟩
noncomputable def akI:FI:=⟨Tryz.f122,{ nvars:=4 },[(1,[[12,1012,2012,3012,15,1015,2015,3015],[12,1012,2012,3012,15,1015,2015,3015],[12,1012,2012,3012,15,1015,2015,3015],[12,1012,2012,3012],[],[],[],[12,1012,2012,3012],[12,1012,2012,3012],[],[],[12,1012,2012,3012,15,1015,2015,3015,16,1016,2016,3016,23,1023,2023,3023,26,1026,2026,3026],[12,1012,2012,3012,15,1015,2015,3015,16,1016,2016,3016,23,1023,2023,3023,26,1026,2026,3026],[12,1012,2012,3012,15,1015,2015,3015,16,1016,2016,3016,23,1023,2023,3023,26,1026,2026,3026],[12,1012,2012,3012,15,1015,2015,3015,16,1016,2016,3016,23,1023,2023,3023],[12,1012,2012,3012,15,1015,2015,3015,16,1016,2016,3016],[12,1012,2012,3012,15,1015,2015,3015,16,1016,2016,3016],[],[12,1012,2012,3012,15,1015,2015,3015,16,1016,2016,3016,23,1023,2023,3023],[12,1012,2012,3012,15,1015,2015,3015,16,1016,2016,3016,23,1023,2023,3023],[],[],[],[]])]⟩
noncomputable def akJ:FI:=⟨Tryz.f123,{ nvars:=6 },[]⟩
noncomputable def akK:FI:=⟨Tryz.f124,{ nvars:=9 },[(2,[[22,1022,2022,3022,24,1024,2024,3024,31,1031,2031,3031,33,1033,2033,3033],[22,1022,2022,3022],[],[],[],[],[],[],[22,1022,2022,3022],[],[22,1022,2022,3022,24,1024,2024,3024,31,1031,2031,3031],[22,1022,2022,3022,24,1024,2024,3024],[22,1022,2022,3022,24,1024,2024,3024],[22,1022,2022,3022,24,1024,2024,3024],[22,1022,2022,3022,24,1024,2024,3024],[22,1022,2022,3022,24,1024,2024,3024],[],[22,1022,2022,3022,24,1024,2024,3024,31,1031,2031,3031],[],[],[],[]])]⟩
noncomputable def akL:FI:=⟨Tryz.f125,{ nvars:=8 },[]⟩
noncomputable def akM:FI:=⟨Tryz.f128,{ rets:=[.fresh],nvars:=8,cuts:=[(4,[0,1,5,6,7],[5])] },[]⟩
noncomputable def akN:FI:=⟨Tryz.f130,{ vY:=true,rets:=[.alias 0],nvars:=3,cuts:=[(1,[0],[100000])] },[]⟩
noncomputable def akO:FI:=⟨Tryz.f131,{ shares:=true,nvars:=4 },[]⟩
noncomputable def akP:FI:=⟨Tryz.f132,{ shares:=true,nvars:=4,quiet:=true },[(1,[[7,1007,2007,3007],[],[],[],[]])]⟩
noncomputable def akQ:FI:=⟨Tryz.f133,{ nvars:=7,vcall:=true,aef:=45,cuts:=[(1,[1,7,8,9],[99999,100000])] },[]⟩
noncomputable def akR:FI:=⟨Tryz.f134,{ nvars:=6 },[]⟩
noncomputable def akS:FI:=⟨Tryz.f135,{ nvars:=5 },[(3,[[],[],[10,1010,2010,3010],[],[],[],[],[]])]⟩
noncomputable def akT:FI:=⟨Tryz.f138,{ nvars:=6 },[(3,[[],[],[12,1012,2012,3012],[],[],[],[],[],[],[]])]⟩
noncomputable def akU:FI:=⟨Tryz.f139,{ shares:=true,nvars:=2,quiet:=true },[(1,[[7,1007,2007,3007],[7,1007,2007,3007],[],[],[],[],[]])]⟩
noncomputable def akV:FI:=⟨Tryz.f140,{ nvars:=11 },[(1,[[17,1017,2017,3017,6],[17,1017,2017,3017,6],[6],[6],[6],[6],[6],[6],[17,1017,2017,3017],[]])]⟩
noncomputable def akW:FI:=⟨Tryz.f141,{ shares:=true,nvars:=4,quiet:=true },[(1,[[14,1014,2014,3014],[14,1014,2014,3014],[14,1014,2014,3014],[14,1014,2014,3014],[14,1014,2014,3014],[],[],[],[],[],[],[]])]⟩
noncomputable def akX:FI:=⟨Tryz.f142,{ shares:=true,nvars:=4,quiet:=true },[(2,[[16,1016,2016,3016],[16,1016,2016,3016],[],[],[],[],[],[],[]]),(4,[[30,1030,2030,3030],[30,1030,2030,3030],[],[],[],[],[],[],[]]),(5,[[38,1038,2038,3038],[38,1038,2038,3038],[],[],[],[],[],[],[]])]⟩
noncomputable def akY:FI:=⟨Tryz.f143,{ nvars:=6 },[(5,[[],[],[16,1016,2016,3016],[],[],[],[],[],[]])]⟩
noncomputable def akZ:FI:=⟨Tryz.f148,{ shares:=true,nvars:=2,quiet:=true },[]⟩
noncomputable def ak0:FI:=⟨Tryz.f150,{ nvars:=8 },[]⟩
noncomputable def ak1:FI:=⟨Tryz.f151,{ nvars:=4 },[]⟩
noncomputable def ak2:FI:=⟨Tryz.f152,{ nvars:=2 },[]⟩
noncomputable def ak3:FI:=⟨Tryz.f153,{ nvars:=3 },[]⟩
noncomputable def ak4:FI:=⟨Tryz.f154,{ nvars:=6,cuts:=[(3,[0,3,12,13],[3])] },[]⟩
noncomputable def ak5:FI:=⟨Tryz.f155,{ rets:=[.fresh],nvars:=9,cuts:=[(6,[0,1,5,6,21,22],[5])] },[]⟩
noncomputable def ak6:FI:=⟨Tryz.f156,{ nvars:=6,cuts:=[(4,[0,1,5],[])] },[(6,[[],[],[],[],[],[],[],[],[],[]]),(8,[[],[],[],[],[],[],[],[],[],[]])]⟩
noncomputable def ak7:FI:=⟨Tryz.f157,{ rets:=[.fresh],nvars:=9,cuts:=[(4,[0,1,5,6,13,14],[5])] },[]⟩
noncomputable def ak8:FI:=⟨Tryz.f158,{ nvars:=6,cuts:=[(2,[0,1,7,8],[])] },[]⟩
noncomputable def ak9:FI:=⟨Tryz.f159,{ nvars:=6 },[(3,[[],[],[12,1012,2012,3012],[],[],[],[],[],[],[],[]])]⟩
noncomputable def ala:FI:=⟨Tryz.f170,{ nvars:=3 },[]⟩
noncomputable def alb:FI:=⟨Tryz.f171,{ shares:=true,rets:=[.deep],nvars:=7,quiet:=true,cuts:=[(1,[0,1],[])] },[]⟩
noncomputable def alc:FI:=⟨Tryz.f172,{ shares:=true,nvars:=8,quiet:=true },[(3,[[24],[],[],[24,25,1025,2025,3025],[24,25,1025,2025,3025],[24,25,1025,2025,3025],[],[],[]])]⟩
noncomputable def ald:FI:=⟨Tryz.f173,{ rets:=[.fresh],nvars:=14,cuts:=[(3,[1,5,20,21,22],[5]),(7,[1,5,6,7,8,20,21,22,27,28,29],[5])] },[]⟩
noncomputable def ale:FI:=⟨Tryz.f174,{ nvars:=6,cuts:=[(6,[0,1,5],[])] },[(8,[[],[],[],[],[],[],[],[],[]]),(10,[[],[],[],[],[],[],[],[],[]])]⟩
noncomputable def alf:FI:=⟨Tryz.f175,{ rets:=[.fresh],nvars:=9,cuts:=[(4,[0,1,5,6,7],[5])] },[]⟩
noncomputable def alg:FI:=⟨Tryz.f177,{ nvars:=3 },[]⟩
noncomputable def alh:FI:=⟨Tryz.f178,{ nvars:=3 },[]⟩
noncomputable def agz:FI:=⟨Tryz.f179,{ Jg:=.carry false,nvars:=3 },[]⟩
noncomputable def agA:FI:=⟨Tryz.f180,{ Jg:=.carry true,nvars:=3 },[]⟩
noncomputable def ali:FI:=⟨Tryz.f186,{ shares:=true,rets:=[.fresh,.deep],nvars:=18,quiet:=true,cuts:=[(12,[8,9,10,11,12,13],[9,10,12]),(19,[8,9,10,11,12,13,14,15,16],[9,10,12,16])] },[(7,[[51],[51],[51],[47,1047,2047,3047],[47,1047,2047,3047],[47,1047,2047,3047],[47,1047,2047,3047],[51],[]]),(15,[[],[],[],[],[],[],[],[],[],[],[],[]]),(16,[[],[],[],[],[],[],[],[],[],[],[],[],[],[],[],[],[],[],[],[],[],[],[]])]⟩
noncomputable def alj:FI:=⟨Tryz.f187,{ nvars:=14 },[]⟩
noncomputable def alk:FI:=⟨Tryz.f189,{ rets:=[.fresh,.deep],nvars:=9,cuts:=[(4,[0,1,6,7,8],[6])] },[]⟩
noncomputable def alm:FI:=⟨Tryz.f190,{ rets:=[.fresh],nvars:=10,cuts:=[(6,[5,6,7,23,24,25],[7])] },[(8,[[],[],[],[],[],[],[],[],[],[],[],[]])]⟩
noncomputable def aln:FI:=⟨Tryz.f191,{ nvars:=19,cuts:=[(17,[2,8,9,10,11,13,14,15,16],[]),(24,[2,8,9,10,14,15,16,17,18],[])] },[(6,[[],[],[],[],[],[],[],[]])]⟩
noncomputable def alo:FI:=⟨Tryz.f192,{ rets:=[.fresh],nvars:=9,cuts:=[(7,[0,5,6,7,24,25],[7])] },[(11,[[],[],[],[],[],[],[],[],[],[],[],[],[],[],[],[],[]])]⟩
noncomputable def adu:FI:=⟨Tryz.f193,{ shares:=true,rets:=[.fresh],nvars:=3 },[]⟩
noncomputable def tab:Tab:=⟨[(3,ty3),(4,ty4),(5,ty5),(9,ty9),(22,aoO),(24,aoP),(26,aoQ),(29,aoR),(31,aoS),(33,aoT),(39,aoU),(43,aoV),(45,aoW),(46,aoX),(50,aoY),(52,aoZ),(54,ao0),(57,ao1),(58,ao2),(59,ao3),(63,ao4),(66,ao5),(69,ao6),(84,ao7),(97,ao8),(99,ao9),(109,aj3),(116,aj6),(118,aj7),(122,aj8),(135,aj9),(136,akb),(140,akc),(143,akd),(146,ake),(153,akf),(155,akg),(163,akh),(164,aki),(167,akj),(170,akk),(179,akl),(219,akm)],
 [(3,fi3),(11,apa),(12,apb),(13,apc),(14,apd),(16,ape),(18,apf),(20,apg),(21,aph),(24,apj),(27,apk),(28,apl),(31,apm),(32,apn),(37,apo),(38,apq),(39,apr),(40,aps),(41,apt),(42,apu),(43,apv),(44,apw),(45,apx),(46,apy),(47,apz),(48,apA),(51,apB),(52,apC),(55,apD),(56,apE),(59,apF),(60,apG),(61,apH),(62,apI),(63,apJ),(64,apK),(65,apL),(66,apM),(70,apN),(71,apO),(72,apP),(73,aiz),(74,ag8),(75,apQ),(76,apR),(77,apS),(78,apT),(79,apU),(80,apV),(81,apW),(82,apX),(87,qw),(88,ag3),(89,apY),(90,apZ),(94,ap0),(95,ap1),(96,ap2),(97,ap3),(100,aaL),(101,akn),(102,ako),(103,akp),(104,akq),(105,akr),(106,aks),(107,akt),(108,aku),(109,akv),(110,akw),(111,akx),(112,aky),(113,akz),(114,akA),(115,akB),(116,akC),(117,akD),(118,akE),(119,akF),(120,akG),(121,akH),(122,akI),(123,akJ),(124,akK),(125,akL),(128,akM),(130,akN),(131,akO),(132,akP),(133,akQ),(134,akR),(135,akS),(138,akT),(139,akU),(140,akV),(141,akW),(142,akX),(143,akY),(148,akZ),(150,ak0),(151,ak1),(152,ak2),(153,ak3),(154,ak4),(155,ak5),(156,ak6),(157,ak7),(158,ak8),(159,ak9),(170,ala),(171,alb),(172,alc),(173,ald),(174,ale),(175,alf),(177,alg),(178,alh),(179,agz),(180,agA),(186,ali),(187,alj),(189,alk),(190,alm),(191,aln),(192,alo),(193,adu)],false,[],[],fun _ _=>True⟩
end Go.Skm.Fen
