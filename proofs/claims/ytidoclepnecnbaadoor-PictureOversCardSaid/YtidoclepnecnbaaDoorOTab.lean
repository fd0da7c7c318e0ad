/-
  A text of this claim's proof: what stands below is laid by program; no condition.
-/
import Derived.Test.YtidoclepnecnbaaDoorProg
import Derived.Test.YtidoclepnecnbaaDoorOSkmA
namespace Go.Skm.Pio
open Go
def ty3 : TI := ⟨.int .i64, 1, 8, false, (false, [.int .i64]), some (.int .i64 0), false⟩
def ty4 : TI := ⟨.bool, 1, 1, false, (false, [.bool]), some (.bool false), false⟩
def ty5 : TI := ⟨.int .u8, 1, 1, false, (false, [.int .u8]), some (.int .u8 0), false⟩
def ty9 : TI := ⟨.string, 1, 16, false, (false, [.str]), some (.str ⟨#[]⟩), false⟩
def ty23 : TI := ⟨.struct #[⟨ "R", 5, 0, false, "", "", 0⟩, ⟨ "G", 5, 1, false, "", "", 1⟩, ⟨ "B", 5, 2, false, "", "", 2⟩], 3, 3, true, (true, [.int .u8, .int .u8, .int .u8]), some (.agg [.int .u8 0, .int .u8 0, .int .u8 0]), true⟩
def ty24 : TI := ⟨.slice 41, 1, 24, false, (false, [.slice true [.int .i64, .int .i64, .int .i64, .int .u8, .int .u8, .int .u8]]), some (.nil), false⟩
def ty26 : TI := ⟨.struct #[⟨ "Width", 3, 0, false, "", "", 0⟩, ⟨ "Height", 3, 1, false, "", "", 8⟩, ⟨ "Back", 23, 2, false, "", "", 16⟩, ⟨ "Dots", 24, 5, false, "", "", 24⟩], 6, 48, true, (true, [.int .i64, .int .i64, .int .u8, .int .u8, .int .u8, .slice true [.int .i64, .int .i64, .int .i64, .int .u8, .int .u8, .int .u8]]), some (.agg [.int .i64 0, .int .i64 0, .int .u8 0, .int .u8 0, .int .u8 0, .nil]), false⟩
def ty29 : TI := ⟨.int .i64, 1, 8, false, (false, [.int .i64]), some (.int .i64 0), false⟩
def ty41 : TI := ⟨.struct #[⟨ "X", 3, 0, false, "", "", 0⟩, ⟨ "Y", 3, 1, false, "", "", 8⟩, ⟨ "Radius", 3, 2, false, "", "", 16⟩, ⟨ "Color", 23, 3, false, "", "", 24⟩], 6, 32, true, (true, [.int .i64, .int .i64, .int .i64, .int .u8, .int .u8, .int .u8]), some (.agg [.int .i64 0, .int .i64 0, .int .i64 0, .int .u8 0, .int .u8 0, .int .u8 0]), true⟩
def ty53 : TI := ⟨.slice 23, 1, 24, false, (false, [.slice true [.int .u8, .int .u8, .int .u8]]), some (.nil), false⟩
def ty64 : TI := ⟨.func #[65] #[4] false, 1, 8, false, (false, [.other]), some (.nilfn), false⟩
def ty65 : TI := ⟨.struct #[⟨ "X", 3, 0, false, "", "", 0⟩, ⟨ "Y", 3, 1, false, "", "", 8⟩, ⟨ "Radius", 3, 2, false, "", "", 16⟩, ⟨ "Color", 23, 3, false, "", "", 24⟩], 6, 32, true, (true, [.int .i64, .int .i64, .int .i64, .int .u8, .int .u8, .int .u8]), some (.agg [.int .i64 0, .int .i64 0, .int .i64 0, .int .u8 0, .int .u8 0, .int .u8 0]), true⟩
def ty67 : TI := ⟨.pointer 70, 1, 8, false, (false, [.other]), some (.nilp), false⟩
def ty68 : TI := ⟨.slice 5, 1, 24, false, (false, [.slice false [.int .u8]]), some (.nil), false⟩
def ty70 : TI := ⟨.struct #[⟨ "addr", 67, 0, false, "", "strings", 0⟩, ⟨ "buf", 68, 1, false, "", "strings", 8⟩], 2, 32, true, (true, [.other, .slice false [.int .u8]]), some (.agg [.nilp, .nil]), false⟩
def ty72 : TI := ⟨.interface #[("Error", 76)], 1, 16, false, (false, [.other]), some (.nilif), false⟩
def ty83 : TI := ⟨.slice 3, 1, 24, false, (false, [.slice false [.int .i64]]), some (.nil), false⟩
def ty86 : TI := ⟨.slice 9, 1, 24, false, (false, [.slice false [.str]]), some (.nil), false⟩
def ty94 : TI := ⟨.func #[106] #[] false, 1, 8, false, (false, [.other]), some (.nilfn), false⟩
def ty99 : TI := ⟨.pointer 5, 1, 8, false, (false, [.other]), some (.nilp), false⟩
def ty102 : TI := ⟨.array 3 5, 3, 3, true, (true, [.int .u8, .int .u8, .int .u8]), some (.agg [.int .u8 0, .int .u8 0, .int .u8 0]), false⟩
def ty104 : TI := ⟨.slice 24, 1, 24, false, (false, [.slice false [.slice true [.int .i64, .int .i64, .int .i64, .int .u8, .int .u8, .int .u8]]]), some (.nil), false⟩
def ty106 : TI := ⟨.func #[3, 41] #[4] false, 1, 8, false, (false, [.other]), some (.nilfn), false⟩
def ty107 : TI := ⟨.int .u64, 1, 8, false, (false, [.int .u64]), some (.int .u64 0), false⟩
def ty117 : TI := ⟨.int .u32, 1, 4, false, (false, [.int .u32]), some (.int .u32 0), false⟩
def ty120 : TI := ⟨.int .u64, 1, 8, false, (false, [.int .u64]), some (.int .u64 0), false⟩
noncomputable def fi3 : FI := ⟨Go.Proofs.Tryd.f3, { nvars := 3 }, [(3, [[], [], [9, 1009, 2009, 3009], [], [], [], [], [], []])]⟩
noncomputable def fi4 : FI := ⟨Go.Proofs.Tryd.f4, { nvars := 9 }, []⟩
noncomputable def fi5 : FI := ⟨Go.Proofs.Tryd.f5, { nvars := 7 }, []⟩
noncomputable def fi6 : FI := ⟨Go.Proofs.Tryd.f6, { nvars := 15, cuts := [(5, [2, 3, 4, 7], [3, 4, 7]), (14, [3, 4, 8, 9, 10, 14], [3, 4, 7, 8, 9, 10, 53, 55, 59])] }, [(8, [[8, 9], [8, 9], [53, 1053, 2053, 3053, 8, 9], [8, 9], [53, 1053, 2053, 3053, 55, 1055, 2055, 3055, 9], [53, 1053, 2053, 3053, 55, 1055, 2055, 3055, 8], [], []])]⟩
noncomputable def fi8 : FI := ⟨Go.Proofs.Tryd.f8, { nvars := 15 }, []⟩
noncomputable def fi10 : FI := ⟨Go.Proofs.Tryd.f10, { nvars := 11 }, []⟩
noncomputable def fi11 : FI := ⟨Go.Proofs.Tryd.f11, { nvars := 6, cuts := [(3, [1, 3, 7, 8, 9], [1])] }, []⟩
noncomputable def fi12 : FI := ⟨Go.Proofs.Tryd.f12, { nvars := 5, cuts := [(4, [1, 3], [1])] }, []⟩
noncomputable def fi13 : FI := ⟨Go.Proofs.Tryd.f13, { nvars := 3 }, []⟩
noncomputable def fi14 : FI := ⟨Go.Proofs.Tryd.f14, { nvars := 7, cuts := [(6, [4, 20, 21, 22], [4, 18])] }, []⟩
noncomputable def fi15 : FI := ⟨Go.Proofs.Tryd.f15, { nvars := 7, cuts := [(5, [1, 4, 5], [1])] }, [(3, [[], [], [], [17, 1017, 2017, 3017, 22, 1022, 2022, 3022], [17, 1017, 2017, 3017, 22, 1022, 2022, 3022], [12, 1012, 2012, 3012], [12, 1012, 2012, 3012], [], [22, 1022, 2022, 3022], [22, 1022, 2022, 3022], [12, 1012, 2012, 3012, 17, 1017, 2017, 3017], [12, 1012, 2012, 3012, 17, 1017, 2017, 3017], [], [], [], []]), (8, [[41, 1041, 2041, 3041, 46, 1046, 2046, 3046, 51, 1051, 2051, 3051, 56, 1056, 2056, 3056], [41, 1041, 2041, 3041, 46, 1046, 2046, 3046, 51, 1051, 2051, 3051, 56, 1056, 2056, 3056], [], [], [], [46, 1046, 2046, 3046, 51, 1051, 2051, 3051, 56, 1056, 2056, 3056], [46, 1046, 2046, 3046, 51, 1051, 2051, 3051, 56, 1056, 2056, 3056], [41, 1041, 2041, 3041], [41, 1041, 2041, 3041], [], [51, 1051, 2051, 3051, 56, 1056, 2056, 3056], [51, 1051, 2051, 3051, 56, 1056, 2056, 3056], [41, 1041, 2041, 3041, 46, 1046, 2046, 3046], [41, 1041, 2041, 3041, 46, 1046, 2046, 3046], [], [56, 1056, 2056, 3056], [56, 1056, 2056, 3056], [41, 1041, 2041, 3041, 46, 1046, 2046, 3046, 51, 1051, 2051, 3051], [41, 1041, 2041, 3041, 46, 1046, 2046, 3046, 51, 1051, 2051, 3051], [], [], [], []])]⟩
noncomputable def fi16 : FI := ⟨Go.Proofs.Tryd.f16, { shares := true, nvars := 16, cuts := [(7, [2, 7, 8, 12], [2, 12, 84])] }, [(6, [[12], [12], [12], [12], [12], [12], [12], [12], [], []]), (12, [[83], [83], [], [], [], [], [], [], [], [], [], [], [], [], [], [], []])]⟩
noncomputable def fi17 : FI := ⟨Go.Proofs.Tryd.f17, { nvars := 6, cuts := [(4, [2, 3, 5], [2, 3])] }, [(6, [[], [], [], [], [], [], [], [], [], [], []])]⟩
noncomputable def fi18 : FI := ⟨Go.Proofs.Tryd.f18, { shares := true, nvars := 12, cuts := [(6, [0, 2, 4, 5, 6], [2, 4, 5, 92])] }, [(15, [[], [], [], [], [66, 1066, 2066, 3066], [66, 1066, 2066, 3066], [66, 1066, 2066, 3066], [], [66, 1066, 2066, 3066, 70, 1070, 2070, 3070, 5, 5], [70, 1070, 2070, 3070], [], [], [], [], []]), (16, [[80, 1080, 2080, 3080, 84, 1084, 2084, 3084, 88, 1088, 2088, 3088, 91], [80, 1080, 2080, 3080, 84, 1084, 2084, 3084, 88, 1088, 2088, 3088, 91], [], [], [], [], [80, 1080, 2080, 3080], [80, 1080, 2080, 3080], [80, 1080, 2080, 3080], [], [80, 1080, 2080, 3080, 84, 1084, 2084, 3084], [80, 1080, 2080, 3080, 84, 1084, 2084, 3084], [80, 1080, 2080, 3080, 84, 1084, 2084, 3084], [], [80, 1080, 2080, 3080, 84, 1084, 2084, 3084, 88, 1088, 2088, 3088], [], [], [], [], []])]⟩
noncomputable def fi19 : FI := ⟨Go.Proofs.Tryd.f19, { rets := [.aggF], nvars := 2 }, []⟩
noncomputable def fi20 : FI := ⟨Go.Proofs.Tryd.f20, { rets := [.aggF, .deep], nvars := 6 }, []⟩
noncomputable def fi21 : FI := ⟨Go.Proofs.Tryd.f21, { rets := [.aggF, .deep], nvars := 6 }, [(7, [[], [], [], [39], [39], [], [], []])]⟩
noncomputable def fi22 : FI := ⟨Go.Proofs.Tryd.f22, { shares := true, nvars := 15, cuts := [(7, [1, 2, 3, 4, 10, 12, 60, 61, 62], [10, 12, 86])] }, []⟩
noncomputable def fi24 : FI := ⟨Go.Proofs.Tryd.f24, { nvars := 11, cuts := [(7, [4, 5, 6, 8, 34], [4, 5, 6, 8])] }, []⟩
noncomputable def fi25 : FI := ⟨Go.Proofs.Tryd.f25, { nvars := 8 }, []⟩
noncomputable def fi26 : FI := ⟨Go.Proofs.Tryd.f26, { rets := [.fresh, .deep], nvars := 10, cuts := [(7, [1, 2, 6, 26, 27, 28], [2, 6]), (10, [1, 2, 6, 8, 9, 26, 27, 28], [2, 6, 8])] }, []⟩
noncomputable def fi27 : FI := ⟨Go.Proofs.Tryd.f27, { rets := [.fresh, .deep], nvars := 8, cuts := [(7, [1, 2, 6, 7], [2, 6])] }, []⟩
noncomputable def fi28 : FI := ⟨Go.Proofs.Tryd.f28, { nvars := 6, cuts := [(4, [0, 1, 5], [])] }, [(6, [[], [], [], [], [], [], [], [], []])]⟩
noncomputable def fi29 : FI := ⟨Go.Proofs.Tryd.f29, { nvars := 7 }, []⟩
noncomputable def fi30 : FI := ⟨Go.Proofs.Tryd.f30, { shares := true, nvars := 0 }, []⟩
noncomputable def fi31 : FI := ⟨Go.Proofs.Tryd.f31, { nvars := 11 }, []⟩
noncomputable def fi32 : FI := ⟨Go.Proofs.Tryd.f32, { nvars := 3 }, []⟩
noncomputable def fi33 : FI := ⟨Go.Proofs.Tryd.f33, { nvars := 7 }, []⟩
noncomputable def fi34 : FI := ⟨Go.Proofs.Tryd.f34, { nvars := 7 }, []⟩
noncomputable def fi35 : FI := ⟨Go.Proofs.Tryd.f35, { shares := true, prim := .wstr, primTs := [70], primE := 5, nvars := 6 }, []⟩
noncomputable def fi36 : FI := ⟨Go.Proofs.Tryd.f36, { nvars := 10, cuts := [(4, [4, 7, 12, 13, 14], [4, 7, 11])] }, [(9, [[], [26, 1026, 2026, 3026], [23, 1023, 2023, 3023], [], [], [], []])]⟩
noncomputable def fi37 : FI := ⟨Go.Proofs.Tryd.f37, { prim := .str, primTs := [70], primE := 5, nvars := 3 }, []⟩
noncomputable def fi38 : FI := ⟨Go.Proofs.Tryd.f38, { nvars := 3 }, []⟩
noncomputable def fi39 : FI := ⟨Go.Proofs.Tryd.f39, { nvars := 6, cuts := [(4, [3, 4, 5], [4])] }, [(6, [[], [], [], [], [], [], [], [], [], [], [], [], [], [], [], [], [], [], [], [], [], [], [], [], [], [], [], []])]⟩
noncomputable def fi40 : FI := ⟨Go.Proofs.Tryd.f40, { nvars := 6 }, []⟩
noncomputable def fi41 : FI := ⟨Go.Proofs.Tryd.f41, { nvars := 7 }, []⟩
noncomputable def fi42 : FI := ⟨Go.Proofs.Tryd.f42, { rets := [.fresh, .deep, .deep], nvars := 17, cuts := [(6, [2, 7, 9, 10, 35, 36, 37], [7, 9, 10])] }, [(14, [[], [], [7], [7], [], [], []])]⟩
noncomputable def fi43 : FI := ⟨Go.Proofs.Tryd.f43, { rets := [.fresh], nvars := 7, cuts := [(3, [0, 1, 5, 6], [5])] }, [(7, [[], [], [], [], [], [], [], [], [], [], [], [], [], [], [], [], [], []])]⟩
noncomputable def fi44 : FI := ⟨Go.Proofs.Tryd.f44, { nvars := 8, cuts := [(5, [0, 2, 4, 5], [2, 4])] }, [(7, [[], [], [], [], [], [], [26, 1026, 2026, 3026], [26, 1026, 2026, 3026], [26, 1026, 2026, 3026], [26, 1026, 2026, 3026], [26, 1026, 2026, 3026], [], [], []])]⟩
noncomputable def fi45 : FI := ⟨Go.Proofs.Tryd.f45, { nvars := 6, cuts := [(3, [0, 3, 4, 5], [])] }, []⟩
noncomputable def fi46 : FI := ⟨Go.Proofs.Tryd.f46, { rets := [.fresh], nvars := 9, cuts := [(3, [0, 3, 9, 10, 11], []), (11, [6, 25, 26, 27], [6])] }, []⟩
noncomputable def fi47 : FI := ⟨Go.Proofs.Tryd.f47, { nvars := 13 }, []⟩
noncomputable def fi49 : FI := ⟨Go.Proofs.Tryd.f49, { shares := true, rets := [.func 63 [(true, [.slice true [.int .i64, .int .i64, .int .i64, .int .u8, .int .u8, .int .u8]])]], nvars := 3 }, []⟩
noncomputable def fi50 : FI := ⟨Go.Proofs.Tryd.f50, { nvars := 9, cuts := [(3, [1, 2, 3, 6, 7, 8], [3, 6, 7])] }, []⟩
noncomputable def fi51 : FI := ⟨Go.Proofs.Tryd.f51, { rets := [.fresh], nvars := 9, cuts := [(8, [7, 8], [7])] }, [(9, [[], [], [], [], [], [], [], [], [], []])]⟩
noncomputable def fi53 : FI := ⟨Go.Proofs.Tryd.f53, { shares := true, prim := .wbyte, primTs := [70], primE := 5, nvars := 5 }, []⟩
noncomputable def fi54 : FI := ⟨Go.Proofs.Tryd.f54, { nvars := 3 }, []⟩
noncomputable def fi55 : FI := ⟨Go.Proofs.Tryd.f55, { nvars := 6, cuts := [(3, [3, 14, 15, 16], [3, 14])] }, [(5, [[27], [], [], [], [], [], [], [], [], []])]⟩
noncomputable def fi56 : FI := ⟨Go.Proofs.Tryd.f56, { nvars := 6 }, []⟩
noncomputable def fi58 : FI := ⟨Go.Proofs.Tryd.f58, { rets := [.fresh], nvars := 5 }, []⟩
noncomputable def fi59 : FI := ⟨Go.Proofs.Tryd.f59, { shares := true, nvars := 6 }, []⟩
noncomputable def fi60 : FI := ⟨Go.Proofs.Tryd.f60, { nvars := 8, cuts := [(5, [0, 2, 4, 12], [2, 4])] }, []⟩
noncomputable def fi61 : FI := ⟨Go.Proofs.Tryd.f61, { nvars := 4, cuts := [(2, [0, 3], [])] }, []⟩
noncomputable def fi62 : FI := ⟨Go.Proofs.Tryd.f62, { rawNil := true, rets := [.fresh], nvars := 5 }, []⟩
noncomputable def fi63 : FI := ⟨Go.Proofs.Tryd.f63, { nvars := 4, yk := [(false, [.int .i64]), (true, [.int .i64, .int .i64, .int .i64, .int .u8, .int .u8, .int .u8])], ys := [0, 11], cuts := [(1, [0, 1, 3], [100000])] }, []⟩
noncomputable def fi64 : FI := ⟨Go.Proofs.Tryd.f64, { nvars := 10 }, []⟩
noncomputable def fi67 : FI := ⟨Go.Proofs.Tryd.f67, { nvars := 5 }, []⟩
noncomputable def fi72 : FI := ⟨Go.Proofs.Tryd.f72, { nvars := 6, cuts := [(2, [0, 1, 7, 8], [])] }, []⟩
noncomputable def fi73 : FI := ⟨Go.Proofs.Tryd.f73, { nvars := 7 }, []⟩
noncomputable def fi74 : FI := ⟨Go.Proofs.Tryd.f74, { nvars := 14 }, []⟩
noncomputable def tab : Tab := ⟨[(3, ty3), (4, ty4), (5, ty5), (9, ty9), (23, ty23), (24, ty24), (26, ty26), (29, ty29), (41, ty41), (53, ty53), (64, ty64), (65, ty65), (67, ty67), (68, ty68), (70, ty70), (72, ty72), (83, ty83), (86, ty86), (94, ty94), (99, ty99), (102, ty102), (104, ty104), (106, ty106), (107, ty107), (117, ty117), (120, ty120)],
  [(3, fi3), (4, fi4), (5, fi5), (6, fi6), (8, fi8), (10, fi10), (11, fi11), (12, fi12), (13, fi13), (14, fi14), (15, fi15), (16, fi16), (17, fi17), (18, fi18), (19, fi19), (20, fi20), (21, fi21), (22, fi22), (24, fi24), (25, fi25), (26, fi26), (27, fi27), (28, fi28), (29, fi29), (30, fi30), (31, fi31), (32, fi32), (33, fi33), (34, fi34), (35, fi35), (36, fi36), (37, fi37), (38, fi38), (39, fi39), (40, fi40), (41, fi41), (42, fi42), (43, fi43), (44, fi44), (45, fi45), (46, fi46), (47, fi47), (49, fi49), (50, fi50), (51, fi51), (53, fi53), (54, fi54), (55, fi55), (56, fi56), (58, fi58), (59, fi59), (60, fi60), (61, fi61), (62, fi62), (63, fi63), (64, fi64), (67, fi67), (72, fi72), (73, fi73), (74, fi74)], false⟩
end Go.Skm.Pio
