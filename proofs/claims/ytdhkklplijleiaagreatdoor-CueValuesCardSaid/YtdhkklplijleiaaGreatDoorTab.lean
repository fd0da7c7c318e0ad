/-
  A text of this claim's proof: what stands below is laid by program; no condition.
-/
import Derived.Test.YtdhkklplijleiaaGreatDoorProg
import Derived.Test.YtdhkklplijleiaaGreatDoorSkmA
namespace Go.Skm.Cue
open Go
def ty3 : TI := ⟨.int .i64, 1, 8, false, (false, [.int .i64]), some (.int .i64 0), false⟩
def ty4 : TI := ⟨.bool, 1, 1, false, (false, [.bool]), some (.bool false), false⟩
def ty5 : TI := ⟨.int .u8, 1, 1, false, (false, [.int .u8]), some (.int .u8 0), false⟩
def ty9 : TI := ⟨.string, 1, 16, false, (false, [.str]), some (.str ⟨#[]⟩), false⟩
def ty24 : TI := ⟨.struct #[⟨ "R", 5, 0, false, "", "", 0⟩, ⟨ "G", 5, 1, false, "", "", 1⟩, ⟨ "B", 5, 2, false, "", "", 2⟩], 3, 3, true, (true, [.int .u8, .int .u8, .int .u8]), some (.agg [.int .u8 0, .int .u8 0, .int .u8 0]), true⟩
def ty26 : TI := ⟨.struct #[⟨ "Time", 3, 0, false, "", "", 0⟩, ⟨ "Fade", 3, 1, false, "", "", 8⟩, ⟨ "Group", 9, 2, false, "", "", 16⟩, ⟨ "Color", 24, 3, false, "", "", 32⟩], 6, 40, true, (true, [.int .i64, .int .i64, .str, .int .u8, .int .u8, .int .u8]), some (.agg [.int .i64 0, .int .i64 0, .str ⟨#[]⟩, .int .u8 0, .int .u8 0, .int .u8 0]), true⟩
def ty27 : TI := ⟨.int .i64, 1, 8, false, (false, [.int .i64]), some (.int .i64 0), false⟩
def ty33 : TI := ⟨.slice 26, 1, 24, false, (false, [.slice true [.int .i64, .int .i64, .str, .int .u8, .int .u8, .int .u8]]), some (.nil), false⟩
def ty36 : TI := ⟨.func #[26] #[4] false, 1, 8, false, (false, [.other]), some (.nilfn), false⟩
def ty52 : TI := ⟨.slice 9, 1, 24, false, (false, [.slice false [.str]]), some (.nil), false⟩
def ty61 : TI := ⟨.slice 73, 1, 24, false, (false, [.slice true [.int .i64, .int .i64]]), some (.nil), false⟩
def ty73 : TI := ⟨.struct #[⟨ "Tick", 3, 0, false, "", "", 0⟩, ⟨ "Micro", 3, 1, false, "", "", 8⟩], 2, 16, true, (true, [.int .i64, .int .i64]), some (.agg [.int .i64 0, .int .i64 0]), true⟩
def ty76 : TI := ⟨.interface #[("Error", 135)], 1, 16, false, (false, [.other]), some (.nilif), false⟩
def ty84 : TI := ⟨.func #[3] #[4] false, 1, 8, false, (false, [.other]), some (.nilfn), false⟩
def ty85 : TI := ⟨.func #[3] #[24] false, 1, 8, false, (false, [.other]), some (.nilfn), false⟩
def ty90 : TI := ⟨.func #[26, 26] #[3] false, 1, 8, false, (false, [.other]), some (.nilfn), false⟩
def ty112 : TI := ⟨.array 3 5, 3, 3, true, (true, [.int .u8, .int .u8, .int .u8]), some (.agg [.int .u8 0, .int .u8 0, .int .u8 0]), false⟩
def ty114 : TI := ⟨.slice 5, 1, 24, false, (false, [.slice false [.int .u8]]), some (.nil), false⟩
def ty117 : TI := ⟨.int .u64, 1, 8, false, (false, [.int .u64]), some (.int .u64 0), false⟩
def ty131 : TI := ⟨.pointer 133, 1, 8, false, (false, [.other]), some (.nilp), false⟩
def ty133 : TI := ⟨.struct #[⟨ "addr", 131, 0, false, "", "strings", 0⟩, ⟨ "buf", 114, 1, false, "", "strings", 8⟩], 2, 32, true, (true, [.other, .slice false [.int .u8]]), some (.agg [.nilp, .nil]), false⟩
def ty136 : TI := ⟨.slice 3, 1, 24, false, (false, [.slice false [.int .i64]]), some (.nil), false⟩
def ty180 : TI := ⟨.func #[73, 3] #[3] false, 1, 8, false, (false, [.other]), some (.nilfn), false⟩
noncomputable def fi3 : FI := ⟨Go.Proofs.Tryz.f3, { nvars := 7 }, []⟩
noncomputable def fi4 : FI := ⟨Go.Proofs.Tryz.f4, { nvars := 29, cuts := [(4, [0, 2, 3, 5, 9], [5]), (9, [0, 2, 3, 5, 9, 10, 11, 12], [5]), (23, [0, 2, 3, 5, 15, 19], [5, 15])] }, [(6, [[], [], [], [], [], [], [], [], [], [], [], []]), (11, [[], [], [], [], [], [], [], [], [], [], []]), (15, [[], [], [], [], [], [], [], [], [], [], []]), (27, [[], [], [], [], [], [], [], [], [], [], [], [], [], [], [], [], [], [], [], [], [], [], [], [], [], [], []])]⟩
noncomputable def fi5 : FI := ⟨Go.Proofs.Tryz.f5, { nvars := 10 }, []⟩
noncomputable def fi6 : FI := ⟨Go.Proofs.Tryz.f6, { nvars := 11 }, []⟩
noncomputable def fi7 : FI := ⟨Go.Proofs.Tryz.f7, { nvars := 14 }, []⟩
noncomputable def fi8 : FI := ⟨Go.Proofs.Tryz.f8, { nvars := 18 }, []⟩
noncomputable def fi9 : FI := ⟨Go.Proofs.Tryz.f9, { nvars := 9 }, []⟩
noncomputable def fi10 : FI := ⟨Go.Proofs.Tryz.f10, { nvars := 17 }, [(8, [[], [], [], [], [], [], [], [], [], [], [], [80], [], [], [], [], [], [], [], [], [], [], []])]⟩
noncomputable def fi11 : FI := ⟨Go.Proofs.Tryz.f11, { nvars := 14 }, [(7, [[11], [11], [11], [11], [11], [11], [11], [], []])]⟩
noncomputable def fi12 : FI := ⟨Go.Proofs.Tryz.f12, { nvars := 8 }, [(5, [[7], [7], [7], [7], [30, 1030, 2030, 3030, 7], [30, 1030, 2030, 3030, 7], [30, 1030, 2030, 3030, 7], [7], [30, 1030, 2030, 3030, 34, 1034, 2034, 3034, 7], [30, 1030, 2030, 3030, 34, 1034, 2034, 3034, 7], [30, 1030, 2030, 3030, 34, 1034, 2034, 3034, 7], [30, 1030, 2030, 3030, 34, 1034, 2034, 3034, 7], [7], [30, 1030, 2030, 3030, 34, 1034, 2034, 3034], []])]⟩
noncomputable def fi13 : FI := ⟨Go.Proofs.Tryz.f13, { nvars := 6, cuts := [(4, [0, 5], [])] }, []⟩
noncomputable def fi14 : FI := ⟨Go.Proofs.Tryz.f14, { nvars := 4, cuts := [(2, [0, 3], [])] }, [(4, [[], [], [], [], [], [], [], [], [], [], [], [], [], [], [], [], [], [], [], [], [], [], []])]⟩
noncomputable def fi15 : FI := ⟨Go.Proofs.Tryz.f15, { nvars := 3 }, []⟩
noncomputable def fi16 : FI := ⟨Go.Proofs.Tryz.f16, { nvars := 12, alts := [(10, [(8, [(48, []), (50, [(true, [.int .i64, .int .i64, .str, .int .u8, .int .u8, .int .u8]), (true, [.int .u8, .int .u8, .int .u8])])])]), (13, [(8, [(48, []), (50, [(true, [.int .i64, .int .i64, .str, .int .u8, .int .u8, .int .u8]), (true, [.int .u8, .int .u8, .int .u8])])])])], frzs := [8], cuts := [(7, [2, 6, 8, 29, 30, 31], [6, 29])] }, []⟩
noncomputable def fi17 : FI := ⟨Go.Proofs.Tryz.f17, { rets := [.fresh, .deep], nvars := 8 }, [(8, [[31], [31], [31], [31], [], [], [], [31, 32], [31, 32], [31, 32], [], [], []])]⟩
noncomputable def fi18 : FI := ⟨Go.Proofs.Tryz.f18, { rets := [.fresh, .deep], nvars := 10 }, [(8, [[], [], [], [], [36, 1036, 2036, 3036], [36, 1036, 2036, 3036], [36, 1036, 2036, 3036], [36, 1036, 2036, 3036], [], [], []])]⟩
noncomputable def fi19 : FI := ⟨Go.Proofs.Tryz.f19, { nvars := 6, cuts := [(4, [0, 1, 5], [])] }, [(6, [[], [], [], [], [], [], [], [], []])]⟩
noncomputable def fi20 : FI := ⟨Go.Proofs.Tryz.f20, { rets := [.fresh, .deep], nvars := 8, cuts := [(7, [1, 6, 38, 39], [6])] }, []⟩
noncomputable def fi21 : FI := ⟨Go.Proofs.Tryz.f21, { rets := [.fresh, .deep], nvars := 8 }, []⟩
noncomputable def fi22 : FI := ⟨Go.Proofs.Tryz.f22, { nvars := 3 }, []⟩
noncomputable def fi23 : FI := ⟨Go.Proofs.Tryz.f23, { byRef := true, nvars := 8, cuts := [(2, [0, 1, 2, 7], [100000, 100001])] }, []⟩
noncomputable def fi24 : FI := ⟨Go.Proofs.Tryz.f24, { nvars := 8 }, []⟩
noncomputable def fi25 : FI := ⟨Go.Proofs.Tryz.f25, { rets := [.fresh, .deep], nvars := 7, cuts := [(5, [4, 10, 11, 12], [4])] }, []⟩
noncomputable def fi26 : FI := ⟨Go.Proofs.Tryz.f26, { rets := [.fresh, .deep], nvars := 7, cuts := [(5, [0, 4, 5], [4]), (8, [0, 4, 5, 6], [4])] }, [(8, [[], [], [], [], [], [], [], [], [], [], [], [], [], [], [], []]), (10, [[], [], [], [], [], [], [], [], [], [], [], [], [], [], [], []])]⟩
noncomputable def fi27 : FI := ⟨Go.Proofs.Tryz.f27, { rets := [.fresh, .deep], nvars := 6 }, []⟩
noncomputable def fi28 : FI := ⟨Go.Proofs.Tryz.f28, { rets := [.fresh, .deep], nvars := 6 }, []⟩
noncomputable def fi29 : FI := ⟨Go.Proofs.Tryz.f29, { nvars := 6, cuts := [(4, [0, 1, 5], [])] }, [(6, [[], [], [], [], [], [], [], [], []])]⟩
noncomputable def fi30 : FI := ⟨Go.Proofs.Tryz.f30, { rets := [.fresh, .deep], nvars := 9, cuts := [(5, [0, 1, 6, 7], [6])] }, []⟩
noncomputable def fi31 : FI := ⟨Go.Proofs.Tryz.f31, { rets := [.fresh, .deep], nvars := 17, cuts := [(6, [1, 2, 10, 32, 33, 34], [10])] }, []⟩
noncomputable def fi32 : FI := ⟨Go.Proofs.Tryz.f32, { rets := [.fresh, .deep], nvars := 16, cuts := [(6, [0, 1, 2, 8, 9, 10], [8])] }, []⟩
noncomputable def fi33 : FI := ⟨Go.Proofs.Tryz.f33, { nvars := 4 }, [(3, [[], [], [], [9, 1009, 2009, 3009, 14, 1014, 2014, 3014, 17, 1017, 2017, 3017], [9, 1009, 2009, 3009, 14, 1014, 2014, 3014, 17, 1017, 2017, 3017], [9, 1009, 2009, 3009], [9, 1009, 2009, 3009], [], [9, 1009, 2009, 3009, 14, 1014, 2014, 3014], [9, 1009, 2009, 3009, 14, 1014, 2014, 3014], [], [], [], [], []])]⟩
noncomputable def fi34 : FI := ⟨Go.Proofs.Tryz.f34, { nvars := 4 }, [(3, [[], [], [], [18, 1018, 2018, 3018, 23, 1023, 2023, 3023], [18, 1018, 2018, 3018, 23, 1023, 2023, 3023], [9, 1009, 2009, 3009, 18, 1018, 2018, 3018, 23, 1023, 2023, 3023], [9, 1009, 2009, 3009, 18, 1018, 2018, 3018, 23, 1023, 2023, 3023], [18, 1018, 2018, 3018, 23, 1023, 2023, 3023], [18, 1018, 2018, 3018, 23, 1023, 2023, 3023], [9, 1009, 2009, 3009], [9, 1009, 2009, 3009], [], [23, 1023, 2023, 3023], [23, 1023, 2023, 3023], [9, 1009, 2009, 3009, 18, 1018, 2018, 3018], [9, 1009, 2009, 3009, 18, 1018, 2018, 3018], [], [], [], []])]⟩
noncomputable def fi35 : FI := ⟨Go.Proofs.Tryz.f35, { rets := [.fresh], nvars := 1 }, []⟩
noncomputable def fi36 : FI := ⟨Go.Proofs.Tryz.f36, { nvars := 9 }, []⟩
noncomputable def fi37 : FI := ⟨Go.Proofs.Tryz.f37, { rets := [.fresh], nvars := 5 }, []⟩
noncomputable def fi38 : FI := ⟨Go.Proofs.Tryz.f38, { shares := true, nvars := 6 }, []⟩
noncomputable def fi39 : FI := ⟨Go.Proofs.Tryz.f39, { nvars := 8, cuts := [(5, [0, 2, 4, 12], [2, 4])] }, []⟩
noncomputable def fi40 : FI := ⟨Go.Proofs.Tryz.f40, { rets := [.fresh], nvars := 5, cuts := [(3, [0, 3, 4], [3])] }, [(7, [[], [], [], [], [], [], [], [], [], [], [], [], [], [], [], [], [], []])]⟩
noncomputable def fi41 : FI := ⟨Go.Proofs.Tryz.f41, { nvars := 8, cuts := [(5, [0, 2, 4, 5], [2, 4])] }, [(7, [[], [], [], [], [], [], [26, 1026, 2026, 3026], [26, 1026, 2026, 3026], [26, 1026, 2026, 3026], [26, 1026, 2026, 3026], [26, 1026, 2026, 3026], [], [], []])]⟩
noncomputable def fi42 : FI := ⟨Go.Proofs.Tryz.f42, { nvars := 5, cuts := [(3, [0, 3, 4], [])] }, []⟩
noncomputable def fi43 : FI := ⟨Go.Proofs.Tryz.f43, { nvars := 5 }, []⟩
noncomputable def fi44 : FI := ⟨Go.Proofs.Tryz.f44, { nvars := 3 }, []⟩
noncomputable def fi45 : FI := ⟨Go.Proofs.Tryz.f45, { nvars := 6, cuts := [(4, [0, 3], [])] }, []⟩
noncomputable def fi46 : FI := ⟨Go.Proofs.Tryz.f46, { nvars := 5, cuts := [(2, [0, 6, 7], [])] }, []⟩
noncomputable def fi47 : FI := ⟨Go.Proofs.Tryz.f47, { nvars := 3 }, []⟩
noncomputable def fi48 : FI := ⟨Go.Proofs.Tryz.f48, { nvars := 2 }, []⟩
noncomputable def fi49 : FI := ⟨Go.Proofs.Tryz.f49, { rets := [.fresh], nvars := 8, cuts := [(3, [1, 5, 8, 9, 10], [5])] }, []⟩
noncomputable def fi50 : FI := ⟨Go.Proofs.Tryz.f50, { nvars := 7 }, []⟩
noncomputable def fi51 : FI := ⟨Go.Proofs.Tryz.f51, { nvars := 10 }, [(3, [[], [], [], [], [], [], [], [32, 1032, 2032, 3032], [32, 1032, 2032, 3032], [32, 1032, 2032, 3032], [32, 1032, 2032, 3032], [32, 1032, 2032, 3032], [32, 1032, 2032, 3032], [], [32, 1032, 2032, 3032, 39, 1039, 2039, 3039], [32, 1032, 2032, 3032, 39, 1039, 2039, 3039], [32, 1032, 2032, 3032, 39, 1039, 2039, 3039], [32, 1032, 2032, 3032, 39, 1039, 2039, 3039], [32, 1032, 2032, 3032, 39, 1039, 2039, 3039], [32, 1032, 2032, 3032, 39, 1039, 2039, 3039], [], [], [], []])]⟩
noncomputable def fi52 : FI := ⟨Go.Proofs.Tryz.f52, { nvars := 3 }, []⟩
noncomputable def fi53 : FI := ⟨Go.Proofs.Tryz.f53, { nvars := 12, cuts := [(3, [0, 2, 4, 8, 9, 10], [4])] }, [(5, [[], [], [], [], [], [], [], []]), (8, [[46, 1046, 2046, 3046], [], [], [], [], [], [], [], [], [], [], [], [], [], [], []])]⟩
noncomputable def fi54 : FI := ⟨Go.Proofs.Tryz.f54, { nvars := 5 }, [(1, [[], [], [], [], [], [9, 1009, 2009, 3009], [9, 1009, 2009, 3009], [9, 1009, 2009, 3009], [9, 1009, 2009, 3009], [], [], [], []])]⟩
noncomputable def fi55 : FI := ⟨Go.Proofs.Tryz.f55, { rets := [.fresh], nvars := 3 }, []⟩
noncomputable def fi56 : FI := ⟨Go.Proofs.Tryz.f56, { rets := [.fresh, .deep], nvars := 9, cuts := [(4, [0, 3, 6, 7, 8], [3, 6])] }, [(6, [[], [], [], [], [], [], [], [], [], [], [], [], [], [], [], [], [], []]), (8, [[], [], [], [], [], [], [], [], [], []])]⟩
noncomputable def fi57 : FI := ⟨Go.Proofs.Tryz.f57, { nvars := 6, cuts := [(2, [0, 1, 9, 10], [])] }, [(4, [[], [], [], [], [], [], [], [], [], [], [], []])]⟩
noncomputable def fi58 : FI := ⟨Go.Proofs.Tryz.f58, { nvars := 5 }, []⟩
noncomputable def fi59 : FI := ⟨Go.Proofs.Tryz.f59, { nvars := 3 }, []⟩
noncomputable def fi60 : FI := ⟨Go.Proofs.Tryz.f60, { nvars := 8 }, [(8, [[6], [6], [6], [6], [6], [6], [6], [6], [46, 1046, 2046, 3046, 6], [46, 1046, 2046, 3046, 6], [46, 1046, 2046, 3046, 6], [46, 1046, 2046, 3046, 6], [46, 1046, 2046, 3046, 6], [46, 1046, 2046, 3046, 6], [46, 1046, 2046, 3046, 6], [46, 1046, 2046, 3046, 6], [6], [6], [6], [6], [46, 1046, 2046, 3046, 55, 1055, 2055, 3055], [], []])]⟩
noncomputable def fi61 : FI := ⟨Go.Proofs.Tryz.f61, { rets := [.fresh], nvars := 7, cuts := [(3, [0, 1, 5, 6], [5])] }, []⟩
noncomputable def fi62 : FI := ⟨Go.Proofs.Tryz.f62, { byRef := true, nvars := 3 }, []⟩
noncomputable def fi63 : FI := ⟨Go.Proofs.Tryz.f63, { byRef := true, rets := [.alias 0], nvars := 6, cuts := [(4, [0, 3], [100000]), (9, [0, 3, 4, 5], [100000])] }, [(6, [[], [], [], [], [], [], [], [], [], []]), (11, [[], [], [], [], [], [], [], [], [], []])]⟩
noncomputable def fi64 : FI := ⟨Go.Proofs.Tryz.f64, { nvars := 13 }, []⟩
noncomputable def fi65 : FI := ⟨Go.Proofs.Tryz.f65, { nvars := 9 }, []⟩
noncomputable def fi66 : FI := ⟨Go.Proofs.Tryz.f66, { byRef := true, nvars := 5 }, []⟩
noncomputable def fi67 : FI := ⟨Go.Proofs.Tryz.f67, { nvars := 4, cuts := [(4, [0, 3], [])] }, [(6, [[], [], [], [], [], [], [], [], [], [], [], [], [], [], [], [], [], [], [], [], [], [], [], [], [], [], [], [], [], [], [], [], []])]⟩
noncomputable def fi68 : FI := ⟨Go.Proofs.Tryz.f68, { nvars := 11, cuts := [(9, [0, 1, 2, 10], [])] }, []⟩
noncomputable def fi69 : FI := ⟨Go.Proofs.Tryz.f69, { nvars := 8 }, []⟩
noncomputable def fi70 : FI := ⟨Go.Proofs.Tryz.f70, { nvars := 11 }, []⟩
noncomputable def fi71 : FI := ⟨Go.Proofs.Tryz.f71, { nvars := 3 }, []⟩
noncomputable def fi72 : FI := ⟨Go.Proofs.Tryz.f72, { nvars := 6, cuts := [(3, [3, 14, 15, 16], [3, 14])] }, [(5, [[27], [], [], [], [], [], [], [], [], []])]⟩
noncomputable def fi73 : FI := ⟨Go.Proofs.Tryz.f73, { nvars := 3 }, []⟩
noncomputable def fi74 : FI := ⟨Go.Proofs.Tryz.f74, { nvars := 6, cuts := [(4, [3, 4, 5], [4])] }, [(6, [[], [], [], [], [], [], [], [], [], [], [], [], [], [], [], [], [], [], [], [], [], [], [], [], [], [], [], []])]⟩
noncomputable def fi78 : FI := ⟨Go.Proofs.Tryz.f78, { nvars := 6, cuts := [(2, [0, 1, 7, 8], [])] }, []⟩
noncomputable def fi79 : FI := ⟨Go.Proofs.Tryz.f79, { nvars := 4, cuts := [(2, [0, 3], [])] }, []⟩
noncomputable def fi80 : FI := ⟨Go.Proofs.Tryz.f80, { nvars := 9 }, []⟩
noncomputable def fi81 : FI := ⟨Go.Proofs.Tryz.f81, { nvars := 6, cuts := [(3, [3, 6, 7, 8], [])] }, []⟩
noncomputable def fi82 : FI := ⟨Go.Proofs.Tryz.f82, { nvars := 7 }, []⟩
noncomputable def fi83 : FI := ⟨Go.Proofs.Tryz.f83, { nvars := 5 }, []⟩
noncomputable def fi84 : FI := ⟨Go.Proofs.Tryz.f84, { nvars := 6, cuts := [(2, [0, 1, 7, 8], [])] }, []⟩
noncomputable def fi85 : FI := ⟨Go.Proofs.Tryz.f85, { nvars := 10 }, [(3, [[31, 37, 40, 46, 49], [31, 37, 40, 46, 49], [31, 37, 40, 46, 49], [28, 37, 40, 46, 49], [28, 37, 40, 46, 49], [28, 37, 40, 46, 49], [28, 31, 37, 40, 46, 49], [28, 31, 37, 40, 46, 49], [37, 40, 46, 49], [28, 31, 34, 1034, 2034, 3034, 40, 46, 49], [28, 31, 34, 1034, 2034, 3034, 40, 46, 49], [28, 31, 34, 1034, 2034, 3034, 40, 46, 49], [28, 31, 34, 1034, 2034, 3034, 37, 46, 49], [28, 31, 34, 1034, 2034, 3034, 37, 46, 49], [28, 31, 34, 1034, 2034, 3034, 37, 46, 49], [28, 31, 34, 1034, 2034, 3034, 37, 40, 46, 49], [28, 31, 34, 1034, 2034, 3034, 37, 40, 46, 49], [46, 49], [28, 31, 34, 1034, 2034, 3034, 37, 40, 43, 1043, 2043, 3043, 49], [28, 31, 34, 1034, 2034, 3034, 37, 40, 43, 1043, 2043, 3043, 49], [28, 31, 34, 1034, 2034, 3034, 37, 40, 43, 1043, 2043, 3043, 49], [28, 31, 34, 1034, 2034, 3034, 37, 40, 43, 1043, 2043, 3043, 46], [28, 31, 34, 1034, 2034, 3034, 37, 40, 43, 1043, 2043, 3043, 46], [28, 31, 34, 1034, 2034, 3034, 37, 40, 43, 1043, 2043, 3043, 46], [28, 31, 34, 1034, 2034, 3034, 37, 40, 43, 1043, 2043, 3043, 46, 49], [28, 31, 34, 1034, 2034, 3034, 37, 40, 43, 1043, 2043, 3043, 46, 49], [], [], [], []])]⟩
noncomputable def fi88 : FI := ⟨Go.Proofs.Tryz.f88, { nvars := 9, cuts := [(4, [17, 18, 19], [])] }, []⟩
noncomputable def fi89 : FI := ⟨Go.Proofs.Tryz.f89, { nvars := 8, cuts := [(2, [1, 5, 6], [])] }, []⟩
noncomputable def fi90 : FI := ⟨Go.Proofs.Tryz.f90, { nvars := 6 }, [(1, [[], [], [], [], [], [10, 1010, 2010, 3010], [], []])]⟩
noncomputable def fi91 : FI := ⟨Go.Proofs.Tryz.f91, { nvars := 5 }, []⟩
noncomputable def fi92 : FI := ⟨Go.Proofs.Tryz.f92, { nvars := 6 }, [(1, [[], [], [], [], [], [10, 1010, 2010, 3010], [], []])]⟩
noncomputable def fi93 : FI := ⟨Go.Proofs.Tryz.f93, { nvars := 6 }, []⟩
noncomputable def fi95 : FI := ⟨Go.Proofs.Tryz.f95, { nvars := 7 }, []⟩
noncomputable def fi96 : FI := ⟨Go.Proofs.Tryz.f96, { nvars := 9, cuts := [(6, [0, 1, 6, 7], [])] }, []⟩
noncomputable def fi97 : FI := ⟨Go.Proofs.Tryz.f97, { nvars := 5 }, []⟩
noncomputable def fi98 : FI := ⟨Go.Proofs.Tryz.f98, { nvars := 3 }, []⟩
noncomputable def fi99 : FI := ⟨Go.Proofs.Tryz.f99, { nvars := 8, cuts := [(3, [0, 1, 5, 6], [])] }, [(8, [[], [], [], [], [], [], [], [], [], [], [], [], [], [], [], [], []])]⟩
noncomputable def fi100 : FI := ⟨Go.Proofs.Tryz.f100, { nvars := 6 }, []⟩
noncomputable def fi113 : FI := ⟨Go.Proofs.Tryz.f113, { nvars := 3 }, []⟩
noncomputable def fi115 : FI := ⟨Go.Proofs.Tryz.f115, { nvars := 11, cuts := [(2, [0, 1, 2, 3, 9], [])] }, []⟩
noncomputable def fi127 : FI := ⟨Go.Proofs.Tryz.f127, { nvars := 5, cuts := [(2, [0, 5, 6, 7], [])] }, [(4, [[], [], [], [], [], [], [], [], [], [], [], [], [], [], [], [], [], [], [], [], [], [], [], []])]⟩
noncomputable def fi128 : FI := ⟨Go.Proofs.Tryz.f128, { nvars := 7 }, []⟩
noncomputable def fi129 : FI := ⟨Go.Proofs.Tryz.f129, { nvars := 11, cuts := [(3, [0, 1, 5, 6, 11, 12, 13], [])] }, [(7, [[], [], [], [], [], [], [], [], [], [], [], [], [], []])]⟩
noncomputable def fi155 : FI := ⟨Go.Proofs.Tryz.f155, { nvars := 12, cuts := [(3, [0, 1, 2, 8, 9, 10], [])] }, []⟩
noncomputable def fi156 : FI := ⟨Go.Proofs.Tryz.f156, { nvars := 5 }, []⟩
noncomputable def tab : Tab := ⟨[(3, ty3), (4, ty4), (5, ty5), (9, ty9), (24, ty24), (26, ty26), (27, ty27), (33, ty33), (36, ty36), (52, ty52), (61, ty61), (73, ty73), (76, ty76), (84, ty84), (85, ty85), (90, ty90), (112, ty112), (114, ty114), (117, ty117), (131, ty131), (133, ty133), (136, ty136), (180, ty180)],
  [(3, fi3), (4, fi4), (5, fi5), (6, fi6), (7, fi7), (8, fi8), (9, fi9), (10, fi10), (11, fi11), (12, fi12), (13, fi13), (14, fi14), (15, fi15), (16, fi16), (17, fi17), (18, fi18), (19, fi19), (20, fi20), (21, fi21), (22, fi22), (23, fi23), (24, fi24), (25, fi25), (26, fi26), (27, fi27), (28, fi28), (29, fi29), (30, fi30), (31, fi31), (32, fi32), (33, fi33), (34, fi34), (35, fi35), (36, fi36), (37, fi37), (38, fi38), (39, fi39), (40, fi40), (41, fi41), (42, fi42), (43, fi43), (44, fi44), (45, fi45), (46, fi46), (47, fi47), (48, fi48), (49, fi49), (50, fi50), (51, fi51), (52, fi52), (53, fi53), (54, fi54), (55, fi55), (56, fi56), (57, fi57), (58, fi58), (59, fi59), (60, fi60), (61, fi61), (62, fi62), (63, fi63), (64, fi64), (65, fi65), (66, fi66), (67, fi67), (68, fi68), (69, fi69), (70, fi70), (71, fi71), (72, fi72), (73, fi73), (74, fi74), (78, fi78), (79, fi79), (80, fi80), (81, fi81), (82, fi82), (83, fi83), (84, fi84), (85, fi85), (88, fi88), (89, fi89), (90, fi90), (91, fi91), (92, fi92), (93, fi93), (95, fi95), (96, fi96), (97, fi97), (98, fi98), (99, fi99), (100, fi100), (113, fi113), (115, fi115), (127, fi127), (128, fi128), (129, fi129), (155, fi155), (156, fi156)], false⟩
end Go.Skm.Cue
