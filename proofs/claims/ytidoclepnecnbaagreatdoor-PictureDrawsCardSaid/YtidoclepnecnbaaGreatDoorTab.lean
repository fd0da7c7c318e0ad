/-
  A text of this claim's proof: what stands below is laid by program; no condition.
-/
import Derived.Test.YtidoclepnecnbaaGreatDoorProg
import Derived.Test.YtidoclepnecnbaaGreatDoorSkmA
namespace Go.Skm.Drw
open Go
def ty3 : TI := ⟨.int .i64, 1, 8, false, (false, [.int .i64]), some (.int .i64 0), false⟩
def ty4 : TI := ⟨.bool, 1, 1, false, (false, [.bool]), some (.bool false), false⟩
def ty5 : TI := ⟨.int .u8, 1, 1, false, (false, [.int .u8]), some (.int .u8 0), false⟩
def ty9 : TI := ⟨.string, 1, 16, false, (false, [.str]), some (.str ⟨#[]⟩), false⟩
def ty23 : TI := ⟨.struct #[⟨ "X", 3, 0, false, "", "", 0⟩, ⟨ "Y", 3, 1, false, "", "", 8⟩, ⟨ "Z", 3, 2, false, "", "", 16⟩], 3, 24, true, (true, [.int .i64, .int .i64, .int .i64]), some (.agg [.int .i64 0, .int .i64 0, .int .i64 0]), true⟩
def ty25 : TI := ⟨.struct #[⟨ "Eye", 23, 0, false, "", "", 0⟩, ⟨ "Right", 23, 3, false, "", "", 24⟩, ⟨ "Up", 23, 6, false, "", "", 48⟩, ⟨ "Forward", 23, 9, false, "", "", 72⟩, ⟨ "Focal", 3, 12, false, "", "", 96⟩, ⟨ "Width", 3, 13, false, "", "", 104⟩, ⟨ "Height", 3, 14, false, "", "", 112⟩, ⟨ "Near", 3, 15, false, "", "", 120⟩], 16, 128, true, (true, [.int .i64, .int .i64, .int .i64, .int .i64, .int .i64, .int .i64, .int .i64, .int .i64, .int .i64, .int .i64, .int .i64, .int .i64, .int .i64, .int .i64, .int .i64, .int .i64]), some (.agg [.int .i64 0, .int .i64 0, .int .i64 0, .int .i64 0, .int .i64 0, .int .i64 0, .int .i64 0, .int .i64 0, .int .i64 0, .int .i64 0, .int .i64 0, .int .i64 0, .int .i64 0, .int .i64 0, .int .i64 0, .int .i64 0]), true⟩
def ty27 : TI := ⟨.struct #[⟨ "R", 5, 0, false, "", "", 0⟩, ⟨ "G", 5, 1, false, "", "", 1⟩, ⟨ "B", 5, 2, false, "", "", 2⟩], 3, 3, true, (true, [.int .u8, .int .u8, .int .u8]), some (.agg [.int .u8 0, .int .u8 0, .int .u8 0]), true⟩
def ty28 : TI := ⟨.slice 23, 1, 24, false, (false, [.slice true [.int .i64, .int .i64, .int .i64]]), some (.nil), false⟩
def ty29 : TI := ⟨.slice 27, 1, 24, false, (false, [.slice true [.int .u8, .int .u8, .int .u8]]), some (.nil), false⟩
def ty31 : TI := ⟨.slice 50, 1, 24, false, (false, [.slice true [.int .i64, .int .i64, .int .i64, .int .u8, .int .u8, .int .u8]]), some (.nil), false⟩
def ty33 : TI := ⟨.struct #[⟨ "Width", 3, 0, false, "", "", 0⟩, ⟨ "Height", 3, 1, false, "", "", 8⟩, ⟨ "Back", 27, 2, false, "", "", 16⟩, ⟨ "Dots", 31, 5, false, "", "", 24⟩], 6, 48, true, (true, [.int .i64, .int .i64, .int .u8, .int .u8, .int .u8, .slice true [.int .i64, .int .i64, .int .i64, .int .u8, .int .u8, .int .u8]]), some (.agg [.int .i64 0, .int .i64 0, .int .u8 0, .int .u8 0, .int .u8 0, .nil]), false⟩
def ty34 : TI := ⟨.int .i64, 1, 8, false, (false, [.int .i64]), some (.int .i64 0), false⟩
def ty50 : TI := ⟨.struct #[⟨ "X", 3, 0, false, "", "", 0⟩, ⟨ "Y", 3, 1, false, "", "", 8⟩, ⟨ "Radius", 3, 2, false, "", "", 16⟩, ⟨ "Color", 27, 3, false, "", "", 24⟩], 6, 32, true, (true, [.int .i64, .int .i64, .int .i64, .int .u8, .int .u8, .int .u8]), some (.agg [.int .i64 0, .int .i64 0, .int .i64 0, .int .u8 0, .int .u8 0, .int .u8 0]), true⟩
def ty53 : TI := ⟨.slice 57, 1, 24, false, (false, [.slice true [.int .i64, .int .i64, .int .i64, .int .i64, .int .i64]]), some (.nil), false⟩
def ty57 : TI := ⟨.struct #[⟨ "Index", 3, 0, false, "", "", 0⟩, ⟨ "X", 3, 1, false, "", "", 8⟩, ⟨ "Y", 3, 2, false, "", "", 16⟩, ⟨ "Radius", 3, 3, false, "", "", 24⟩, ⟨ "Depth", 3, 4, false, "", "", 32⟩], 5, 40, true, (true, [.int .i64, .int .i64, .int .i64, .int .i64, .int .i64]), some (.agg [.int .i64 0, .int .i64 0, .int .i64 0, .int .i64 0, .int .i64 0]), true⟩
def ty61 : TI := ⟨.pointer 64, 1, 8, false, (false, [.other]), some (.nilp), false⟩
def ty62 : TI := ⟨.slice 5, 1, 24, false, (false, [.slice false [.int .u8]]), some (.nil), false⟩
def ty64 : TI := ⟨.struct #[⟨ "addr", 61, 0, false, "", "strings", 0⟩, ⟨ "buf", 62, 1, false, "", "strings", 8⟩], 2, 32, true, (true, [.other, .slice false [.int .u8]]), some (.agg [.nilp, .nil]), false⟩
def ty66 : TI := ⟨.interface #[("Error", 70)], 1, 16, false, (false, [.other]), some (.nilif), false⟩
def ty73 : TI := ⟨.func #[96] #[] false, 1, 8, false, (false, [.other]), some (.nilfn), false⟩
def ty75 : TI := ⟨.struct #[⟨ "X", 3, 0, false, "", "", 0⟩, ⟨ "Y", 3, 1, false, "", "", 8⟩, ⟨ "Radius", 3, 2, false, "", "", 16⟩, ⟨ "Color", 27, 3, false, "", "", 24⟩], 6, 32, true, (true, [.int .i64, .int .i64, .int .i64, .int .u8, .int .u8, .int .u8]), some (.agg [.int .i64 0, .int .i64 0, .int .i64 0, .int .u8 0, .int .u8 0, .int .u8 0]), true⟩
def ty82 : TI := ⟨.slice 3, 1, 24, false, (false, [.slice false [.int .i64]]), some (.nil), false⟩
def ty89 : TI := ⟨.func #[57, 57] #[3] false, 1, 8, false, (false, [.other]), some (.nilfn), false⟩
def ty91 : TI := ⟨.func #[75] #[4] false, 1, 8, false, (false, [.other]), some (.nilfn), false⟩
def ty95 : TI := ⟨.pointer 5, 1, 8, false, (false, [.other]), some (.nilp), false⟩
def ty96 : TI := ⟨.func #[3, 50] #[4] false, 1, 8, false, (false, [.other]), some (.nilfn), false⟩
def ty97 : TI := ⟨.slice 31, 1, 24, false, (false, [.slice false [.slice true [.int .i64, .int .i64, .int .i64, .int .u8, .int .u8, .int .u8]]]), some (.nil), false⟩
def ty99 : TI := ⟨.slice 9, 1, 24, false, (false, [.slice false [.str]]), some (.nil), false⟩
def ty104 : TI := ⟨.func #[23] #[4] false, 1, 8, false, (false, [.other]), some (.nilfn), false⟩
def ty115 : TI := ⟨.array 3 5, 3, 3, true, (true, [.int .u8, .int .u8, .int .u8]), some (.agg [.int .u8 0, .int .u8 0, .int .u8 0]), false⟩
def ty117 : TI := ⟨.array 3 23, 9, 72, true, (true, [.int .i64, .int .i64, .int .i64, .int .i64, .int .i64, .int .i64, .int .i64, .int .i64, .int .i64]), some (.agg [.int .i64 0, .int .i64 0, .int .i64 0, .int .i64 0, .int .i64 0, .int .i64 0, .int .i64 0, .int .i64 0, .int .i64 0]), false⟩
def ty120 : TI := ⟨.int .u64, 1, 8, false, (false, [.int .u64]), some (.int .u64 0), false⟩
noncomputable def fi3 : FI := ⟨Go.Proofs.Tryz.f3, { nvars := 18, cuts := [(7, [2, 3, 11, 12, 13, 14, 15, 16, 17], [11, 12, 13, 15, 37, 46])] }, [(9, [[], [], [], [], [], [], [], [], []])]⟩
noncomputable def fi4 : FI := ⟨Go.Proofs.Tryz.f4, { nvars := 11 }, []⟩
noncomputable def fi5 : FI := ⟨Go.Proofs.Tryz.f5, { rets := [.aggF, .deep], nvars := 17, cuts := [(6, [3, 10, 14, 40, 41, 42], [10, 12, 14, 62])] }, [(8, [[61], [61], [], [], [], [], [], [], [], [], [], [], [], [], [], [], [], [], []])]⟩
noncomputable def fi6 : FI := ⟨Go.Proofs.Tryz.f6, { rets := [.aggF, .deep], nvars := 16, cuts := [(6, [3, 10, 12, 14, 15], [10, 12, 14, 73])] }, [(8, [[72], [72], [], [], [], [], [], [], [], [], [], [], [], [], [], [], [], [], [], [], [], [], [], [], [], [], [], [], [], [], []])]⟩
noncomputable def fi7 : FI := ⟨Go.Proofs.Tryz.f7, { nvars := 6, cuts := [(4, [2, 3, 5], [2, 3])] }, [(6, [[], [], [], [], [], [], [], [], [], [], []])]⟩
noncomputable def fi8 : FI := ⟨Go.Proofs.Tryz.f8, { nvars := 6, cuts := [(4, [0, 1, 5], [])] }, [(6, [[], [], [], [], [], [], [], [], []])]⟩
noncomputable def fi9 : FI := ⟨Go.Proofs.Tryz.f9, { shares := true, nvars := 0 }, []⟩
noncomputable def fi10 : FI := ⟨Go.Proofs.Tryz.f10, { nvars := 7, cuts := [(6, [4, 20, 21, 22], [4, 18])] }, []⟩
noncomputable def fi11 : FI := ⟨Go.Proofs.Tryz.f11, { nvars := 11, cuts := [(7, [4, 5, 6, 8, 34], [4, 5, 6, 8])] }, []⟩
noncomputable def fi12 : FI := ⟨Go.Proofs.Tryz.f12, { nvars := 11 }, []⟩
noncomputable def fi13 : FI := ⟨Go.Proofs.Tryz.f13, { shares := true, nvars := 15, cuts := [(7, [1, 2, 3, 4, 10, 12, 60, 61, 62], [10, 12, 86])] }, []⟩
noncomputable def fi14 : FI := ⟨Go.Proofs.Tryz.f14, { rets := [.aggF, .deep], nvars := 6 }, []⟩
noncomputable def fi15 : FI := ⟨Go.Proofs.Tryz.f15, { shares := true, nvars := 16, cuts := [(7, [2, 7, 8, 12], [2, 12, 84])] }, [(6, [[12], [12], [12], [12], [12], [12], [12], [12], [], []]), (12, [[83], [83], [], [], [], [], [], [], [], [], [], [], [], [], [], [], []])]⟩
noncomputable def fi16 : FI := ⟨Go.Proofs.Tryz.f16, { rets := [.fresh, .deep], nvars := 13, cuts := [(5, [2, 3, 8, 18, 19, 20], [3, 8])] }, []⟩
noncomputable def fi17 : FI := ⟨Go.Proofs.Tryz.f17, { rets := [.fresh, .deep], nvars := 14, homes := [8], cuts := [(5, [1, 2, 3, 8, 9], [3, 8]), (11, [1, 2, 3, 8, 9, 10, 12], [3, 8, 10])] }, [(7, [[10], [10], [10], [10], [10], [10], [10], [10], [10], [10, 10], [32, 1032, 2032, 3032], [], []]), (11, [[], [], [], [], [], [], [], [], [], [], [], [], []])]⟩
noncomputable def fi18 : FI := ⟨Go.Proofs.Tryz.f18, { nvars := 6, cuts := [(3, [1, 3, 7, 8, 9], [1])] }, []⟩
noncomputable def fi19 : FI := ⟨Go.Proofs.Tryz.f19, { shares := true, prim := .wstr, primTs := [64], primE := 5, nvars := 6 }, []⟩
noncomputable def fi20 : FI := ⟨Go.Proofs.Tryz.f20, { nvars := 10, cuts := [(4, [4, 7, 12, 13, 14], [4, 7, 11])] }, [(9, [[], [26, 1026, 2026, 3026], [23, 1023, 2023, 3023], [], [], [], []])]⟩
noncomputable def fi21 : FI := ⟨Go.Proofs.Tryz.f21, { prim := .str, primTs := [64], primE := 5, nvars := 3 }, []⟩
noncomputable def fi22 : FI := ⟨Go.Proofs.Tryz.f22, { nvars := 7 }, []⟩
noncomputable def fi23 : FI := ⟨Go.Proofs.Tryz.f23, { shares := true, rets := [.func 40 [(true, [.slice true [.int .i64, .int .i64, .int .i64, .int .u8, .int .u8, .int .u8]])]], nvars := 3 }, []⟩
noncomputable def fi24 : FI := ⟨Go.Proofs.Tryz.f24, { nvars := 13 }, []⟩
noncomputable def fi25 : FI := ⟨Go.Proofs.Tryz.f25, { rets := [.fresh], nvars := 9, cuts := [(3, [0, 3, 9, 10, 11], []), (11, [6, 25, 26, 27], [6])] }, []⟩
noncomputable def fi26 : FI := ⟨Go.Proofs.Tryz.f26, { nvars := 6 }, []⟩
noncomputable def fi27 : FI := ⟨Go.Proofs.Tryz.f27, { nvars := 7 }, []⟩
noncomputable def fi28 : FI := ⟨Go.Proofs.Tryz.f28, { rets := [.fresh, .deep, .deep], nvars := 17, cuts := [(6, [2, 7, 9, 10, 35, 36, 37], [7, 9, 10])] }, [(14, [[], [], [7], [7], [], [], []])]⟩
noncomputable def fi29 : FI := ⟨Go.Proofs.Tryz.f29, { nvars := 7 }, []⟩
noncomputable def fi30 : FI := ⟨Go.Proofs.Tryz.f30, { nvars := 13 }, [(5, [[49, 1049, 2049, 3049, 52, 1052, 2052, 3052], [49, 1049, 2049, 3049, 52, 1052, 2052, 3052], [49, 1049, 2049, 3049, 52, 1052, 2052, 3052], [49, 1049, 2049, 3049], [49, 1049, 2049, 3049], [], [], [], [], [], [49, 1049, 2049, 3049], [], [], []]), (6, [[62, 1062, 2062, 3062, 65, 1065, 2065, 3065], [62, 1062, 2062, 3062, 65, 1065, 2065, 3065], [62, 1062, 2062, 3062, 65, 1065, 2065, 3065], [62, 1062, 2062, 3062], [62, 1062, 2062, 3062], [], [], [], [], [], [62, 1062, 2062, 3062], [], [], []])]⟩
noncomputable def fi31 : FI := ⟨Go.Proofs.Tryz.f31, { byRef := true, nvars := 4 }, []⟩
noncomputable def fi32 : FI := ⟨Go.Proofs.Tryz.f32, { nvars := 5 }, []⟩
noncomputable def fi33 : FI := ⟨Go.Proofs.Tryz.f33, { nvars := 8, cuts := [(4, [1, 7], [])] }, []⟩
noncomputable def fi34 : FI := ⟨Go.Proofs.Tryz.f34, { nvars := 15, cuts := [(10, [6, 9, 10, 11, 12, 13], [6, 10]), (12, [6, 9, 10, 11, 12, 13], [6, 10])] }, [(5, [[51, 1051, 2051, 3051, 54, 1054, 2054, 3054, 64, 1064, 2064, 3064, 67, 1067, 2067, 3067, 10], [51, 1051, 2051, 3051, 54, 1054, 2054, 3054, 64, 1064, 2064, 3064, 67, 1067, 2067, 3067, 10], [51, 1051, 2051, 3051, 54, 1054, 2054, 3054, 64, 1064, 2064, 3064, 67, 1067, 2067, 3067, 10], [51, 1051, 2051, 3051, 10], [51, 1051, 2051, 3051, 10], [10], [10], [10], [10], [10], [51, 1051, 2051, 3051, 10], [10], [64, 1064, 2064, 3064, 67, 1067, 2067, 3067, 10], [51, 1051, 2051, 3051, 54, 1054, 2054, 3054, 64, 1064, 2064, 3064, 67, 1067, 2067, 3067, 10], [51, 1051, 2051, 3051, 54, 1054, 2054, 3054, 64, 1064, 2064, 3064, 67, 1067, 2067, 3067, 10], [51, 1051, 2051, 3051, 54, 1054, 2054, 3054, 64, 1064, 2064, 3064, 67, 1067, 2067, 3067, 10], [51, 1051, 2051, 3051, 54, 1054, 2054, 3054, 64, 1064, 2064, 3064, 10], [51, 1051, 2051, 3051, 54, 1054, 2054, 3054, 64, 1064, 2064, 3064, 10], [51, 1051, 2051, 3051, 54, 1054, 2054, 3054, 10], [51, 1051, 2051, 3051, 54, 1054, 2054, 3054, 10], [51, 1051, 2051, 3051, 54, 1054, 2054, 3054, 10], [10], [10], [51, 1051, 2051, 3051, 54, 1054, 2054, 3054, 64, 1064, 2064, 3064, 10], [10], [10], [51, 1051, 2051, 3051, 54, 1054, 2054, 3054, 64, 1064, 2064, 3064, 67, 1067, 2067, 3067, 10], [10], [51, 1051, 2051, 3051, 54, 1054, 2054, 3054, 64, 1064, 2064, 3064, 67, 1067, 2067, 3067], []]), (8, [[107, 1107, 2107, 3107], [107, 1107, 2107, 3107], [107, 1107, 2107, 3107], [107, 1107, 2107, 3107], [107, 1107, 2107, 3107], [107, 1107, 2107, 3107], [107, 1107, 2107, 3107], [107, 1107, 2107, 3107], [107, 1107, 2107, 3107], [], [], [], [], [], [], []])]⟩
noncomputable def fi35 : FI := ⟨Go.Proofs.Tryz.f35, { nvars := 3 }, []⟩
noncomputable def fi37 : FI := ⟨Go.Proofs.Tryz.f37, { shares := true, prim := .wbyte, primTs := [64], primE := 5, nvars := 5 }, []⟩
noncomputable def fi38 : FI := ⟨Go.Proofs.Tryz.f38, { nvars := 3 }, []⟩
noncomputable def fi39 : FI := ⟨Go.Proofs.Tryz.f39, { nvars := 6, cuts := [(3, [3, 14, 15, 16], [3, 14])] }, [(5, [[27], [], [], [], [], [], [], [], [], []])]⟩
noncomputable def fi40 : FI := ⟨Go.Proofs.Tryz.f40, { nvars := 4, yk := [(false, [.int .i64]), (true, [.int .i64, .int .i64, .int .i64, .int .u8, .int .u8, .int .u8])], ys := [0, 11], cuts := [(1, [0, 1, 3], [100000])] }, []⟩
noncomputable def fi41 : FI := ⟨Go.Proofs.Tryz.f41, { rawNil := true, rets := [.fresh], nvars := 5 }, []⟩
noncomputable def fi42 : FI := ⟨Go.Proofs.Tryz.f42, { nvars := 6 }, []⟩
noncomputable def fi44 : FI := ⟨Go.Proofs.Tryz.f44, { rets := [.fresh], nvars := 5 }, []⟩
noncomputable def fi45 : FI := ⟨Go.Proofs.Tryz.f45, { shares := true, nvars := 6 }, []⟩
noncomputable def fi46 : FI := ⟨Go.Proofs.Tryz.f46, { nvars := 8, cuts := [(5, [0, 2, 4, 12], [2, 4])] }, []⟩
noncomputable def fi47 : FI := ⟨Go.Proofs.Tryz.f47, { nvars := 6, cuts := [(3, [1, 3, 13, 14], [1, 3])] }, [(5, [[], [], [], [], [], [], [], [], [], [], [], [], [], [], [], [], [], [], [], [], [], [], [], [], [], [], [], [], [], [], [47, 1047, 2047, 3047], [47, 1047, 2047, 3047], [47, 1047, 2047, 3047], [47, 1047, 2047, 3047], [], [], []])]⟩
noncomputable def fi48 : FI := ⟨Go.Proofs.Tryz.f48, { nvars := 7 }, []⟩
noncomputable def fi49 : FI := ⟨Go.Proofs.Tryz.f49, { nvars := 5 }, []⟩
noncomputable def fi50 : FI := ⟨Go.Proofs.Tryz.f50, { nvars := 3 }, []⟩
noncomputable def fi51 : FI := ⟨Go.Proofs.Tryz.f51, { nvars := 3 }, []⟩
noncomputable def fi52 : FI := ⟨Go.Proofs.Tryz.f52, { nvars := 5 }, []⟩
noncomputable def fi53 : FI := ⟨Go.Proofs.Tryz.f53, { nvars := 5 }, []⟩
noncomputable def fi54 : FI := ⟨Go.Proofs.Tryz.f54, { nvars := 5, cuts := [(3, [0, 3, 4], [])] }, []⟩
noncomputable def fi55 : FI := ⟨Go.Proofs.Tryz.f55, { byRef := true, nvars := 10, cuts := [(2, [0, 1, 2, 6, 7, 8], [100000]), (7, [0, 1, 2, 6], [100000]), (9, [0, 1, 2, 6, 7, 8], [100000])] }, []⟩
noncomputable def fi56 : FI := ⟨Go.Proofs.Tryz.f56, { nvars := 4 }, []⟩
noncomputable def fi57 : FI := ⟨Go.Proofs.Tryz.f57, { nvars := 7 }, []⟩
noncomputable def fi58 : FI := ⟨Go.Proofs.Tryz.f58, { nvars := 3 }, []⟩
noncomputable def fi59 : FI := ⟨Go.Proofs.Tryz.f59, { nvars := 5 }, []⟩
noncomputable def fi60 : FI := ⟨Go.Proofs.Tryz.f60, { nvars := 6 }, []⟩
noncomputable def fi63 : FI := ⟨Go.Proofs.Tryz.f63, { nvars := 5 }, []⟩
noncomputable def fi68 : FI := ⟨Go.Proofs.Tryz.f68, { nvars := 6, cuts := [(2, [0, 1, 7, 8], [])] }, []⟩
noncomputable def fi69 : FI := ⟨Go.Proofs.Tryz.f69, { nvars := 6, cuts := [(2, [0, 1, 7, 8], [])] }, []⟩
noncomputable def fi70 : FI := ⟨Go.Proofs.Tryz.f70, { nvars := 7, cuts := [(2, [0, 7, 8, 9], [])] }, []⟩
noncomputable def fi71 : FI := ⟨Go.Proofs.Tryz.f71, { byRef := true, nvars := 10, cuts := [(1, [0, 1, 2, 3, 8], [100000]), (4, [0, 1, 2, 3, 8, 9], [100000])] }, [(4, [[], [], [], [], [], [], [], [], [], [], [], [], [], [], [], [], []]), (6, [[], [], [], [], [], [], [], [], [], [], [], [], [], [], [], [], [], []])]⟩
noncomputable def fi72 : FI := ⟨Go.Proofs.Tryz.f72, { byRef := true, nvars := 25, cuts := [(3, [0, 1, 4, 10, 11], [100000]), (9, [0, 10, 13], [100000]), (15, [0, 2, 4, 14, 15], [100000]), (21, [0, 14, 17], [100000]), (33, [0, 1, 2, 3, 4, 18, 19, 20, 21, 22], [100000])] }, [(5, [[], [], [], [], [], [], [], [], [], [], []]), (11, [[], [], [], [], [], [], [], [], [], [], [], [], [], [], [], [], [], []]), (17, [[], [], [], [], [], [], [], [], [], [], [], []]), (23, [[], [], [], [], [], [], [], [], [], [], [], [], [], [], [], [], [], []]), (35, [[], [], [], [], [], [], [], [], [], [], [], [], [], []])]⟩
noncomputable def fi73 : FI := ⟨Go.Proofs.Tryz.f73, { nvars := 3 }, []⟩
noncomputable def fi74 : FI := ⟨Go.Proofs.Tryz.f74, { nvars := 7 }, []⟩
noncomputable def fi88 : FI := ⟨Go.Proofs.Tryz.f88, { byRef := true, nvars := 12, cuts := [(2, [0, 2, 4, 10, 11], [100000])] }, []⟩
noncomputable def fi101 : FI := ⟨Go.Proofs.Tryz.f101, { byRef := true, nvars := 11, cuts := [(1, [0, 1, 2, 3, 10], [100000])] }, [(3, [[], [], [], [], [], [], [], [], [], [], [], [], [], [], [], [], [], [], [], [], [], [], [], []])]⟩
noncomputable def tab : Tab := ⟨[(3, ty3), (4, ty4), (5, ty5), (9, ty9), (23, ty23), (25, ty25), (27, ty27), (28, ty28), (29, ty29), (31, ty31), (33, ty33), (34, ty34), (50, ty50), (53, ty53), (57, ty57), (61, ty61), (62, ty62), (64, ty64), (66, ty66), (73, ty73), (75, ty75), (82, ty82), (89, ty89), (91, ty91), (95, ty95), (96, ty96), (97, ty97), (99, ty99), (104, ty104), (115, ty115), (117, ty117), (120, ty120)],
  [(3, fi3), (4, fi4), (5, fi5), (6, fi6), (7, fi7), (8, fi8), (9, fi9), (10, fi10), (11, fi11), (12, fi12), (13, fi13), (14, fi14), (15, fi15), (16, fi16), (17, fi17), (18, fi18), (19, fi19), (20, fi20), (21, fi21), (22, fi22), (23, fi23), (24, fi24), (25, fi25), (26, fi26), (27, fi27), (28, fi28), (29, fi29), (30, fi30), (31, fi31), (32, fi32), (33, fi33), (34, fi34), (35, fi35), (37, fi37), (38, fi38), (39, fi39), (40, fi40), (41, fi41), (42, fi42), (44, fi44), (45, fi45), (46, fi46), (47, fi47), (48, fi48), (49, fi49), (50, fi50), (51, fi51), (52, fi52), (53, fi53), (54, fi54), (55, fi55), (56, fi56), (57, fi57), (58, fi58), (59, fi59), (60, fi60), (63, fi63), (68, fi68), (69, fi69), (70, fi70), (71, fi71), (72, fi72), (73, fi73), (74, fi74), (88, fi88), (101, fi101)], false⟩
end Go.Skm.Drw
