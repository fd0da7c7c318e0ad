/-
  The tables of this program for the machine; no condition.
-/
import Derived.Test.YthdegeidcjdkeaaProg
import Derived.Test.YthdegeidcjdkeaaSkmA
namespace Go.Skm.Hull
open Go
def ty3 : TI := ⟨.int .i64, 1, 8, false, (false, [.int .i64]), some (.int .i64 0), false⟩
def ty4 : TI := ⟨.bool, 1, 1, false, (false, [.bool]), some (.bool false), false⟩
def ty22 : TI := ⟨.slice 31, 1, 24, false, (false, [.slice true [.int .i64, .int .i64, .int .i64]]), some (.nil), false⟩
def ty24 : TI := ⟨.int .i64, 1, 8, false, (false, [.int .i64]), some (.int .i64 0), false⟩
def ty31 : TI := ⟨.struct #[⟨ "X", 3, 0, false, "", "", 0⟩, ⟨ "Y", 3, 1, false, "", "", 8⟩, ⟨ "Z", 3, 2, false, "", "", 16⟩], 3, 24, true, (true, [.int .i64, .int .i64, .int .i64]), some (.agg [.int .i64 0, .int .i64 0, .int .i64 0]), true⟩
def ty52 : TI := ⟨.slice 3, 1, 24, false, (false, [.slice false [.int .i64]]), some (.nil), false⟩
def ty66 : TI := ⟨.int .u64, 1, 8, false, (false, [.int .u64]), some (.int .u64 0), false⟩
def ty67 : TI := ⟨.array 3 3, 3, 24, true, (true, [.int .i64, .int .i64, .int .i64]), some (.agg [.int .i64 0, .int .i64 0, .int .i64 0]), false⟩
def ty75 : TI := ⟨.slice 22, 1, 24, false, (false, [.slice false [.slice true [.int .i64, .int .i64, .int .i64]]]), some (.nil), false⟩
/-- skylanternlaw07.HullHulls -/
noncomputable def fi3 : FI := ⟨Go.Proofs.Try.f3, { nvars := 6 }, []⟩
/-- skylanternlaw07.HullSides -/
noncomputable def fi4 : FI := ⟨Go.Proofs.Try.f4, { nvars := 8 }, []⟩
/-- skylanternlaw07.HullSizes -/
noncomputable def fi5 : FI := ⟨Go.Proofs.Try.f5, { nvars := 19 }, []⟩
/-- skylanternlaw07.HullMerges -/
noncomputable def fi6 : FI := ⟨Go.Proofs.Try.f6, { nvars := 7 }, []⟩
/-- skylanternlaw07.HullGrids -/
noncomputable def fi7 : FI := ⟨Go.Proofs.Try.f7, { nvars := 18, cuts := [(5, [0, 1, 2, 7, 8], [7]), (8, [0, 1, 2, 7, 8, 9], [7]), (25, [7], [7])] }, []⟩
/-- skylanternlaw07.HullHolds -/
noncomputable def fi8 : FI := ⟨Go.Proofs.Try.f8, { nvars := 31, cuts := [(9, [0, 1, 5, 7, 9, 121, 122, 123], [5, 7, 9]), (16, [0, 1, 5, 7, 9, 140, 141, 142], [5, 7, 9]), (20, [0, 1, 5, 7, 9, 18, 19, 140, 141, 142, 146, 147, 148], [5, 7, 9, 18])] }, []⟩
/-- skylanternlaw07.known -/
noncomputable def fi9 : FI := ⟨Go.Proofs.Try.f9, { nvars := 24, cuts := [(9, [1, 2, 9, 77, 78, 79], [1, 2, 9, 77])] }, []⟩
/-- hull.Hull -/
noncomputable def fi10 : FI := ⟨Go.Proofs.Try.f10, { rets := [.fresh, .deep], nvars := 9, cuts := [(5, [4, 15, 16, 17], [4])] }, [(20, [[], [], [], [], [], [], [], [], [], [], [], [], []])]⟩
/-- skylanternref06.Same -/
noncomputable def fi11 : FI := ⟨Go.Proofs.Try.f11, { nvars := 6, cuts := [(4, [0, 1, 5], [])] }, [(6, [[], [], [], [], [], [], [], [], []])]⟩
/-- skylanternref06.Points -/
noncomputable def fi12 : FI := ⟨Go.Proofs.Try.f12, { nvars := 4, cuts := [(2, [0, 3], [])] }, []⟩
/-- skylanternref07.Hull -/
noncomputable def fi13 : FI := ⟨Go.Proofs.Try.f13, { rets := [.fresh], nvars := 16, cuts := [(3, [0, 3, 4], [3]), (7, [0, 3, 4, 5, 6], [3, 5]), (14, [3, 8, 9], [3, 8]), (19, [8, 10], [8, 10]), (22, [8, 10, 11, 12], [8, 10, 11]), (27, [8, 10, 11, 12, 13, 14, 15], [8, 10, 11, 13])] }, [(5, [[5], [5], [5], [5], [5], [5], [5], [5], [5], [5], [5], [], []]), (7, [[], [], [], [], [], [], [], [], [], [], [], [], []]), (9, [[], [], [], [], [], [], [], [], [], [], [], []]), (10, [[], [], [61], [61], [61], [], []]), (29, [[], [], [], [], [], [], [], [], [], [], [], []])]⟩
/-- hull.Side -/
noncomputable def fi14 : FI := ⟨Go.Proofs.Try.f14, { nvars := 10, cuts := [(10, [0, 3, 8, 70, 71], [3])] }, [(4, [[6, 7], [6, 7], [6, 7], [6, 7], [6, 7], [6, 7], [6, 7], [6, 7], [6, 7], [7], [6], [], []]), (12, [[82, 1082, 2082, 3082, 86, 1086, 2086, 3086], [82, 1082, 2082, 3082], [82, 1082, 2082, 3082], [82, 1082, 2082, 3082], [82, 1082, 2082, 3082], [82, 1082, 2082, 3082], [], [], [], [], [], [82, 1082, 2082, 3082], [], [], []])]⟩
/-- skylanternref07.Valid -/
noncomputable def fi15 : FI := ⟨Go.Proofs.Try.f15, { nvars := 3 }, []⟩
/-- hull.Valid -/
noncomputable def fi16 : FI := ⟨Go.Proofs.Try.f16, { nvars := 5 }, []⟩
/-- skylanternref06.Point -/
noncomputable def fi17 : FI := ⟨Go.Proofs.Try.f17, { nvars := 3 }, []⟩
/-- skylanternref07.Side -/
noncomputable def fi18 : FI := ⟨Go.Proofs.Try.f18, { nvars := 8, cuts := [(3, [0, 3, 5, 6], [3])] }, [(6, [[], [], [], [], [], [], []]), (8, [[], [], [], [], [], [], [], [], [], [], [], []])]⟩
/-- hull.Area2 -/
noncomputable def fi19 : FI := ⟨Go.Proofs.Try.f19, { nvars := 8, cuts := [(5, [0, 4, 11, 12, 13], [])] }, []⟩
/-- hull.Diameter2 -/
noncomputable def fi20 : FI := ⟨Go.Proofs.Try.f20, { nvars := 10, cuts := [(4, [0, 2, 3, 4, 14, 15], []), (7, [0, 2, 3, 4, 6, 7, 14, 15], [])] }, [(9, [[], [], [], [], [], [], [], [], [], [], [], [], [], []])]⟩
/-- hull.Extent -/
noncomputable def fi21 : FI := ⟨Go.Proofs.Try.f21, { nvars := 10, cuts := [(4, [3, 4, 5, 18, 19, 20], [3])] }, []⟩
/-- skylanternref07.Diameter2 -/
noncomputable def fi22 : FI := ⟨Go.Proofs.Try.f22, { nvars := 10, cuts := [(3, [0, 5, 6, 7, 8], []), (6, [0, 5, 6, 7, 8, 9], [])] }, [(8, [[], [], [], [], [], [], [], [], [], [32, 1032, 2032, 3032], []]), (9, [[45, 1045, 2045, 3045], [45, 1045, 2045, 3045], [], [], [], [], [], [], [], [], [], [], [], []])]⟩
/-- skylanternref07.Area2 -/
noncomputable def fi23 : FI := ⟨Go.Proofs.Try.f23, { nvars := 5, cuts := [(3, [0, 3, 4], [])] }, [(5, [[20, 1020, 2020, 3020, 29, 1029, 2029, 3029, 30, 1030, 2030, 3030], [], [], [], [], [], [], [], [], [20, 1020, 2020, 3020], [20, 1020, 2020, 3020], [20, 1020, 2020, 3020], [20, 1020, 2020, 3020], [20, 1020, 2020, 3020], [20, 1020, 2020, 3020], [20, 1020, 2020, 3020], [20, 1020, 2020, 3020], [], [], [], [], []])]⟩
/-- skylanternref06.Valid -/
noncomputable def fi24 : FI := ⟨Go.Proofs.Try.f24, { nvars := 3 }, []⟩
/-- skylanternref07.Extent -/
noncomputable def fi25 : FI := ⟨Go.Proofs.Try.f25, { nvars := 9, cuts := [(3, [0, 3, 6, 7, 8], [3])] }, [(1, [[], [], [], [], [], [], [], [], [], [], [], [], [], [], [], [], [], [], [], [], [], [], [], [], [], [], [], [], [], [], [], []]), (5, [[], [], [], [], [], [], [], [], [], [], [], [], [], [], [], [], [], [], [], [], [], [], [], [], [], [], [], [], [], [], [], [], [], [], [], [], [], [], [], []])]⟩
/-- hull.Merge -/
noncomputable def fi26 : FI := ⟨Go.Proofs.Try.f26, { rets := [.fresh, .deep], nvars := 8 }, []⟩
/-- skylanternlaw07.points -/
noncomputable def fi27 : FI := ⟨Go.Proofs.Try.f27, { rets := [.fresh], nvars := 5, cuts := [(3, [0, 3, 4], [3])] }, [(5, [[23], [], [], [], [], [], [], [], [], [], [], [], [], []])]⟩
/-- skylanternref06.Neg -/
noncomputable def fi28 : FI := ⟨Go.Proofs.Try.f28, { nvars := 2 }, []⟩
/-- vector.Point -/
noncomputable def fi29 : FI := ⟨Go.Proofs.Try.f29, { nvars := 3 }, []⟩
/-- slices.SortFunc[[]api.Vec,api.Vec] -/
noncomputable def fi30 : FI := ⟨Go.Proofs.Try.f30, { byRef := true, nvars := 5 }, []⟩
/-- vector.Compare -/
noncomputable def fi31 : FI := ⟨Go.Proofs.Try.f31, { nvars := 7 }, [(1, [[5, 6], [5, 6], [8, 1008, 2008, 3008, 5, 6], [5, 6], [8, 1008, 2008, 3008, 10, 1010, 2010, 3010, 6], [8, 1008, 2008, 3008, 10, 1010, 2010, 3010, 5], [], []]), (2, [[], [], [], []])]⟩
/-- slices.Compact[[]api.Vec,api.Vec] -/
noncomputable def fi32 : FI := ⟨Go.Proofs.Try.f32, { byRef := true, rets := [.alias 0], nvars := 6, cuts := [(4, [0, 3], [100000]), (9, [0, 3, 4, 5], [100000])] }, [(6, [[], [], [], [], [], [], [], [], [], []]), (11, [[], [], [], [], [], [], [], [], [], []])]⟩
/-- hull.chain -/
noncomputable def fi33 : FI := ⟨Go.Proofs.Try.f33, { rets := [.fresh], nvars := 6, cuts := [(3, [3, 6, 7, 8], [3]), (5, [3, 5, 6, 7, 8], [3, 5])] }, [(5, [[], [], [], [], [], [], [], [], [], [], [], [], [], [], [], [], [], [], [], []])]⟩
/-- slices.Reverse[[]api.Vec,api.Vec] -/
noncomputable def fi34 : FI := ⟨Go.Proofs.Try.f34, { byRef := true, nvars := 4, cuts := [(1, [0, 2, 3], [100000])] }, [(3, [[], [], [], [], [], [], [], [], [], [], [], [], [], [], [], []])]⟩
/-- skylanternref06.Compare -/
noncomputable def fi35 : FI := ⟨Go.Proofs.Try.f35, { nvars := 6, cuts := [(2, [2, 3, 5], [2, 3])] }, [(4, [[], [], [], [12, 1012, 2012, 3012], [12, 1012, 2012, 3012], [], []]), (6, [[], [], [], [19, 1019, 2019, 3019], [19, 1019, 2019, 3019], [], []])]⟩
/-- skylanternref07.covered -/
noncomputable def fi36 : FI := ⟨Go.Proofs.Try.f36, { nvars := 8, cuts := [(2, [0, 3, 5], [3]), (5, [0, 3, 5, 6], [3]), (8, [0, 3, 5, 6, 7], [3])] }, [(10, [[], [], [], [], [], [], [], [], [], [], [], [], [], [], [], [], [], [], [], [], [], [], [], [], [], [], [], [], [], [], [], [], [], [], [], [], [], []])]⟩
/-- skylanternref06.Turn -/
noncomputable def fi37 : FI := ⟨Go.Proofs.Try.f37, { nvars := 8 }, [(1, [[], [], [], [10, 1010, 2010, 3010], [10, 1010, 2010, 3010], [], [], [], []])]⟩
/-- hull.turn -/
noncomputable def fi38 : FI := ⟨Go.Proofs.Try.f38, { nvars := 9 }, []⟩
/-- hull.next -/
noncomputable def fi39 : FI := ⟨Go.Proofs.Try.f39, { nvars := 5 }, []⟩
/-- slices.Equal[[]api.Vec,api.Vec] -/
noncomputable def fi40 : FI := ⟨Go.Proofs.Try.f40, { nvars := 6, cuts := [(4, [0, 1, 12, 13], [])] }, [(6, [[], [], [], [], [], [], [], [], []])]⟩
/-- skylanternref06.within -/
noncomputable def fi41 : FI := ⟨Go.Proofs.Try.f41, { nvars := 6, cuts := [(2, [1, 2, 5], [2])] }, []⟩
/-- skylanternref07.On -/
noncomputable def fi42 : FI := ⟨Go.Proofs.Try.f42, { nvars := 7 }, []⟩
/-- vector.Distance2 -/
noncomputable def fi43 : FI := ⟨Go.Proofs.Try.f43, { nvars := 7 }, []⟩
/-- vector.Valid -/
noncomputable def fi44 : FI := ⟨Go.Proofs.Try.f44, { nvars := 3 }, []⟩
/-- skylanternref06.Distance2 -/
noncomputable def fi45 : FI := ⟨Go.Proofs.Try.f45, { nvars := 5 }, [(1, [[], [], [], [7, 1007, 2007, 3007], [7, 1007, 2007, 3007], [], [], []])]⟩
/-- skylanternref06.Cross -/
noncomputable def fi46 : FI := ⟨Go.Proofs.Try.f46, { nvars := 7, cuts := [(3, [2, 3, 4, 5, 6], [2, 3, 4, 5])] }, [(5, [[16, 1016, 2016, 3016, 21, 1021, 2021, 3021, 27, 1027, 2027, 3027, 32, 1032, 2032, 3032], [], [], [], [], [], [16, 1016, 2016, 3016], [16, 1016, 2016, 3016], [16, 1016, 2016, 3016], [16, 1016, 2016, 3016], [], [27, 1027, 2027, 3027, 32, 1032, 2032, 3032], [16, 1016, 2016, 3016, 21, 1021, 2021, 3021], [16, 1016, 2016, 3016, 21, 1021, 2021, 3021], [16, 1016, 2016, 3016, 21, 1021, 2021, 3021], [16, 1016, 2016, 3016, 21, 1021, 2021, 3021], [], [16, 1016, 2016, 3016, 21, 1021, 2021, 3021, 27, 1027, 2027, 3027], [16, 1016, 2016, 3016, 21, 1021, 2021, 3021, 27, 1027, 2027, 3027], [16, 1016, 2016, 3016, 21, 1021, 2021, 3021, 27, 1027, 2027, 3027], [16, 1016, 2016, 3016, 21, 1021, 2021, 3021, 27, 1027, 2027, 3027], [], [], [], [], []])]⟩
/-- skylanternref06.Sub -/
noncomputable def fi47 : FI := ⟨Go.Proofs.Try.f47, { nvars := 4 }, [(1, [[7, 1007, 2007, 3007], [], [], [], []])]⟩
/-- slices.Concat[[]api.Vec,api.Vec] -/
noncomputable def fi48 : FI := ⟨Go.Proofs.Try.f48, { rets := [.fresh], nvars := 9, cuts := [(3, [0, 3, 9, 10, 11], []), (11, [6, 25, 26, 27], [6])] }, []⟩
/-- vector.inside -/
noncomputable def fi49 : FI := ⟨Go.Proofs.Try.f49, { nvars := 7, cuts := [(2, [0, 7, 8, 9], [])] }, []⟩
/-- vector.parts -/
noncomputable def fi52 : FI := ⟨Go.Proofs.Try.f52, { nvars := 2 }, []⟩
/-- slices.Compare[[]int,int] -/
noncomputable def fi53 : FI := ⟨Go.Proofs.Try.f53, { nvars := 9, cuts := [(2, [0, 1, 9, 10, 11], [])] }, []⟩
/-- skylanternref06.part -/
noncomputable def fi54 : FI := ⟨Go.Proofs.Try.f54, { nvars := 5 }, []⟩
/-- skylanternref07.in -/
noncomputable def fi55 : FI := ⟨Go.Proofs.Try.f55, { nvars := 12 }, [(1, [[], [], [], [], [15, 1015, 2015, 3015], [15, 1015, 2015, 3015], [15, 1015, 2015, 3015], [], [15, 1015, 2015, 3015, 19, 1019, 2019, 3019], [15, 1015, 2015, 3015, 19, 1019, 2019, 3019], [15, 1015, 2015, 3015, 19, 1019, 2019, 3019], [], [], [], []])]⟩
/-- vector.Turn -/
noncomputable def fi56 : FI := ⟨Go.Proofs.Try.f56, { nvars := 8 }, []⟩
/-- vector.join -/
noncomputable def fi57 : FI := ⟨Go.Proofs.Try.f57, { nvars := 6 }, [(1, [[], [], [], [], [], [], [12, 1012, 2012, 3012], [12, 1012, 2012, 3012], [12, 1012, 2012, 3012], [12, 1012, 2012, 3012], [12, 1012, 2012, 3012], [], [12, 1012, 2012, 3012, 18, 1018, 2018, 3018], [12, 1012, 2012, 3012, 18, 1018, 2018, 3018], [12, 1012, 2012, 3012, 18, 1018, 2018, 3018], [12, 1012, 2012, 3012, 18, 1018, 2018, 3018], [12, 1012, 2012, 3012, 18, 1018, 2018, 3018], [], [], []])]⟩
/-- vector.Distance2$1 -/
noncomputable def fi58 : FI := ⟨Go.Proofs.Try.f58, { nvars := 5 }, []⟩
/-- vector.dot -/
noncomputable def fi59 : FI := ⟨Go.Proofs.Try.f59, { nvars := 5 }, []⟩
/-- skylanternref06.Dot -/
noncomputable def fi60 : FI := ⟨Go.Proofs.Try.f60, { nvars := 7, cuts := [(3, [2, 3, 5, 6], [2, 3])] }, [(5, [[14, 1014, 2014, 3014, 17, 1017, 2017, 3017], [], [], [], [14, 1014, 2014, 3014], [14, 1014, 2014, 3014], [], [], [], []])]⟩
/-- skylanternref06.Add -/
noncomputable def fi61 : FI := ⟨Go.Proofs.Try.f61, { nvars := 4 }, []⟩
/-- slices.Grow[[]api.Vec,api.Vec] -/
noncomputable def fi62 : FI := ⟨Go.Proofs.Try.f62, { rawNil := true, rets := [.fresh], nvars := 5 }, []⟩
/-- cmp.Compare[int] -/
noncomputable def fi73 : FI := ⟨Go.Proofs.Try.f73, { nvars := 7 }, []⟩
/-- vector.sign -/
noncomputable def fi74 : FI := ⟨Go.Proofs.Try.f74, { nvars := 3 }, []⟩
/-- cmp.isNaN[int] -/
noncomputable def fi80 : FI := ⟨Go.Proofs.Try.f80, { nvars := 3 }, []⟩
noncomputable def tab : Tab := ⟨[(3, ty3), (4, ty4), (22, ty22), (24, ty24), (31, ty31), (52, ty52), (66, ty66), (67, ty67), (75, ty75)],
  [(3, fi3), (4, fi4), (5, fi5), (6, fi6), (7, fi7), (8, fi8), (9, fi9), (10, fi10), (11, fi11), (12, fi12), (13, fi13), (14, fi14), (15, fi15), (16, fi16), (17, fi17), (18, fi18), (19, fi19), (20, fi20), (21, fi21), (22, fi22), (23, fi23), (24, fi24), (25, fi25), (26, fi26), (27, fi27), (28, fi28), (29, fi29), (30, fi30), (31, fi31), (32, fi32), (33, fi33), (34, fi34), (35, fi35), (36, fi36), (37, fi37), (38, fi38), (39, fi39), (40, fi40), (41, fi41), (42, fi42), (43, fi43), (44, fi44), (45, fi45), (46, fi46), (47, fi47), (48, fi48), (49, fi49), (52, fi52), (53, fi53), (54, fi54), (55, fi55), (56, fi56), (57, fi57), (58, fi58), (59, fi59), (60, fi60), (61, fi61), (62, fi62), (73, fi73), (74, fi74), (80, fi80)], false⟩
noncomputable def tabS : Tab := { tab with strict := true }
end Go.Skm.Hull
