/-
  A text of this claim's proof: what stands below is laid by program; no condition.
-/
import Derived.Test.YtdhkklplijleiaaDoorProg
import Derived.Test.YtdhkklplijleiaaDoorSkmA
namespace Go.Skm.Beat
open Go
def ty3 : TI := ⟨.int .i64, 1, 8, false, (false, [.int .i64]), some (.int .i64 0), false⟩
def ty4 : TI := ⟨.bool, 1, 1, false, (false, [.bool]), some (.bool false), false⟩
def ty5 : TI := ⟨.int .u8, 1, 1, false, (false, [.int .u8]), some (.int .u8 0), false⟩
def ty9 : TI := ⟨.string, 1, 16, false, (false, [.str]), some (.str ⟨#[]⟩), false⟩
def ty22 : TI := ⟨.slice 33, 1, 24, false, (false, [.slice true [.int .i64, .int .i64]]), some (.nil), false⟩
def ty25 : TI := ⟨.int .i64, 1, 8, false, (false, [.int .i64]), some (.int .i64 0), false⟩
def ty33 : TI := ⟨.struct #[⟨ "Tick", 3, 0, false, "", "", 0⟩, ⟨ "Micro", 3, 1, false, "", "", 8⟩], 2, 16, true, (true, [.int .i64, .int .i64]), some (.agg [.int .i64 0, .int .i64 0]), true⟩
def ty37 : TI := ⟨.func #[70] #[] false, 1, 8, false, (false, [.other]), some (.nilfn), false⟩
def ty40 : TI := ⟨.slice 43, 1, 24, false, (false, [.slice true [.int .i64, .int .i64]]), some (.nil), false⟩
def ty43 : TI := ⟨.array 2 3, 2, 16, true, (true, [.int .i64, .int .i64]), some (.agg [.int .i64 0, .int .i64 0]), false⟩
def ty66 : TI := ⟨.func #[3] #[4] false, 1, 8, false, (false, [.other]), some (.nilfn), false⟩
def ty70 : TI := ⟨.func #[3, 3] #[4] false, 1, 8, false, (false, [.other]), some (.nilfn), false⟩
def ty72 : TI := ⟨.slice 3, 1, 24, false, (false, [.slice false [.int .i64]]), some (.nil), false⟩
def ty73 : TI := ⟨.slice 9, 1, 24, false, (false, [.slice false [.str]]), some (.nil), false⟩
def ty76 : TI := ⟨.interface #[("Error", 132)], 1, 16, false, (false, [.other]), some (.nilif), false⟩
def ty79 : TI := ⟨.array 3 3, 3, 24, true, (true, [.int .i64, .int .i64, .int .i64]), some (.agg [.int .i64 0, .int .i64 0, .int .i64 0]), false⟩
def ty82 : TI := ⟨.func #[33, 3] #[3] false, 1, 8, false, (false, [.other]), some (.nilfn), false⟩
def ty83 : TI := ⟨.int .u64, 1, 8, false, (false, [.int .u64]), some (.int .u64 0), false⟩
/-- skylanternlaw27.BeatValids -/
noncomputable def fi3 : FI := ⟨Go.Proofs.Tryd.f3, { nvars := 13 }, []⟩
/-- skylanternlaw27.BeatTimes -/
noncomputable def fi4 : FI := ⟨Go.Proofs.Tryd.f4, { nvars := 15, cuts := [(9, [0, 5, 6, 7, 8, 9, 10, 11, 12, 13, 14], [5])] }, [(11, [[], [], [], [], [], [], [], [], []])]⟩
/-- skylanternlaw27.BeatTicks -/
noncomputable def fi5 : FI := ⟨Go.Proofs.Tryd.f5, { nvars := 9 }, []⟩
/-- skylanternlaw27.BeatNearest -/
noncomputable def fi6 : FI := ⟨Go.Proofs.Tryd.f6, { nvars := 11 }, []⟩
/-- skylanternlaw27.BeatGrids -/
noncomputable def fi7 : FI := ⟨Go.Proofs.Tryd.f7, { nvars := 21, cuts := [(11, [9, 10, 11, 12, 14, 16], [9, 10, 11, 14, 56]), (15, [9, 10, 12, 14, 17], [9, 10, 14, 17, 56]), (19, [9, 10, 12, 14, 17, 18, 86], [9, 10, 14, 17, 18, 56])] }, []⟩
/-- skylanternlaw27.BeatBars -/
noncomputable def fi8 : FI := ⟨Go.Proofs.Tryd.f8, { nvars := 27 }, []⟩
/-- skylanternlaw27.BeatParses -/
noncomputable def fi9 : FI := ⟨Go.Proofs.Tryd.f9, { nvars := 9 }, []⟩
/-- skylanternlaw27.BeatHolds -/
noncomputable def fi10 : FI := ⟨Go.Proofs.Tryd.f10, { nvars := 38, cuts := [(30, [0, 1, 5, 13, 35, 36], [35])] }, []⟩
/-- skylanternlaw27.known -/
noncomputable def fi11 : FI := ⟨Go.Proofs.Tryd.f11, { nvars := 18, cuts := [(22, [0, 11, 147], [0, 11])] }, []⟩
/-- beat.Valid -/
noncomputable def fi12 : FI := ⟨Go.Proofs.Tryd.f12, { nvars := 5, cuts := [(2, [0, 5, 6, 7], [])] }, [(4, [[], [], [], [], [], [], [], [], [], [], [], [], [], [], [], [], [], [], [], [], [], [], [], []])]⟩
/-- skylanternref27.Valid -/
noncomputable def fi13 : FI := ⟨Go.Proofs.Tryd.f13, { nvars := 4, cuts := [(4, [0, 3], [])] }, [(6, [[], [], [], [], [], [], [], [], [], [], [], [], [], [], [], [], [], [], [], [], [], [], [], [], [], [], [], [], [], [], [], [], []])]⟩
/-- beat.Exact -/
noncomputable def fi14 : FI := ⟨Go.Proofs.Tryd.f14, { nvars := 6 }, []⟩
/-- beat.Time -/
noncomputable def fi15 : FI := ⟨Go.Proofs.Tryd.f15, { nvars := 9 }, []⟩
/-- beat.Tick -/
noncomputable def fi16 : FI := ⟨Go.Proofs.Tryd.f16, { nvars := 7 }, []⟩
/-- beat.Nearest -/
noncomputable def fi17 : FI := ⟨Go.Proofs.Tryd.f17, { nvars := 13 }, []⟩
/-- skylanternref27.Exact -/
noncomputable def fi18 : FI := ⟨Go.Proofs.Tryd.f18, { nvars := 6 }, []⟩
/-- skylanternref27.Time -/
noncomputable def fi19 : FI := ⟨Go.Proofs.Tryd.f19, { nvars := 8 }, []⟩
/-- skylanternref27.Tick -/
noncomputable def fi20 : FI := ⟨Go.Proofs.Tryd.f20, { nvars := 9, cuts := [(6, [0, 1, 6, 7], [])] }, []⟩
/-- skylanternref27.Nearest -/
noncomputable def fi21 : FI := ⟨Go.Proofs.Tryd.f21, { nvars := 11, cuts := [(9, [0, 1, 2, 10], [])] }, []⟩
/-- beat.Grid -/
noncomputable def fi22 : FI := ⟨Go.Proofs.Tryd.f22, { rets := [.funcN 47 [(true, [.int .i64]), (true, [.slice true [.int .i64, .int .i64]]), (true, [.int .i64]), (true, [.int .i64])], .deep], nvars := 12 }, []⟩
/-- skylanternref27.Grid -/
noncomputable def fi23 : FI := ⟨Go.Proofs.Tryd.f23, { rets := [.fresh, .deep], nvars := 13, cuts := [(7, [0, 1, 2, 3, 10, 11], [10])] }, []⟩
/-- beat.Bar -/
noncomputable def fi24 : FI := ⟨Go.Proofs.Tryd.f24, { nvars := 9 }, [(6, [[], [], [], [], [], [], [], [], [], [], [], [], [], []])]⟩
/-- skylanternref27.Bar -/
noncomputable def fi25 : FI := ⟨Go.Proofs.Tryd.f25, { nvars := 8 }, [(5, [[], [], [], [], [], [], [], [], [], [], [], [], [], [], [], []])]⟩
/-- beat.Text -/
noncomputable def fi26 : FI := ⟨Go.Proofs.Tryd.f26, { nvars := 10 }, []⟩
/-- skylanternref27.Text -/
noncomputable def fi27 : FI := ⟨Go.Proofs.Tryd.f27, { nvars := 10 }, []⟩
/-- beat.FromBar -/
noncomputable def fi28 : FI := ⟨Go.Proofs.Tryd.f28, { nvars := 11 }, []⟩
/-- skylanternref27.FromBar -/
noncomputable def fi29 : FI := ⟨Go.Proofs.Tryd.f29, { nvars := 11 }, []⟩
/-- beat.Parse -/
noncomputable def fi30 : FI := ⟨Go.Proofs.Tryd.f30, { nvars := 13, cuts := [(5, [1, 6, 17, 18, 19], [6, 17])] }, [(14, [[], [], [], [], [], [], [], [], [], [], [], [], [], [], [], []])]⟩
/-- skylanternref27.Parse -/
noncomputable def fi31 : FI := ⟨Go.Proofs.Tryd.f31, { nvars := 13, cuts := [(6, [0, 1, 6, 7, 8], [6])] }, [(15, [[54], [54], [54], [54], [54], [], [], [], [], [], [], [], [], []])]⟩
/-- skylanternlaw27.sample -/
noncomputable def fi32 : FI := ⟨Go.Proofs.Tryd.f32, { rets := [.fresh], nvars := 1 }, []⟩
/-- skylanternlaw27.is -/
noncomputable def fi33 : FI := ⟨Go.Proofs.Tryd.f33, { nvars := 7 }, []⟩
/-- beat.within -/
noncomputable def fi34 : FI := ⟨Go.Proofs.Tryd.f34, { nvars := 7 }, []⟩
/-- skylanternref27.to -/
noncomputable def fi35 : FI := ⟨Go.Proofs.Tryd.f35, { nvars := 7 }, []⟩
/-- beat.exact -/
noncomputable def fi36 : FI := ⟨Go.Proofs.Tryd.f36, { nvars := 11, cuts := [(3, [0, 1, 5, 6, 11, 12, 13], [])] }, [(7, [[], [], [], [], [], [], [], [], [], [], [], [], [], []])]⟩
/-- beat.time -/
noncomputable def fi37 : FI := ⟨Go.Proofs.Tryd.f37, { nvars := 5 }, []⟩
/-- beat.check -/
noncomputable def fi38 : FI := ⟨Go.Proofs.Tryd.f38, { nvars := 9, cuts := [(4, [17, 18, 19], [])] }, []⟩
/-- sort.Search -/
noncomputable def fi39 : FI := ⟨Go.Proofs.Tryd.f39, { nvars := 8, cuts := [(2, [1, 5, 6], [])] }, []⟩
/-- beat.Tick$1 -/
noncomputable def fi40 : FI := ⟨Go.Proofs.Tryd.f40, { nvars := 5 }, [(1, [[], [], [], [], [8, 1008, 2008, 3008], [], []])]⟩
/-- beat.Nearest$1 -/
noncomputable def fi41 : FI := ⟨Go.Proofs.Tryd.f41, { nvars := 6 }, [(1, [[], [], [], [], [], [10, 1010, 2010, 3010], [], []])]⟩
/-- beat.Nearest$2 -/
noncomputable def fi42 : FI := ⟨Go.Proofs.Tryd.f42, { nvars := 6 }, [(1, [[], [], [], [], [], [10, 1010, 2010, 3010], [], []])]⟩
/-- skylanternref27.exact -/
noncomputable def fi43 : FI := ⟨Go.Proofs.Tryd.f43, { nvars := 8, cuts := [(3, [0, 1, 5, 6], [])] }, [(8, [[], [], [], [], [], [], [], [], [], [], [], [], [], [], [], [], []])]⟩
/-- skylanternref27.round -/
noncomputable def fi44 : FI := ⟨Go.Proofs.Tryd.f44, { nvars := 3 }, []⟩
/-- skylanternref27.differ -/
noncomputable def fi45 : FI := ⟨Go.Proofs.Tryd.f45, { nvars := 5 }, []⟩
/-- slices.Clone[[]api.Tempo,api.Tempo] -/
noncomputable def fi46 : FI := ⟨Go.Proofs.Tryd.f46, { rets := [.fresh], nvars := 3 }, []⟩
/-- beat.Grid$1 -/
noncomputable def fi47 : FI := ⟨Go.Proofs.Tryd.f47, { nvars := 9, yk := [(false, [.int .i64]), (false, [.int .i64])], ys := [0, 29], cuts := [(2, [0, 1, 2, 4, 7], [100000])] }, []⟩
/-- beat.Grid$1$1 -/
noncomputable def fi48 : FI := ⟨Go.Proofs.Tryd.f48, { nvars := 6 }, [(1, [[], [], [], [], [], [10, 1010, 2010, 3010], [], []])]⟩
/-- strconv.Itoa -/
noncomputable def fi49 : FI := ⟨Go.Proofs.Tryd.f49, { nvars := 3 }, []⟩
/-- skylanternref27.digits -/
noncomputable def fi50 : FI := ⟨Go.Proofs.Tryd.f50, { nvars := 3 }, []⟩
/-- strings.Split -/
noncomputable def fi51 : FI := ⟨Go.Proofs.Tryd.f51, { rets := [.fresh], nvars := 5 }, []⟩
/-- strconv.Atoi -/
noncomputable def fi52 : FI := ⟨Go.Proofs.Tryd.f52, { shares := true, nvars := 6 }, []⟩
/-- slices.BinarySearchFunc[[]api.Tempo,api.Tempo,int] -/
noncomputable def fi53 : FI := ⟨Go.Proofs.Tryd.f53, { nvars := 12, cuts := [(3, [0, 1, 2, 8, 9, 10], [])] }, []⟩
/-- beat.exact$1 -/
noncomputable def fi54 : FI := ⟨Go.Proofs.Tryd.f54, { nvars := 5 }, []⟩
noncomputable def tab : Tab := ⟨[(3, ty3), (4, ty4), (5, ty5), (9, ty9), (22, ty22), (25, ty25), (33, ty33), (37, ty37), (40, ty40), (43, ty43), (66, ty66), (70, ty70), (72, ty72), (73, ty73), (76, ty76), (79, ty79), (82, ty82), (83, ty83)],
  [(3, fi3), (4, fi4), (5, fi5), (6, fi6), (7, fi7), (8, fi8), (9, fi9), (10, fi10), (11, fi11), (12, fi12), (13, fi13), (14, fi14), (15, fi15), (16, fi16), (17, fi17), (18, fi18), (19, fi19), (20, fi20), (21, fi21), (22, fi22), (23, fi23), (24, fi24), (25, fi25), (26, fi26), (27, fi27), (28, fi28), (29, fi29), (30, fi30), (31, fi31), (32, fi32), (33, fi33), (34, fi34), (35, fi35), (36, fi36), (37, fi37), (38, fi38), (39, fi39), (40, fi40), (41, fi41), (42, fi42), (43, fi43), (44, fi44), (45, fi45), (46, fi46), (47, fi47), (48, fi48), (49, fi49), (50, fi50), (51, fi51), (52, fi52), (53, fi53), (54, fi54)], false⟩
noncomputable def tabS : Tab := { tab with strict := true }
end Go.Skm.Beat
