/-
  The known answers come out; condition: the library's answers.
-/
import Derived.Test.YtdhkklplijleiaaGreatDoorC19
namespace Go.Skm.Cue
open Go Go.Skm
def sc0 : Cu := ⟨1000, 0, [97], 255, 0, 0⟩
def sc1 : Cu := ⟨2000, 1000, [97], 0, 0, 255⟩
def scm : Cu := ⟨1500, 0, [98], 0, 0, 0⟩
def smpC : List Cu := [sc0, sc1]
def smpT : List Tm := [⟨0, 500000⟩]
theorem smpC_ok : Oks smpC := by
  have h : ∀ v ∈ smpC, (-9223372036854775808 ≤ v.t ∧ v.t ≤ 9223372036854775807) ∧ (-9223372036854775808 ≤ v.f ∧ v.f ≤ 9223372036854775807) ∧ v.g.length ≤ maxLen ∧ (0 ≤ v.r ∧ v.r ≤ 255) ∧ (0 ≤ v.e ∧ v.e ≤ 255) ∧ (0 ≤ v.b ∧ v.b ≤ 255) := by decide
  intro v hv
  obtain ⟨a, b, c, d, e, f⟩ := h v hv
  exact ⟨a, b, c, d, e, f⟩
theorem smpT_v : Valid smpT := valid_of (by decide +kernel)
theorem near_gen {f : Nat → Int} (mono : ∀ i j, i ≤ j → f i ≤ f j) {N k : Nat} {t : Int} (hk : k ≤ N) (hb : 0 < k → f (k - 1) ≤ t ∧ dst (f k) t < t - f (k - 1)) (hc : t ≤ f (k + 1) ∧ dst (f k) t ≤ f (k + 1) - t) : IsNear f N t k := by
  have lo : ∀ j, j < k → dst (f k) t < dst (f j) t := fun j hj => by
    have h1 := mono j (k - 1) (by omega)
    have h2 := hb (by omega)
    have : dst (f j) t = t - f j := by unfold dst; split <;> omega
    omega
  refine ⟨hk, fun j _ => ?_, lo⟩
  rcases Nat.lt_trichotomy j k with h | h | h
  · exact Int.le_of_lt (lo j h)
  · rw [h]; exact Int.le_refl _
  · have h1 := mono (k + 1) j (by omega)
    have : dst (f j) t = f j - t := by unfold dst; split <;> omega
    omega
theorem tOf_of {tm : List Tm} {s t : Int} {p : Int × Int} (h : NearP tm t s p) : tOf tm s t = timeR tm p.1 := by
  unfold tOf; rw [nearF_eq h]
theorem near_smp {s k : Nat} {t : Int} (hs : 1 ≤ s ∧ (s : Int) ≤ Top) (ht : 0 ≤ t ∧ t ≤ 3600000) (h : IsNear (gT smpT s) (gN s) t k) : NearP smpT t s (((k * s : Nat) : Int), 0) := by
  unfold NearP
  rw [if_pos ⟨by decide +kernel, by omega, hs.2⟩, if_pos ht]
  exact ⟨rfl, k, by rw [Int.toNat_natCast]; exact h, by rw [Int.toNat_natCast]⟩
theorem tA : tOf smpT 480 1000 = (1000, 0) := (tOf_of (near_smp (s := 480) (k := 2) (by decide) (by decide) (near_gen (gT_mono smpT_v 480) (by decide) (fun _ => by decide +kernel) (by decide +kernel)))).trans (by decide +kernel)
theorem tB : tOf smpT 480 2000 = (2000, 0) := (tOf_of (near_smp (s := 480) (k := 4) (by decide) (by decide) (near_gen (gT_mono smpT_v 480) (by decide) (fun _ => by decide +kernel) (by decide +kernel)))).trans (by decide +kernel)
theorem tC : tOf smpT 1920 1000 = (0, 0) := (tOf_of (near_smp (s := 1920) (k := 0) (by decide) (by decide) (near_gen (gT_mono smpT_v 1920) (by decide) (fun h => absurd h (by decide)) (by decide +kernel)))).trans (by decide +kernel)
theorem tD : tOf smpT 1920 2000 = (2000, 0) := (tOf_of (near_smp (s := 1920) (k := 1) (by decide) (by decide) (near_gen (gT_mono smpT_v 1920) (by decide) (fun _ => by decide +kernel) (by decide +kernel)))).trans (by decide +kernel)
theorem tE : tOf smpT 3840 1000 = (0, 0) := (tOf_of (near_smp (s := 3840) (k := 0) (by decide) (by decide) (near_gen (gT_mono smpT_v 3840) (by decide) (fun h => absurd h (by decide)) (by decide +kernel)))).trans (by decide +kernel)
theorem tF : tOf smpT 3840 2000 = (0, 0) := (tOf_of (near_smp (s := 3840) (k := 0) (by decide) (by decide) (near_gen (gT_mono smpT_v 3840) (by decide) (fun h => absurd h (by decide)) (by decide +kernel)))).trans (by decide +kernel)
theorem snap_smp {s : Int} {a b : Int} (hs : 1 ≤ s ∧ s ≤ Top) (ha : tOf smpT s 1000 = (a, 0)) (hb : tOf smpT s 2000 = (b, 0)) :
    snapR smpC smpT s = if (refS [{ sc0 with t := a }, { sc1 with t := b }] [] false).2 then ([], 11) else ((refS [{ sc0 with t := a }, { sc1 with t := b }] [] false).1, 0) := by
  have h1 : smpC.all (snOk smpT s) = true := by
    show (decide ((tOf smpT s 1000).2 = 0) && (decide ((tOf smpT s 2000).2 = 0) && true)) = true
    rw [ha, hb]; rfl
  have h2 : smpC.map (sn smpT s) = [{ sc0 with t := a }, { sc1 with t := b }] := by
    show [{ sc0 with t := (tOf smpT s 1000).1 }, { sc1 with t := (tOf smpT s 2000).1 }] = _
    rw [ha, hb]
  unfold snapR
  rw [if_pos ⟨by decide +kernel, by decide +kernel, hs⟩, if_pos h1, h2]
theorem snap1 : snapR smpC smpT 480 = (smpC, 0) := (snap_smp (by decide) tA tB).trans (by decide +kernel)
theorem snap2 : snapR smpC smpT 1920 = ([{ sc0 with t := 0 }, sc1], 0) := (snap_smp (by decide) tC tD).trans (by decide +kernel)
theorem snap3 : snapR smpC smpT 3840 = ([], 11) := (snap_smp (by decide) tE tF).trans (by decide +kernel)
section
variable (X : Ext) (hX : Mine X)
include hX
theorem c35 : run tab X 35 [] [] = some ([.fresh true kC (encU smpC)], []) := run_of (hX _ rfl) (by rw [e35]; rfl)
theorem shows (hT : Texts X) (g : List UInt8) (hg : g.length ≤ maxLen) (t : Int) (w : Co) (h : valR smpC g t = (w, 0)) : run tab X 36 [.p (.str (ba g)), .p (.int .i64 t), .p (encO w)] [] = some ([.p (.bool true)], []) :=
  run_of (hX _ rfl) (by
    rw [e36]
    have e : run tab X 16 [.p (.list true kC (encU smpC)), .p (.str (ba g)), .p (.int .i64 t)] [] = _ := c16 X hX hT smpC smpC_ok (by decide) g hg t
    refine bindS (c35 X hX) (bindS e ?_)
    rw [h]
    simp [coR])
def Known (X : Ext) : Prop := run tab X 10 [] [] = some ([.p (.bool true)], [])
theorem known (hT : Texts X) (hO : SortC X) (hS : SortS X) : Known X :=
  run_of (hX _ rfl) (by
    have nm := smpC_ok.nam
    have l1 : (1 : Nat) ≤ maxLen := by decide
    have a1 : run tab X 17 [.p (.list true kC (encU smpC)), .p (encC sc1)] [] = some (listR [] 11) := (c17 X hX hT smpC nm (by decide) sc1 l1).trans (by rw [show addR smpC sc1 = ([], 11) by decide +kernel])
    have a2 : run tab X 17 [.p (.list true kC (encU smpC)), .p (encC scm)] [] = some (listR [sc0, scm, sc1] 0) := (c17 X hX hT smpC nm (by decide) scm l1).trans (by rw [show addR smpC scm = ([sc0, scm, sc1], 0) by decide +kernel])
    have a3 : run tab X 18 [.p (.list true kC (encU smpC)), .p (.int .i64 1500), .p (.str (ba [97]))] [] = some (listR [] 9) := (c18 X hX hT smpC nm (by decide) 1500 [97] l1).trans (by rw [show remR smpC 1500 [97] = ([], 9) by decide +kernel])
    have a4 : run tab X 19 [.p (.list true kC (encU [sc0, scm, sc1])), .p (.list true kC (encU [sc0, scm, sc1]))] [] = some ([.p (.bool true)], []) := (c19 X hX _ _ (by decide)).trans (by rw [decide_eq_true rfl])
    have a5 : run tab X 25 [.p (.list true kC (encU smpC))] [] = some (namesR ([[97]], 0)) := (c25 X hX hT hS smpC nm (by decide)).trans (by rw [show grpR smpC = ([[97]], 0) by decide +kernel])
    have a6 : run tab X 27 [.p (.list true kC (encU smpC)), .p (.str (ba [98]))] [] = some (listR [] 0) := (c27 X hX hT smpC nm (by decide) [98] l1).trans (by rw [show ofR smpC [98] = ([], 0) by decide +kernel])
    have a7 : run tab X 20 [.p (.list true kC (encU smpC)), .p (.int .i64 (-1001))] [] = some (listR [] 3) := (c20 X hX hT smpC nm (by decide) _).trans (by rw [show shiftR smpC (-1001) = ([], 3) by decide +kernel])
    have a8 : run tab X 20 [.p (.list true kC (encU smpC)), .p (.int .i64 (-1000))] [] = some (listR [{ sc0 with t := 0 }, { sc1 with t := 1000 }] 0) := (c20 X hX hT smpC nm (by decide) _).trans (by rw [show shiftR smpC (-1000) = ([{ sc0 with t := 0 }, { sc1 with t := 1000 }], 0) by decide +kernel])
    have a9 : run tab X 29 [.p (.list false [.str] (encB [[97]])), .p (.list false [.str] (encB [[97]]))] [] = some ([.p (.bool true)], []) := (c29 X hX _ _ (by decide)).trans (by rw [decide_eq_true rfl])
    have b1 : run tab X 31 [.p (.list true kC (encU smpC)), .p (.list true kT (encM smpT)), .p (.int .i64 480)] [] = some (listR smpC 0) := (c31 X hX hT hO smpC nm (by decide) smpT (by decide) 480).trans (by rw [snap1])
    have b2 : run tab X 31 [.p (.list true kC (encU smpC)), .p (.list true kT (encM smpT)), .p (.int .i64 1920)] [] = some (listR [{ sc0 with t := 0 }, sc1] 0) := (c31 X hX hT hO smpC nm (by decide) smpT (by decide) 1920).trans (by rw [snap2])
    have b3 : run tab X 31 [.p (.list true kC (encU smpC)), .p (.list true kT (encM smpT)), .p (.int .i64 3840)] [] = some (listR [] 11) := (c31 X hX hT hO smpC nm (by decide) smpT (by decide) 3840).trans (by rw [snap3])
    have b4 : run tab X 19 [.p (.list true kC (encU smpC)), .p (.list true kC (encU smpC))] [] = some ([.p (.bool true)], []) := (c19 X hX _ _ (by decide)).trans (by rw [decide_eq_true rfl])
    have b5 : run tab X 33 [.p (encC sc1)] [] = some ([.p (.str (ba (textOf sc1))), .p (.int .i64 0)], []) := (c33 X hX hT sc1 l1 ⟨by decide, by decide⟩ ⟨by decide, by decide⟩ ⟨by decide, by decide⟩).trans (by rw [txR, if_pos (by decide +kernel)])
    have b6 : run tab X 11 [.p (.str (ba [99, 117, 101, 32, 48, 49, 32, 97, 32, 35, 102, 102, 48, 48, 48, 48, 32, 48]))] [] = some (cueR none) := by
      obtain ⟨p, p1, p2⟩ := c11 X hX hT [99, 117, 101, 32, 48, 49, 32, 97, 32, 35, 102, 102, 48, 48, 48, 48, 32, 48] (by decide)
      have e := readR_parse (s := [99, 117, 101, 32, 48, 49, 32, 97, 32, 35, 102, 102, 48, 48, 48, 48, 32, 48]) (a := [99, 117, 101]) (t := [48, 49]) (g := [97]) (c := [35, 102, 102, 48, 48, 48, 48]) (f := [48]) (by decide +kernel)
      rw [show readR [99, 117, 101] [48, 49] [97] [35, 102, 102, 48, 48, 48, 48] [48] = none by decide +kernel] at e
      rw [p1.unique e] at p2
      exact p2
    rw [e10]
    refine bindS (c35 X hX) ?_
    refine bindS (shows X hX hT [97] l1 999 ⟨0, 0, 0⟩ (by decide +kernel)) (condF rfl ?_)
    refine bindS (shows X hX hT [97] l1 1000 ⟨255, 0, 0⟩ (by decide +kernel)) (condF rfl ?_)
    refine bindS (shows X hX hT [97] l1 2000 ⟨255, 0, 0⟩ (by decide +kernel)) (condF rfl ?_)
    refine bindS (shows X hX hT [97] l1 3000 ⟨0, 0, 255⟩ (by decide +kernel)) (condF rfl ?_)
    refine bindS (shows X hX hT [98] l1 5000 ⟨0, 0, 0⟩ (by decide +kernel)) (condF rfl ?_)
    refine condT rfl ?_
    refine bindS a1 (bindS a2 (bindS a3 ?_))
    refine condF rfl (condF rfl (condF rfl (condT rfl (condT rfl ?_))))
    refine bindS a4 (condF rfl ?_)
    refine bindS a5 (bindS a6 (bindS a7 (bindS a8 ?_)))
    refine condF rfl (condF rfl (condF rfl (condF rfl ?_)))
    refine bindS a9 (condF rfl ?_)
    refine condF rfl (condF rfl (condT rfl (condF rfl (condT rfl (condF rfl ?_)))))
    refine bindS b1 (bindS b2 (bindS b3 ?_))
    refine condF rfl (condF rfl (condF rfl ?_))
    refine bindS b4 (condF rfl ?_)
    refine condF rfl (condT rfl (condF rfl (condT rfl (condF rfl (condT rfl ?_)))))
    refine bindS b5 (bindS b6 ?_)
    refine condT rfl (condT rfl ?_)
    have e : ((ba (textOf sc1)).toList == (⟨#[99, 117, 101, 32, 50, 48, 48, 48, 32, 97, 32, 35, 48, 48, 48, 48, 102, 102, 32, 49, 48, 48, 48]⟩ : ByteArray).toList) = true := by
      rw [show textOf sc1 = [99, 117, 101, 32, 50, 48, 48, 48, 32, 97, 32, 35, 48, 48, 48, 48, 102, 102, 32, 49, 48, 48, 48] by decide +kernel, ba_beq]
      exact decide_eq_true rfl
    simp only [List.headD_cons, pv_p, toStr_str, e])
end
end Go.Skm.Cue
