/-
  A text without its last line break; the document's number; condition: lengths that fit.
-/
import Derived.Test.YtidoclepnecnbaaGreatDoorP8
namespace Go.Skm.Drw
open Go Go.Skm
section
variable (X : Ext) (hX : Mine X)
include hX
theorem c63_snoc (m : List UInt8) (x : UInt8) (hm : m.length ≤ 100000000) : run tab X 63 [.p (.str (ba (m ++ [x]))), .p (.str ⟨#[10]⟩)] [] = some ([.p (.bool (decide (x = 10)))], []) :=
  run_of (hX _ rfl) (by
    have hs : (((ba (m ++ [x])).size : Nat) : Int) = (m.length : Int) + 1 := by rw [ba_size]; simp
    have h1 : (((⟨#[10]⟩ : ByteArray).size : Nat) : Int) = 1 := rfl
    have w : IntKind.i64.wrap ((m.length : Int) + 1 - 1) = (m.length : Int) := by rw [wrap_eq (by omega) (by omega)]; omega
    rw [e63, hs, h1, w]
    have c1 : ((m.length : Int) + 1).toNat = m.length + 1 := by omega
    have hx : (ba (m ++ [x])).extract m.length (m.length + 1) = ba [x] := by
      have := ba_cut (m ++ [x]) (i := m.length) (by simp)
      rw [this]
      simp
    simp only [condA, condD, Int.toNat_natCast, c1, hx, show (⟨#[10]⟩ : ByteArray) = ba [10] from rfl, ba_beq]
    rw [if_pos (by omega), if_pos (by omega), if_pos (by omega), if_pos (by omega)]
    have e : decide (ba [x] = ba [10]) = decide (x = 10) := by
      by_cases h : x = 10
      · simp [h]
      · have : ¬ ba [x] = ba [10] := fun e => h (by simpa using ba_inj.1 e)
        simp [h, this]
    rw [e])
theorem c26_snoc (m : List UInt8) (x : UInt8) (hm : m.length ≤ 100000000) : run tab X 26 [.p (.str (ba (m ++ [x]))), .p (.str ⟨#[10]⟩)] [] = some (if x = 10 then ([.p (.str (ba m)), .p (.bool true)], []) else ([.p (.str (ba (m ++ [x]))), .p (.bool false)], [])) :=
  run_of (hX _ rfl) (by
    have h56 : run tab X 42 [.p (.str (ba (m ++ [x]))), .p (.str ⟨#[10]⟩)] [] = some (if x = 10 then ([.p (.str (ba m)), .p (.bool true)], []) else ([.p (.str (ba (m ++ [x]))), .p (.bool false)], [])) :=
      run_of (hX _ rfl) (by
        have hs : (((ba (m ++ [x])).size : Nat) : Int) = (m.length : Int) + 1 := by rw [ba_size]; simp
        have h1 : (((⟨#[10]⟩ : ByteArray).size : Nat) : Int) = 1 := rfl
        have w : IntKind.i64.wrap ((m.length : Int) + 1 - 1) = (m.length : Int) := by rw [wrap_eq (by omega) (by omega)]; omega
        rw [e42]
        refine bindS (c63_snoc X hX m x hm) ?_
        simp only [List.headD_cons, pv_p, toBool_bool, condO]
        by_cases h : x = 10
        · rw [if_pos h, decide_eq_true h]
          simp only [cond_true]
          rw [hs, h1, w]
          simp only [condA, condD, Int.toNat_natCast]
          rw [if_pos (by omega), if_pos (by omega)]
          have hx : (ba (m ++ [x])).extract 0 m.length = ba m := by
            rw [ba_eq]
            simp [ba, ByteArray.data_extract]
          rw [hx]
        · rw [if_neg h, decide_eq_false h]; rfl)
    rw [e26]
    refine bindS h56 ?_
    by_cases h : x = 10
    · simp [h]
    · simp [h])
end
end Go.Skm.Drw
