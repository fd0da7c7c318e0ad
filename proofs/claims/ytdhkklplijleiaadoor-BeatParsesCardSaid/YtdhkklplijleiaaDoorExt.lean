/-
  The library's answers in the world of a row: they are true; condition: the row's variables hold what the row lists, and the world has the form's shape.
-/
import Derived.Test.YtdhkklplijleiaaDoorCt26
import Derived.Test.YtdhkklplijleiaaDoorTabOk
import Derived.Test.YtdhkklplijleiaaDoorLays
import Derived.Test.YtdhkklplijleiaaDoorRows
import Derived.Test.YtdhkklplijleiaaDoorSkmG
import Derived.Shelf.Vars
import Derived.MakeChecks
set_option maxRecDepth 100000
namespace Go.Skm.Beat
open Go Go.Skm Go.Proofs Go.Proofs.YtdhkklplijleiaaDoor

def libX : Ext := extL [(49, itoaF), (51, splitF), (52, atoiF)]
theorem libMine : Mine libX := by
  intro f h1 h2 h3
  unfold libX extL
  simp only [tlook]
  rw [show (49 == f) = false from by simpa using fun e => h1 e.symm, show (51 == f) = false from by simpa using fun e => h2 e.symm, show (52 == f) = false from by simpa using fun e => h3 e.symm]
  rfl
theorem libTexts : Texts libX := by
  refine ⟨fun n h0 h1 => run_ext (fi := fi49) (by kernel_rfl) rfl ?_, fun l hl => run_ext (fi := fi51) (by kernel_rfl) rfl ?_, fun l hl => run_ext (fi := fi52) (by kernel_rfl) rfl ?_⟩
  · unfold itoaF
    simp only
    rw [if_pos ⟨h0, h1⟩]
  · unfold splitF
    show (if (ba l).size < 4294967281 then _ else none) = _
    rw [if_pos (by rw [ba_size]; omega)]
    rfl
  · unfold atoiF
    show (if (ba l).size ≤ 281474976710656 then _ else none) = _
    rw [if_pos (by rw [ba_size]; omega)]
    rfl

/-- What the rows list. -/
def laidL : List (String × DataW Unit) := [("math/bits.deBruijn32tab", Rows.laid_math_bits_deBruijn32tab), ("math/bits.deBruijn64tab", Rows.laid_math_bits_deBruijn64tab), ("internal/strconv.uint64pow10", Rows.laid_internal_strconv_uint64pow10),
  ("unicode/utf8.acceptRanges", Rows.laid_unicode_utf8_acceptRanges), ("strconv.ErrRange", Rows.laid_strconv_ErrRange), ("strconv.ErrSyntax", Rows.laid_strconv_ErrSyntax), ("unicode/utf8.first", Rows.laid_unicode_utf8_first)]
theorem pow10_laid : Rows.laid_internal_strconv_uint64pow10 (H := Unit) = Lib.tabData .u64 Lib.pow10Tab := by kernel_rfl
def gls : List Nat := [0, 1, 2, 3]
theorem g_syntax : Tryd.prog.globalNamed "strconv.ErrSyntax" = some 0 := by kernel_rfl
theorem g_range : Tryd.prog.globalNamed "strconv.ErrRange" = some 1 := by kernel_rfl
theorem g_pow10 : Tryd.prog.globalNamed "internal/strconv.uint64pow10" = some 2 := by kernel_rfl
theorem libExt {W : World} (hL : laidMetH Tryd.prog laidL W) (hS : W.ShapedOpen Tryd.prog) : ExtOk Tryd.prog tab (glOf W gls) libX := by
  rw [MakeChecks.laidMetH_plain _ _ _ (by kernel_rfl)] at hL
  have hP : Lib.TabIs Tryd.prog W "internal/strconv.uint64pow10" .u64 Lib.pow10Tab := by
    have h : laidMet Tryd.prog (("internal/strconv.uint64pow10", Rows.laid_internal_strconv_uint64pow10) :: laidL.drop 3) W := laid_drop 2 hL
    rw [pow10_laid] at h
    exact Lib.tabIs_of_head g_pow10 (t := 113) (e := 97) (n := 20) (by kernel_rfl) (by kernel_rfl) (by kernel_rfl) (by kernel_rfl) (by kernel_rfl) h
  obtain ⟨u1, v1, hR⟩ : ∃ u v, W.cell? ⟨1, 0, none⟩ = some (.iface u v) := by
    have h : laidMet Tryd.prog (("strconv.ErrRange", Rows.laid_strconv_ErrRange) :: laidL.drop 5) W := laid_drop 4 hL
    exact laid_iface h g_range (ti := 76) (by kernel_rfl) Tryd.underlying76
  obtain ⟨u0, v0, hY⟩ : ∃ u v, W.cell? ⟨0, 0, none⟩ = some (.iface u v) := by
    have h : laidMet Tryd.prog (("strconv.ErrSyntax", Rows.laid_strconv_ErrSyntax) :: laidL.drop 6) W := laid_drop 5 hL
    exact laid_iface h g_syntax (ti := 76) (by kernel_rfl) Tryd.underlying76
  obtain ⟨m, hM⟩ := Tryd.laysM146.s1_3 W hS
  refine extOk_cons (ext1_itoa (fi := fi49) Tryd.laysM171 rfl (by kernel_rfl) rfl rfl (t := 9) rfl (by kernel_rfl) fun w hw => ?_) (extOk_cons (ext1_split (fi := fi51) Tryd.laysM146 rfl (by kernel_rfl) rfl rfl (t := 73) (e := 9) rfl (by kernel_rfl) (by kernel_rfl) fun w hw => ?_) (extOk_cons (ext1_atoi (fi := fi52) Tryd.laysC172 rfl (by kernel_rfl) rfl rfl (t := 3) (u := 76) rfl (by kernel_rfl) (by kernel_rfl) (fun w hw => ?_) fun w hw => ?_) extOk_nil))
  · exact glOf_var hw (g := 2) (by decide) g_pow10 hP
  · exact ⟨m, glOf_cell hw (g := 3) (by decide) hM⟩
  · exact ⟨_, glOf_cell hw (g := 0) (by decide) hY, .inr ⟨_, _, rfl⟩⟩
  · exact ⟨_, glOf_cell hw (g := 1) (by decide) hR, .inr ⟨_, _, rfl⟩⟩
end Go.Skm.Beat
