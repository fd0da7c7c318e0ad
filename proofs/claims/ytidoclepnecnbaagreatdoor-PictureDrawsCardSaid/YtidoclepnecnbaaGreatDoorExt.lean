/-
  The library's answers in the world of a row: they are true; condition: the row's variables hold what the row lists, and the world has the form's shape.
-/
import Derived.Test.YtidoclepnecnbaaGreatDoorP27
import Derived.Test.YtidoclepnecnbaaGreatDoorRows
import Derived.Test.YtidoclepnecnbaaGreatDoorSkmH
import Derived.Test.YtidoclepnecnbaaGreatDoorSkmG
import Derived.Shelf.Vars
import Derived.MakeChecks
set_option maxRecDepth 100000
namespace Go.Skm.Drw
open Go Go.Skm Go.Proofs Go.Proofs.YtidoclepnecnbaaGreatDoor
def laidL : List (String × DataW Unit) := [("math/bits.deBruijn32tab", Rows.laid_math_bits_deBruijn32tab), ("math/bits.deBruijn64tab", Rows.laid_math_bits_deBruijn64tab), ("internal/strconv.uint64pow10", Rows.laid_internal_strconv_uint64pow10),
  ("unicode/utf8.acceptRanges", Rows.laid_unicode_utf8_acceptRanges), ("strconv.ErrRange", Rows.laid_strconv_ErrRange), ("strconv.ErrSyntax", Rows.laid_strconv_ErrSyntax), ("unicode/utf8.first", Rows.laid_unicode_utf8_first)]
theorem pow10_laid : Rows.laid_internal_strconv_uint64pow10 (H := Unit) = Lib.tabData .u64 Lib.pow10Tab := by kernel_rfl
def gls : List Nat := [0, 1, 2, 3]
theorem g_syntax : Tryz.prog.globalNamed "strconv.ErrSyntax" = some 1 := by kernel_rfl
theorem g_range : Tryz.prog.globalNamed "strconv.ErrRange" = some 2 := by kernel_rfl
theorem g_pow10 : Tryz.prog.globalNamed "internal/strconv.uint64pow10" = some 3 := by kernel_rfl
theorem libExt {W : World} (hL : laidMetH Tryz.prog laidL W) (hS : W.ShapedOpen Tryz.prog) : ExtOk Tryz.prog tab (glOf W gls) libX := by
  rw [MakeChecks.laidMetH_plain _ _ _ (by kernel_rfl)] at hL
  have hP : Lib.TabIs Tryz.prog W "internal/strconv.uint64pow10" .u64 Lib.pow10Tab := by
    have h : laidMet Tryz.prog (("internal/strconv.uint64pow10", Rows.laid_internal_strconv_uint64pow10) :: laidL.drop 3) W := laid_drop 2 hL
    rw [pow10_laid] at h
    exact Lib.tabIs_of_head g_pow10 (t := 151) (e := 133) (n := 20) (by kernel_rfl) (by kernel_rfl) (by kernel_rfl) (by kernel_rfl) (by kernel_rfl) h
  obtain ⟨u1, v1, hR⟩ : ∃ u v, W.cell? ⟨2, 0, none⟩ = some (.iface u v) := by
    have h : laidMet Tryz.prog (("strconv.ErrRange", Rows.laid_strconv_ErrRange) :: laidL.drop 5) W := laid_drop 4 hL
    exact laid_iface h g_range (ti := 66) (by kernel_rfl) Tryz.underlying66
  obtain ⟨u0, v0, hY⟩ : ∃ u v, W.cell? ⟨1, 0, none⟩ = some (.iface u v) := by
    have h : laidMet Tryz.prog (("strconv.ErrSyntax", Rows.laid_strconv_ErrSyntax) :: laidL.drop 6) W := laid_drop 5 hL
    exact laid_iface h g_syntax (ti := 66) (by kernel_rfl) Tryz.underlying66
  obtain ⟨m, hM⟩ := Tryz.laysM146.s1_3 W hS
  have hne : glOf W gls ≠ [] := by
    intro e
    cases ho : W.heap[1]? with
    | none => simp [World.cell?, ho] at hY
    | some o =>
      have : (1, o) ∈ glOf W gls := List.mem_filterMap.2 ⟨1, by decide, by rw [ho]; rfl⟩
      rw [e] at this
      cases this
  refine extOk_cons (ext1_itoa hne (fi := fi38) Tryz.laysM171 rfl (by kernel_rfl) rfl rfl (t := 9) rfl (by kernel_rfl) fun w hw => ?_)
    (extOk_cons (ext1_atoi hne (fi := fi45) Tryz.laysC172 rfl (by kernel_rfl) rfl rfl (t := 3) (u := 66) rfl (by kernel_rfl) (by kernel_rfl) (fun w hw => ?_) fun w hw => ?_)
    (extOk_cons (ext1_split hne (fi := fi44) Tryz.laysM146 rfl (by kernel_rfl) rfl rfl (t := 99) (e := 9) rfl (by kernel_rfl) (by kernel_rfl) fun w hw => ?_)
    (extOk_cons (ext1_cut hne (fi := fi27) Tryz.laysM145 rfl (by kernel_rfl) rfl rfl (t := 9) (u := 9) (v := 4) rfl (by kernel_rfl) (by kernel_rfl) (by kernel_rfl) fun w hw => ?_) extOk_nil)))
  · exact glOf_var hw (g := 3) (by decide) g_pow10 hP
  · exact ⟨_, glOf_cell hw (g := 1) (by decide) hY, .inr ⟨_, _, rfl⟩⟩
  · exact ⟨_, glOf_cell hw (g := 2) (by decide) hR, .inr ⟨_, _, rfl⟩⟩
  · exact ⟨m, glOf_cell hw (g := 0) (by decide) hM⟩
  · exact ⟨m, glOf_cell hw (g := 0) (by decide) hM⟩
theorem tabTrue : TabOk Tryz.prog tab := tabOk primsOk
end Go.Skm.Drw
