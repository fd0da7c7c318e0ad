/-
  The library's answers in the world of a row: they are true; condition: the row's variables hold what the row lists, and the world has the form's shape.
-/
import Derived.Test.YtidoclepnecnbaaDoorOP27
import Derived.Test.YtidoclepnecnbaaDoorRows
import Derived.Test.YtidoclepnecnbaaDoorOSkmH
import Derived.Test.YtidoclepnecnbaaDoorOSkmG
import Derived.Shelf.Vars
import Derived.MakeChecks
set_option maxRecDepth 100000
namespace Go.Skm.Pio
open Go Go.Skm Go.Proofs Go.Proofs.YtidoclepnecnbaaDoor
def laidL : List (String × DataW Unit) := [("math/bits.deBruijn32tab", Rows.laid_math_bits_deBruijn32tab), ("math/bits.deBruijn64tab", Rows.laid_math_bits_deBruijn64tab), ("internal/strconv.uint64pow10", Rows.laid_internal_strconv_uint64pow10),
  ("unicode/utf8.acceptRanges", Rows.laid_unicode_utf8_acceptRanges), ("strconv.ErrRange", Rows.laid_strconv_ErrRange), ("strconv.ErrSyntax", Rows.laid_strconv_ErrSyntax), ("unicode/utf8.first", Rows.laid_unicode_utf8_first)]
theorem pow10_laid : Rows.laid_internal_strconv_uint64pow10 (H := Unit) = Lib.tabData .u64 Lib.pow10Tab := by kernel_rfl
def gls : List Nat := [0, 1, 2, 3]
theorem g_syntax : Tryd.prog.globalNamed "strconv.ErrSyntax" = some 1 := by kernel_rfl
theorem g_range : Tryd.prog.globalNamed "strconv.ErrRange" = some 2 := by kernel_rfl
theorem g_pow10 : Tryd.prog.globalNamed "internal/strconv.uint64pow10" = some 3 := by kernel_rfl
theorem libExt {W : World} (hL : laidMetH Tryd.prog laidL W) (hS : W.ShapedOpen Tryd.prog) : ExtOk Tryd.prog tab (glOf W gls) libX := by
  rw [MakeChecks.laidMetH_plain _ _ _ (by kernel_rfl)] at hL
  have hP : Lib.TabIs Tryd.prog W "internal/strconv.uint64pow10" .u64 Lib.pow10Tab := by
    have h : laidMet Tryd.prog (("internal/strconv.uint64pow10", Rows.laid_internal_strconv_uint64pow10) :: laidL.drop 3) W := laid_drop 2 hL
    rw [pow10_laid] at h
    exact Lib.tabIs_of_head g_pow10 (t := 148) (e := 120) (n := 20) (by kernel_rfl) (by kernel_rfl) (by kernel_rfl) (by kernel_rfl) (by kernel_rfl) h
  obtain ⟨u1, v1, hR⟩ : ∃ u v, W.cell? ⟨2, 0, none⟩ = some (.iface u v) := by
    have h : laidMet Tryd.prog (("strconv.ErrRange", Rows.laid_strconv_ErrRange) :: laidL.drop 5) W := laid_drop 4 hL
    exact laid_iface h g_range (ti := 72) (by kernel_rfl) Tryd.underlying72
  obtain ⟨u0, v0, hY⟩ : ∃ u v, W.cell? ⟨1, 0, none⟩ = some (.iface u v) := by
    have h : laidMet Tryd.prog (("strconv.ErrSyntax", Rows.laid_strconv_ErrSyntax) :: laidL.drop 6) W := laid_drop 5 hL
    exact laid_iface h g_syntax (ti := 72) (by kernel_rfl) Tryd.underlying72
  obtain ⟨m, hM⟩ := Tryd.laysM146.s1_3 W hS
  have hne : glOf W gls ≠ [] := by
    intro e
    cases ho : W.heap[1]? with
    | none => simp [World.cell?, ho] at hY
    | some o =>
      have : (1, o) ∈ glOf W gls := List.mem_filterMap.2 ⟨1, by decide, by rw [ho]; rfl⟩
      rw [e] at this
      cases this
  refine extOk_cons (ext1_itoa hne (fi := fi54) Tryd.laysM171 rfl (by kernel_rfl) rfl rfl (t := 9) rfl (by kernel_rfl) fun w hw => ?_)
    (extOk_cons (ext1_atoi hne (fi := fi59) Tryd.laysC172 rfl (by kernel_rfl) rfl rfl (t := 3) (u := 72) rfl (by kernel_rfl) (by kernel_rfl) (fun w hw => ?_) fun w hw => ?_)
    (extOk_cons (ext1_split hne (fi := fi58) Tryd.laysM146 rfl (by kernel_rfl) rfl rfl (t := 86) (e := 9) rfl (by kernel_rfl) (by kernel_rfl) fun w hw => ?_)
    (extOk_cons (ext1_cut hne (fi := fi41) Tryd.laysM145 rfl (by kernel_rfl) rfl rfl (t := 9) (u := 9) (v := 4) rfl (by kernel_rfl) (by kernel_rfl) (by kernel_rfl) fun w hw => ?_) extOk_nil)))
  · exact glOf_var hw (g := 3) (by decide) g_pow10 hP
  · exact ⟨_, glOf_cell hw (g := 1) (by decide) hY, .inr ⟨_, _, rfl⟩⟩
  · exact ⟨_, glOf_cell hw (g := 2) (by decide) hR, .inr ⟨_, _, rfl⟩⟩
  · exact ⟨m, glOf_cell hw (g := 0) (by decide) hM⟩
  · exact ⟨m, glOf_cell hw (g := 0) (by decide) hM⟩
theorem tabTrue : TabOk Tryd.prog tab := tabOk primsOk
end Go.Skm.Pio
