/-
  Parse, as the program goes over the lines; condition: the library's answers, lengths that fit.
-/
import Derived.Test.YtidoclepnecnbaaGreatDoorP17
import Derived.Test.YtidoclepnecnbaaGreatDoorP10
namespace Go.Skm.Drw
open Go Go.Skm
theorem cutC_len (c : UInt8) : ∀ l : List UInt8, (cutC c l).1.length ≤ l.length ∧ (cutC c l).2.1.length ≤ l.length
  | [] => by simp [cutC]
  | x :: l => by
    have ih := cutC_len c l
    cases hb : (x == c) with
    | true => simp [cutC, hb]
    | false => simp only [cutC, hb, cond_false, List.length_cons]; omega
def parsR : Option Pi → List AV × List Blk
  | some p => ([.p (.agg [.int .i64 p.w, .int .i64 p.h, .int .u8 p.a, .int .u8 p.e, .int .u8 p.b, dotsP p.d]), .p (.int .i64 0)], [])
  | none => ([.p errP, .p (.int .i64 6)], [])
section
variable (X : Ext) (hX : Mine X) (hT : Texts X)
include hX hT
theorem c15_bad (s all : List UInt8) (hs : all.length ≤ 100000000) (h40 : run tab X 26 [.p (.str (ba s)), .p (.str ⟨#[10]⟩)] [] = some ([.p (.str (ba all)), .p (.bool false)], [])) : run tab X 15 [.p (.str (ba s))] [] = some (parsR none) :=
  run_of (hX _ rfl) (by
    have hcl := cutC_len 10 all
    obtain ⟨R, hR, hok⟩ := c28 X hX hT (cutC 10 all).1 [112, 105, 99, 116, 117, 114, 101] (by omega) 2 (by omega)
    rw [e15]
    exact bindS h40 (bindS (hT.cut all hs) (bindS hR rfl)))
end
end Go.Skm.Drw
