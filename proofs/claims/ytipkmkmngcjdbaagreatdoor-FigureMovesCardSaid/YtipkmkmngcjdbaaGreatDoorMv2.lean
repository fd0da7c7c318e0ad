/-
  Move, walked; condition: the calls answer as said.
-/
import Derived.Test.YtipkmkmngcjdbaaGreatDoorMv1
namespace Go.Skm.Fig
open Go Go.Skm Go.Proofs Go.RowKit Go.Shelf Go.Sort
theorem BH (rd:Option Nat):(FW rd).round=rd:=rfl
attribute [local go_sem] Oper.semAt_some BH
abbrev vV (v:V3):Value:=.agg #[.int .i64 v.x,.int .i64 v.y,.int .i64 v.z]
def tJ (w:World) (f:Nat) (args:Array Value) (b:Bool):Prop:=∀ W,Below w.heap.size w W→Calls Tryz.prog f args W fun e W'=>e=.returned (.bool b)∧Below W.heap.size W W'
theorem cells3 {W:World} {b:Nat} {x y z:Value} {t:TypeId} (h:W.heap[b]?=some (.cells #[x,y,z] t (0,0))):W.cell? ⟨b,0,none⟩=some x∧W.cell? ⟨b,1,none⟩=some y∧W.cell? ⟨b,2,none⟩=some z:=by
 refine⟨?_,?_,?_⟩<;>simp[World.cell?,h]
theorem box1 (W:World) (o:Obj) {W1:World} (hb:Below (W.alloc o).heap.size (W.alloc o) W1):W1.heap[W.heap.size]?=some o∧Below W.heap.size W W1:=by
 refine⟨(hb.block _ (by simp)).trans (World.alloc_heap_new W _),((Below.refl _ W).alloc (Nat.le_refl _) _).trans (hb.mono (by simp))⟩
set_option maxRecDepth 100000 in
set_option maxHeartbeats 4000000 in
theorem aaN {w : World} {f : List Sh} {vf : Value} {tK : V3} (hb : uV f = false ∨ oM 16777216 tK = false) (k28 : tJ w 28 #[vf] (uV f)) (k47 : tJ w 47 #[vV tK] (oM 16777216 tK)) (R : Ending → World → Prop)
    (hR:∀ W,Below w.heap.size w W→R (.returned (.tuple #[.slice none 0 0,.int .i64 2])) W):Calls Tryz.prog 22 #[vf,vV tK] w R:=by
  have h28:(FW none).fn 28:=trivial
  have h47:(FW none).fn 47:=trivial
  refine mM (rd:=none) (n:=0) (callsIn_of_wp_marks Tryz.func22 rfl trivial ?_)
  simp only[Tryz.ntmps22,List.size_toArray,List.length_cons,List.length_nil,Nat.reduceAdd,Nat.reduceSub,Array.replicate_succ,Array.replicate_zero,List.push_toArray,List.append_toArray,List.nil_append,List.cons_append]
  gi_wp2
  refine⟨rfl,(bW none (k28 _ ((Below.refl _ w).alloc (Nat.le_refl _) _))).mono ?_⟩
  rintro e W1 ⟨rfl,hb1⟩
  obtain⟨hP,hB1⟩:=box1 w _ hb1
  obtain⟨y0,y1,y2⟩:=cells3 hP
  clear hb1 hP
  dsimp only
  have hres:Tryz.f22.results=#[.tmp 4,.tmp 5]:=rfl
  cases hfb:uV f with
  | false =>
   gi_wp2
   show LeavesInM (FW none) 0 Tryz.prog Tryz.f22 _ R [] .returning W1
   exact⟨.tuple #[.slice none 0 0,.int .i64 2],by simp[results],hR _ hB1⟩
  | true =>
   have hbm:oM 16777216 tK=false:=by rw[hfb]at hb;simpa using hb
   rw[hbm]at k47
   gi_wp2
   refine⟨rfl,(bW none (k47 _ hB1)).mono ?_⟩
   rintro e W2 ⟨rfl,hb2⟩
   dsimp only
   gi_wp2
   show LeavesInM (FW none) 0 Tryz.prog Tryz.f22 _ R [] .returning W2
   exact⟨.tuple #[.slice none 0 0,.int .i64 2],by simp[results],hR _ (hB1.trans (hb2.mono hB1.size))⟩
end Go.Skm.Fig
