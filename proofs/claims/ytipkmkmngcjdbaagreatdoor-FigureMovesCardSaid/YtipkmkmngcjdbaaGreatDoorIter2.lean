/-
  The library's iterator over the keys of a set of vectors, walked: each key comes once, in some order; condition: the set lies in the memory.
-/
import Derived.Test.YtipkmkmngcjdbaaGreatDoorIter1
namespace Go.Skm
open Go Go.Proofs Go.RowKit Go.Maps Go.Sort Go.Shelf
set_option maxRecDepth 100000 in
set_option maxHeartbeats 1000000 in
theorem acC (F : Fence) (n : Nat) (h10 : F.fn 64) (hro : F.round = none) (hn : 1 ≤ n) (l Bm bo b : Nat) (ks : List V3) (J : List V3 → World → Prop)
    (hY:∀ pre x W,J pre W→pre.length<ks.length→YieldAt F (n-1) Tryz.prog l #[qI x] W fun e W'=>e=.returned (.bool true)∧J (pre++[x]) W'∧KeepsWalks W W')
    (W:World) (hJ:AbidesFrom W.heap.size J) (hm:W.cell? ⟨Bm,bo,none⟩=some (.map (some b))) (hown:MapKeys W b ks) (h0:J [] W) :
    CallsIn F n Tryz.prog 64 #[.func (.yield l) #[] #[],.pointer (some ⟨Bm,bo,none⟩)] W fun e W'=>(∃ v,e=.returned v)∧∃ ss:List V3,ss.Perm ks∧J ss W':=by
  refine callsIn_of_wp Tryz.func64 rfl h10 ?_ hro
  simp only[Tryz.ntmps64,List.size_toArray,List.length_cons,List.length_nil,Nat.reduceAdd,Nat.reduceSub,Array.replicate_succ,Array.replicate_zero,List.push_toArray,List.append_toArray,List.nil_append,List.cons_append]
  gi_wp2_with (first
   | (gi_at_range;refine CQ _ rfl _ 58 rfl 43 4 Tryz.underlying58 b ks rfl hown ?_;intro w0 hrg0 hg0 hs0)
   | gi_in)
  go_frame
  gi_loopw [3] (fun _ wr=>∃ (cnt:Nat) (ss:List V3),lH wr b W.heap.size ks ss cnt∧J ss wr)
   (fun _ wr=>wr.rangeLeft b W.heap.size)
  case atStart =>
   exact⟨_,[],hrg0,hJ [] W w0 none h0 hg0 (fun r e=>by cases e)⟩
  case round =>
   obtain⟨cnt,ss,hrg,hJs⟩:=hrel
   gi_wp2_with (first
    | (gi_at_next;refine Dz _ rfl _ rfl b W.heap.size ks ss cnt rfl hrg ?_ ?_)
    | gi_in)
   · intro hp
     gi_wp2
     go_end0
     exact⟨⟨_,rfl⟩,ss,hp,hJs⟩
   · intro v x w2 cnt2 hrg2 hlt hle hg2 hs2 hen
     have hJ2:J ss w2:=hJ ss wr w2 (some W.heap.size) hJs hg2 (fun r e=>by cases e;exact⟨Nat.le_refl _,hrg.iter_walk⟩)
     have hrg2':=hrg2.of_walks (KeepsWalks.alloc w2 (.cells #[.int .i64 v.x,.int .i64 v.y,.int .i64 v.z] 43))
     have hJ3:=hJ ss w2 _ none hJ2 (World.grownBy_alloc w2 (.cells #[.int .i64 v.x,.int .i64 v.y,.int .i64 v.z] 43) none) (fun r e=>by cases e)
     obtain⟨fn,tmps,assign,body,hy,hR⟩:=hY ss v _ hJ3 hle
     unfold qI at hen hy ⊢
     clear hs2
     gi_wp2
     refine hR.mono ?_
     rintro e W3 ⟨rfl,hJ4,hk3⟩
     gi_wp2
     have hrg3:=hrg2'.of_walks hk3
     go_roundw
     case rel=>exact⟨cnt2,ss++[v],hrg3,hJ4⟩
     case measure=>rw[hrg3.left_eq,hrg.left_eq];exact hlt
end Go.Skm
