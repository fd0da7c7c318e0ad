/-
  Nine lines of 4096 points, and one point more; no condition.
-/
import Derived.Test.YtipkmkmngcjdbaaGreatDoorF21
namespace Go.Skm.Fig
open Go Go.Skm
def nI (i:Nat):Nat:=if i=8 then 87 else 500
def lineI (i:Nat):Sh:=⟨2,[⟨0,i,0⟩,⟨nI i,i,0⟩],nI i,0,0,0⟩
def manyK:List Sh:=(List.range 9).map lineI
def rowJ (j:Nat):List V3:=(List.range (bif Nat.ble j 87 then 9 else 8)).map fun i:Nat=>⟨(j:Int),(i:Int),0⟩
def mS:List V3:=(List.range 501).flatMap rowJ
def chk:List V3→Bool
 | a::b::r=>decide (cmpV a b=-1)&&chk (b::r)
 | _=>true
theorem chk_up:∀ {l:List V3},chk l=true→Up l
 | [],_=>List.Pairwise.nil
 | [a],_=>List.pairwise_singleton _ _
 | a::b::r,h=>by
  simp only[chk,Bool.and_eq_true,decide_eq_true_eq]at h
  have ih:=chk_up h.2
  refine List.pairwise_cons.2 ⟨fun c hc=>?_,ih⟩
  rcases List.mem_cons.1 hc with rfl | hc
  · exact h.1
  · exact lt_trans h.1 ((List.pairwise_cons.1 ih).1 c hc)
theorem mS_len:mS.length=4096:=by decide +kernel
theorem mS_up:Up mS:=chk_up (by decide +kernel)
theorem mS_mem {v:V3}:v∈mS↔∃ i j:Nat,i<9∧j≤nI i∧v=⟨j,i,0⟩:=by
 unfold mS
 rw[List.mem_flatMap]
 constructor
 · rintro ⟨j,hj,h⟩
   unfold rowJ at h
   rw[List.mem_map]at h
   obtain⟨i,hi,rfl⟩:=h
   rw[List.mem_range]at hi hj
   refine⟨i,j,?_,?_,rfl⟩
   · cases hb:Nat.ble j 87<;>rw[hb]at hi<;>simp only[cond_true,cond_false]at hi<;>omega
   · unfold nI
     split
     · next h8 =>
       cases hb:Nat.ble j 87
       · rw[hb]at hi;simp only[cond_false]at hi;omega
       · exact Nat.le_of_ble_eq_true hb
     · omega
 · rintro ⟨i,j,hi,hj,rfl⟩
   refine⟨j,?_,?_⟩
   · rw[List.mem_range];unfold nI at hj;split at hj<;>omega
   · unfold rowJ
     rw[List.mem_map]
     refine⟨i,?_,rfl⟩
     rw[List.mem_range]
     cases hb:Nat.ble j 87 with
     | true=>exact hi
     | false =>
      simp only[cond_false]
      unfold nI at hj
      split at hj
      · rw[Nat.ble_eq_true_of_le hj]at hb;cases hb
      · omega
theorem btwI {n i j:Nat} (hn:1≤n):btw ⟨0,i,0⟩ ⟨n,i,0⟩ (j:Int) (n:Int)=⟨j,i,0⟩:=by
 have h0:rnd 0 (n:Int)=0:=by
  unfold rnd
  exact ediv_uniq (by omega) (by omega) (by omega)
 have h1:rnd (((n:Int)-0)*(j:Int)) (n:Int)=j:=by
  unfold rnd
  rw[Int.sub_zero]
  have e:2*((n:Int)*(j:Int))=2*(n:Int)*(j:Int):=(Int.mul_assoc ..).symm
  refine ediv_uniq (by omega) ?_ ?_
  · rw[e];omega
  · rw[e];omega
 unfold btw btw1
 simp only[h1,Int.sub_self,Int.zero_mul,h0,Int.add_zero,Int.zero_add]
theorem lineI_mem {i:Nat} {v:V3}:v∈ptsS (lineI i)↔∃ j:Nat,j≤nI i∧v=⟨j,i,0⟩:=by
 have e:ptsS (lineI i)=lineP ⟨0,i,0⟩ ⟨nI i,i,0⟩ (nI i)++[]:=rfl
 have hn:1≤nI i:=by unfold nI;split<;>decide
 rw[e,List.append_nil]
 unfold lineP seg
 rw[List.mem_map]
 constructor
 · rintro ⟨j,hj,rfl⟩
   rw[List.mem_range'_1]at hj
   exact⟨j,by omega,btwI hn⟩
 · rintro ⟨j,hj,rfl⟩
   exact⟨j,by rw[List.mem_range'_1];omega,btwI hn⟩
theorem many_mem {v:V3}:v∈ptsF manyK↔v∈mS:=by
 rw[mS_mem]
 unfold ptsF manyK
 simp only[List.mem_flatMap,List.mem_map,List.mem_range]
 constructor
 · rintro ⟨s,⟨i,hi,rfl⟩,h⟩
   obtain⟨j,h1,h2⟩:=lineI_mem.1 h
   exact⟨i,j,hi,h1,h2⟩
 · rintro ⟨i,j,hi,h1,h2⟩
   exact⟨lineI i,⟨i,hi,rfl⟩,lineI_mem.2 ⟨j,h1,h2⟩⟩
theorem mS_pnt {v:V3} (h:v∈mS):pnt v=true:=by
 obtain⟨i,j,hi,hj,rfl⟩:=mS_mem.1 h
 have:nI i≤500:=by unfold nI;split<;>omega
 exact pnt_iff.2 ⟨by constructor<;>simp only<;>omega,by constructor<;>simp only<;>omega,by constructor<;>simp only<;>omega⟩
theorem many_fig:figB manyK=true:=by decide +kernel
theorem many_pts:ptsR manyK=(mS,0):=by
 have hs:sdL (ptsF manyK)=mS:=(sdL_eq mS_up fun v=>many_mem.symm).symm
 unfold ptsR
 rw[if_pos many_fig]
 unfold ptsE
 rw[if_pos fun v hv=>mS_pnt (many_mem.1 hv),hs,if_neg (by rw[mS_len];omega)]
def dotsI:Sh:=⟨1,[⟨0,9,9⟩],0,0,0,0⟩
theorem more_fig:figB (manyK++[dotsI])=true:=by decide +kernel
theorem more_pts:ptsR (manyK++[dotsI])=([],7):=by
 have ha:ptsF (manyK++[dotsI])=ptsF manyK++[⟨0,9,9⟩]:=by
  unfold ptsF;rw[List.flatMap_append];rfl
 unfold ptsR
 rw[if_pos more_fig,ha]
 unfold ptsE
 rw[if_pos ?_,if_pos ?_]
 · have h1 : ((⟨0,9,9⟩ : V3)::mS).length ≤ (sdL (ptsF manyK ++ [⟨0,9,9⟩])).length := by
     refine List.Nodup.length_le_of_subset (List.nodup_cons.2 ⟨?_,mS_up.nodup⟩) ?_
     · intro h
       obtain⟨i,j,hi,hj,e⟩:=mS_mem.1 h
       simp only[V3.mk.injEq]at e
       omega
     · intro v hv
       rw[sdL_mem,List.mem_append,List.mem_singleton]
       rcases List.mem_cons.1 hv with h | h
       · exact .inr h
       · exact .inl (many_mem.2 h)
   rw[List.length_cons,mS_len]at h1
   omega
 · intro v hv
   rcases List.mem_append.1 hv with h | h
   · exact mS_pnt (many_mem.1 h)
   · rw[List.mem_singleton]at h
     rw[h];decide
end Go.Skm.Fig
