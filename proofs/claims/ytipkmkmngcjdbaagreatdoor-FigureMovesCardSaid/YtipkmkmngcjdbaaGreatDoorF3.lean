/-
  Equal lists, membership, the nearest point, the cover and the spread of a set: program and document; condition: lists that fit.
-/
import Derived.Test.YtipkmkmngcjdbaaGreatDoorF2
namespace Go.Skm.Fig
open Go Go.Skm
theorem at_eq {l:List V3} {i:Nat} (h:i<l.length):at_ l i=l[i]:=by unfold at_;rw[List.getD_eq_getElem?_getD];simp[h]
theorem drop_at {l:List V3} {i:Nat} (h:i<l.length):l.drop i=at_ l i::l.drop (i+1):=by rw[List.drop_eq_getElem_cons h,at_eq h]
theorem at_mem {l:List V3} {i:Nat} (h:i<l.length):at_ l i∈l:=by rw[at_eq h];exact List.getElem_mem h
theorem acz {l:List V3} {v:V3} (h:v∈l):∃ i,i<l.length∧v=at_ l i:=by
 obtain⟨i,hi,e⟩:=List.getElem_of_mem h
 exact⟨i,hi,by rw[at_eq hi,e]⟩
theorem acA {a b:List V3} (h:a.length=b.length) (h2:∀ j,j<a.length→at_ a j=at_ b j):a=b:=by
 apply List.ext_getElem h
 intro j h1 h3
 have:=h2 j h1
 rwa[at_eq h1,at_eq h3]at this
theorem veq (a b:V3):((a.x==b.x)&&((a.y==b.y)&&((a.z==b.z)&&true)))=decide (a=b):=by
 rw[Bool.eq_iff_iff]
 simp only[Bool.and_true,Bool.and_eq_true,beq_iff_eq,decide_eq_true_eq]
 constructor
 · intro h;exact V3.ext' h.1 h.2.1 h.2.2
 · intro h;rw[h];exact⟨rfl,rfl,rfl⟩
theorem lS {l:List V3}:zU l=true↔∀ v∈l,vU v=true:=by
 unfold zU
 rw[Ht]
 constructor
 · intro h v hv
   obtain⟨i,hi,rfl⟩:=acz hv
   exact h i (by omega) hi
 · intro h j _ hj
   exact h _ (at_mem hj)
section
variable (X:Ext) (hX:Mine X)
include hX
omit hX in
theorem l12 (a b:List V3) (hl:a.length≤2147483648) (hab:a.length=b.length):∀ m i,i+m=a.length→L tab (run tab X) 16 [] [.lp [1,1,0,1,0]] (BA (bJ a) (bJ b) (i:Int))=some ([.p (.bool (oz (fun j=>decide (at_ a j=at_ b j)) i a.length))],[]):=by
 intro m
 induction m with
 | zero =>
  intro i hi
  refine dQ ?_
  rw[Nj,Ap (by omega)];exact bM (by rw[aQ];omega) rfl
 | succ m ih =>
  intro i hi
  have hlt:i<a.length:=by omega
  refine dQ ?_
  rw[Nj]
  refine bT (by rw[aQ];omega) (jV (by rw[aQ];exact gd hlt) (jV (by rw[aQ];exact gd (by omega)) ?_))
  simp only[tn,pV,pW,pX,veq,X6 (show i<1099511627776 by omega)]
  rw[tX hlt,ih (i+1) (by omega)]
  show cond (!decide (at_ a i=at_ b i)) _ _=_
  cases decide (at_ a i=at_ b i)<;>rfl
theorem c16 (a b:List V3) (hl:a.length≤2147483648):run tab X 16 [.p (.list true kV (bJ a)),.p (.list true kV (bJ b))] []=some ([.p (.bool (decide (a=b)))],[]) :=
 bK (hX _ rfl) (by
  rw[e16]
  by_cases h:a.length=b.length
  · refine oI (by rw[aQ,aQ,h]) ?_
    refine(l12 X a b hl h a.length 0 (by omega)).trans ?_
    have:oz (fun j=>decide (at_ a j=at_ b j)) 0 a.length=decide (a=b):=by
     rw[Bool.eq_iff_iff,Ht]
     simp only[decide_eq_true_eq]
     exact⟨fun h2=>acA h fun j hj=>h2 j (by omega) hj,fun h2 j _ _=>by rw[h2]⟩
    rw[this]
  · refine acw (by rw[aQ,aQ];omega) ?_
    have:¬ a=b:=fun e=>h (by rw[e])
    simp[this])
omit hX in
end
section
variable (X:Ext) (hX:Mine X)
include hX
end
end Go.Skm.Fig
