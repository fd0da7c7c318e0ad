/-
  An argument that is a figure: its shapes; condition: a value of Go.
-/
import Derived.Test.YtipkmkmngcjdbaaGreatDoorF8
import Derived.Test.YtipkmkmngcjdbaaGreatDoorSkmE
namespace Go.Skm.Fig
open Go Go.Skm
section
variable {P:Program} {w:World} {M:Nat→Prop}
theorem X7 {x:PV} {v:Value} (h:VR w M x v) (h1:kindOk (.slice true kV) x=true) (h2:x.wf):∃ l:List V3,x=.list true kV (bJ l):=by
 cases x<;>simp only[kindOk,Bool.false_eq_true]at h1
 · rename_i a ks xs
   simp only[Bool.and_eq_true,beq_iff_eq]at h1
   obtain⟨rfl,h3⟩:=h1
   have h3:=Kd.jY _ _ h3
   subst h3
   simp only[PV.wf]at h2
   have hsh:∀ y∈xs,aA true kV y=true:=by
    cases h with
    | list _ _ _ b o cap f _ _ _ _ hs=>exact hs
    | kD _ _ base cap=>simp
   obtain⟨l,rfl,_⟩:=Vg hsh h2.2
   exact⟨l,rfl⟩
 · exact h2.elim
theorem zW {x:PV} (h:kindOk (.int .i64) x=true):∃ n:Int,x=.int .i64 n:=by
 cases x<;>simp[kindOk]at h
 subst h
 exact⟨_,rfl⟩
theorem X8 {x:PV} (h:aA true kS x=true) (hw:x.wf) (hv:∀ (j:Nat) (c:PV),x.cells[j]?=some c→∃ v,VR w M c v):∃ s:Sh,x=eS s:=by
 cases x<;>simp only[aA,Bool.false_eq_true]at h
 rename_i cs
 match cs,h,hw,hv with
 | [a,b,c,d,e,f],h,hw,hv =>
  simp only[bH,Bool.and_true,Bool.and_eq_true]at h
  obtain⟨ha,hb,hc,hd,he,hf⟩:=h
  simp only[PV.wf,PV.wfs,and_true]at hw
  obtain⟨ka,rfl⟩:=zW ha
  obtain⟨kc,rfl⟩:=zW hc
  obtain⟨kd,rfl⟩:=zW hd
  obtain⟨ke,rfl⟩:=zW he
  obtain⟨kf,rfl⟩:=zW hf
  obtain⟨v,hv1⟩:=hv 1 b rfl
  obtain⟨l,rfl⟩:=X7 hv1 hb hw.2.1
  exact⟨⟨ka,l,kc,kd,ke,kf⟩,rfl⟩
 | [],h,_,_=>simp[bH]at h
 | [_],h,_,_=>simp[bH]at h
 | [_,_],h,_,_=>simp[bH]at h
 | [_,_,_],h,_,_=>simp[bH]at h
 | [_,_,_,_],h,_,_=>simp[bH]at h
 | [_,_,_,_,_],h,_,_=>simp[bH]at h
 | _::_::_::_::_::_::_::_,h,_,_=>simp[bH]at h
theorem Nc:∀ {xs:List PV},(∀ x∈xs,aA true kS x=true)→PV.wfs xs→(∀ x∈xs,∀ (j:Nat) (c:PV),x.cells[j]?=some c→∃ v,VR w M c v)→∃ f:List Sh,xs=dh f
 | [],_,_,_=>⟨[],rfl⟩
 | x::xs,h,hw,hv=>by
  obtain⟨s,rfl⟩:=X8 (h x (by simp)) hw.1 (hv x (by simp))
  obtain⟨f,rfl⟩:=Nc (fun y hy=>h y (by simp[hy])) hw.2 (fun y hy=>hv y (by simp[hy]))
  exact⟨s::f,rfl⟩
theorem X9 {x:PV} {v:Value} {t:TypeId} (ht:aX P 8 t=(false,[.slice true kS])) (h:VR w M x v) (h1:aA (aX P 8 t).1 (aX P 8 t).2 x=true) (h2:x.wf):∃ f:List Sh,x=.list true kS (dh f)∧f.length≤9223372036854775807:=by
 rw[ht]at h1
 simp only[aA]at h1
 cases x<;>simp only[kindOk,Bool.false_eq_true]at h1
 · rename_i a ks xs
   simp only[Bool.and_eq_true,beq_iff_eq]at h1
   obtain⟨rfl,h3⟩:=h1
   have h3:=Kd.jY _ _ h3
   subst h3
   simp only[PV.wf]at h2
   obtain⟨f,rfl⟩:∃ f:List Sh,xs=dh f:=by
    cases h with
    | list _ _ _ b o cap f _ _ _ hv hs =>
     refine Nc (w:=w) (M:=M) hs h2.2 fun x hx j c hc=>?_
     obtain⟨i,hi⟩:=List.getElem?_of_mem hx
     exact⟨_,hv i x j c hi hc⟩
    | kD _ _ base cap=>exact⟨[],rfl⟩
   exact⟨f,rfl,by have:=h2.1;rw[bg]at this;exact this⟩
 · exact h2.elim
end
end Go.Skm.Fig
