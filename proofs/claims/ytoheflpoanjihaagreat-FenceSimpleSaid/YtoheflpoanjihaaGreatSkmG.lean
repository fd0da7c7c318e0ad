import Derived.Test.YtoheflpoanjihaaGreatSkmE
import Derived.Below
namespace Go.Skm
open Go.RowKit
abbrev EW:=List AV→List cu→Option (List AV × List cu)
def Pg (P:Program) (T:Tab) (gl:Option (List (Nat × Obj))) (f:Nat) (s:EW):Prop :=
 ∀ fi args bl rs jX,dN T.funcs f=some fi→s args bl=some (rs,jX)→(∃ c,fi.fn.body=some c)∧(∀ b∈bl,gI b=true) ∧
  ∀ (w:World) (M:Nat→Prop) (β:Nat→Option (Nat × Nat)) (aY:Array Value),(∀ p∈gl.getD [],M p.1∧w.heap[p.1]?=some p.2)→tZ w M β args bl aY →
   Calls P f aY w fun e w'=>∃ cs ps M',e=.returned (vF cs)∧DZ gl T fi w M β bl rs jX w' M' cs ps
def II (l:List (Nat × EW)):Ext:=fun f=>dN l f
theorem abA {P:Program} {T:Tab} {gl:Option (List (Nat × Obj))} (h:∀ w:World,(∀ p∈gl.getD [],w.heap[p.1]?=some p.2)→T.glob gl.isSome w):sF P T gl (II []):=⟨h,fun _ _ _ _ _ _ _ _ _ h=>(by cases h),fun _ _ _ _ _ _ _ _ h=>(by cases h)⟩
def Y3 (P:Program) (T:Tab) (gl:Option (List (Nat × Obj))) (f:Nat) (s:EW):Prop :=
 ∀ fi args bl r,dN T.funcs f=some fi→s args bl=some r→∃ caps,args=.vN::caps.map .p∧bl=[.log true []]∧P.funcs[f]?=some fi.fn∧L9 P gl f caps (pV r.2)
theorem Ol {P:Program} {T:Tab} {gl:Option (List (Nat × Obj))} {f:Nat} {s:EW} {l:List (Nat × EW)} (h1:(jo T f).gext=false→Pg P T gl f s) (h3:(jo T f).gext=true→Y3 P T gl f s) (h2:sF P T gl (II l)):sF P T gl (II ((f,s)::l)):=by
 refine⟨h2.1,?_,?_⟩
 · intro g fi s' args bl rs jX hf hge hX h;unfold II at hX;rw[dN]at hX;by_cases e:f=g
   · subst e;rw[beq_self_eq_true,cond_true]at hX;cases hX;exact h1 (by unfold jo;rw[hf];exact hge) fi args bl rs jX hf h
   · rw[show (f==g)=false from by simpa using e,cond_false]at hX;exact h2.2.1 g fi s' args bl rs jX hf hge hX h
 · intro g fi s' args bl r hf hge hX h;unfold II at hX;rw[dN]at hX;by_cases e:f=g
   · subst e;rw[beq_self_eq_true,cond_true]at hX;cases hX;exact h3 (by unfold jo;rw[hf];exact hge) fi args bl r hf h
   · rw[show (f==g)=false from by simpa using e,cond_false]at hX;exact h2.2.2 g fi s' args bl r hf hge hX h
theorem Ee {P:Program} {T:Tab} {gl:Option (List (Nat × Obj))} {f:Nat} {s:EW} {l:List (Nat × EW)} (h0:(jo T f).gext=false) (h1:Pg P T gl f s) (h2:sF P T gl (II l)):sF P T gl (II ((f,s)::l)) :=
 Ol (fun _=>h1) (fun h=>by rw[h0]at h;cases h) h2
theorem Xb {P:Program} {T:Tab} {gl:Option (List (Nat × Obj))} {f:Nat} {s:EW} {l:List (Nat × EW)} (h0:(jo T f).gext=true) (h1:Y3 P T gl f s) (h2:sF P T gl (II l)):sF P T gl (II ((f,s)::l)) :=
 Ol (fun h=>by rw[h0]at h;cases h) (fun _=>h1) h2
section
variable {P:Program} {T:Tab} {gl:Option (List (Nat × Obj))} {fi:FI} {w w':World} {M:Nat→Prop} {β:Nat→Option (Nat × Nat)} {aY:Array Value}
theorem ac7 {x:PV} (h:tZ w M β [.p x] [] aY):∃ v,aY=#[v]∧VR w M x v:=by
 have h0:=h.args 0 _ rfl;have hs:aY.size=1:=h.num;refine⟨aY[0],?_,?_⟩
 · apply Array.ext
   · simpa using hs
   · intro i h1 h2;have:i=0:=by omega
     subst this;rfl
 · have e:aY.getD 0 undef=aY[0]:=by simp[Array.getD,hs]
   rw[e]at h0;cases h0 with
   | p _ _ hv=>exact hv
end
end Go.Skm
