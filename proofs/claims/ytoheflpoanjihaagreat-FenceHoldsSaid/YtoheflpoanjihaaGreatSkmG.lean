import Derived.Test.YtoheflpoanjihaaGreatSkmD
import Derived.Below
set_option linter.all false
namespace Go.Skm
open Go.RowKit
variable {P:Program}{T:Tab}{gl:Option (List (Nat × Obj))}{f:Nat}
abbrev IV:=List AV->List bZ->Option (List AV × List bZ)
def UN(P:Program)(T:Tab)(gl:Option (List (Nat × Obj)))(f:Nat)(s:IV):Prop:=
 ∀ fi args bl rs nJ,dZ T.funcs f=some fi->s args bl=some (rs,nJ)->(∃ c,fi.fn.body=some c)/\(∀ b∈bl,iI b=true) /\
  ∀(w:World) (M:Nat->Prop) (β:Nat->Option (Nat × Nat)) (bF:Array Value),(∀ p∈gl.getD [],M p.1/\w.heap[p.1]?=some p.2)->wI w M β args bl bF ->
   Calls P f bF w λe w'=>∃ cs ps M',e=.returned (BN cs)/\Ku gl T fi w M β bl rs nJ w' M' cs ps
def MB(l:List (Nat × IV)):Ext:=λf=>dZ l f
theorem agC(h:∀ w:World,(∀ p∈gl.getD [],w.heap[p.1]?=some p.2)->T.glob gl.isSome w):vF P T gl (MB []):=⟨h,λ_ _ _ _ _ _ _ _ _ h=>(by cases h),λ_ _ _ _ _ _ _ _ h=>(by cases h)⟩
def adN(P:Program)(T:Tab)(gl:Option (List (Nat × Obj)))(f:Nat)(s:IV):Prop:=
 ∀ fi args bl r,dZ T.funcs f=some fi->s args bl=some r->∃ caps,args=.yL::caps.map .p/\bl=[.log true []]/\P.funcs[f]?=some fi.fn/\QL P gl f caps (uY r.2)
theorem TL{s:IV}{l:List (Nat × IV)}(m:(pI T f).gext=false->UN P T gl f s)(k:(pI T f).gext=true->adN P T gl f s)(i:vF P T gl (MB l)):vF P T gl (MB ((f,s)::l)):=by
 refine⟨i.1,?_,?_⟩
 . intro g fi d args bl j nJ c b a h;unfold MB at a;rw[dZ]at a;by_cases e:f=g
   . subst e;rw[beq_self_eq_true,qCt]at a;cases a;exact m (by unfold pI;rw[c];exact b) fi args bl j nJ c h
   . rw[show(f==g)=false from by simpa using e,qCf]at a;exact i.2.1 g fi d args bl j nJ c b a h
 . intro g fi d args bl r c b a h;unfold MB at a;rw[dZ]at a;by_cases e:f=g
   . subst e;rw[beq_self_eq_true,qCt]at a;cases a;exact k (by unfold pI;rw[c];exact b) fi args bl r c h
   . rw[show(f==g)=false from by simpa using e,qCf]at a;exact i.2.2 g fi d args bl r c b a h
theorem Ht{s:IV}{l:List (Nat × IV)}(c:(pI T f).gext=false)(b:UN P T gl f s)(a:vF P T gl (MB l)):vF P T gl (MB ((f,s)::l)):=
 TL (λ_=>b) (λh=>by rw[c]at h;cases h) a
theorem abr{s:IV}{l:List (Nat × IV)}(c:(pI T f).gext=true)(b:adN P T gl f s)(a:vF P T gl (MB l)):vF P T gl (MB ((f,s)::l)):=
 TL (λh=>by rw[c]at h;cases h) (λ_=>b) a
section
variable {P:Program} {T:Tab} {gl:Option (List (Nat × Obj))} {fi:FI} {w w':World} {M:Nat->Prop} {β:Nat->Option (Nat × Nat)} {bF:Array Value}
theorem ah6{x:PV}(h:wI w M β [.p x] [] bF):∃ v,bF=#[v]/\VR w M x v:=by
 have a:=h.args 0 _ rfl;have c:bF.size=1:=h.num;refine⟨bF[0],?_,?_⟩
 . grind
 . have e:bF.getD 0 undef=bF[0]:=by simp[Array.getD,c]
   rw[e]at a;cases a with
   | p _ _ b=>exact b
end
end Go.Skm
