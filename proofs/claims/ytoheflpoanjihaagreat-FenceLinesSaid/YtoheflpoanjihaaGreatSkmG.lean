import Derived.Test.YtoheflpoanjihaaGreatSkmD
import Derived.Below
set_option linter.all false
namespace Go.Skm
open Go.RowKit
variable {P:Program}{T:Tab}{gl:Option (List (Nat × Obj))}{f:Nat}
abbrev ExtFn:=List AV->List Blk->Option (List AV × List Blk)
def ExtOk1(P:Program)(T:Tab)(gl:Option (List (Nat × Obj)))(f:Nat)(s:ExtFn):Prop:=
 ∀ fi args bl rs bl',tlook T.funcs f=some fi->s args bl=some (rs,bl')->(∃ c,fi.fn.body=some c)/\(∀ b∈bl,pureBlk b=true) /\
  ∀(w:World) (M:Nat->Prop) (β:Nat->Option (Nat × Nat)) (cargs:Array Value),(∀ p∈gl.getD [],M p.1/\w.heap[p.1]?=some p.2)->CallPre w M β args bl cargs ->
   Calls P f cargs w λe w'=>∃ cs ps M',e=.returned (wrapV cs)/\CallPost gl T fi w M β bl rs bl' w' M' cs ps
def extL(l:List (Nat × ExtFn)):Ext:=λf=>tlook l f
theorem extOk_nil(h:∀ w:World,(∀ p∈gl.getD [],w.heap[p.1]?=some p.2)->T.glob gl.isSome w):ExtOk P T gl (extL []):=⟨h,λ_ _ _ _ _ _ _ _ _ h=>(by cases h),λ_ _ _ _ _ _ _ _ h=>(by cases h)⟩
def Mc(P:Program)(T:Tab)(gl:Option (List (Nat × Obj)))(f:Nat)(s:ExtFn):Prop:=
 ∀ fi args bl r,tlook T.funcs f=some fi->s args bl=some r->∃ caps,args=.yld::caps.map .p/\bl=[.log true []]/\P.funcs[f]?=some fi.fn/\IterOk P gl f caps (logOf r.2)
theorem DU{s:ExtFn}{l:List (Nat × ExtFn)}(m:(cfgOf T f).gext=false->ExtOk1 P T gl f s)(k:(cfgOf T f).gext=true->Mc P T gl f s)(i:ExtOk P T gl (extL l)):ExtOk P T gl (extL ((f,s)::l)):=by
 refine⟨i.1,?_,?_⟩
 . intro g fi d args bl j bl' c b a h;unfold extL at a;rw[tlook]at a;by_cases e:f=g
   . subst e;rw[beq_self_eq_true,qCt]at a;cases a;exact m (by unfold cfgOf;rw[c];exact b) fi args bl j bl' c h
   . rw[show(f==g)=false from by simpa using e,qCf]at a;exact i.2.1 g fi d args bl j bl' c b a h
 . intro g fi d args bl r c b a h;unfold extL at a;rw[tlook]at a;by_cases e:f=g
   . subst e;rw[beq_self_eq_true,qCt]at a;cases a;exact k (by unfold cfgOf;rw[c];exact b) fi args bl r c h
   . rw[show(f==g)=false from by simpa using e,qCf]at a;exact i.2.2 g fi d args bl r c b a h
theorem extOk_cons{s:ExtFn}{l:List (Nat × ExtFn)}(c:(cfgOf T f).gext=false)(b:ExtOk1 P T gl f s)(a:ExtOk P T gl (extL l)):ExtOk P T gl (extL ((f,s)::l)):=
 DU (λ_=>b) (λh=>by rw[c]at h;cases h) a
theorem JL{s:ExtFn}{l:List (Nat × ExtFn)}(c:(cfgOf T f).gext=true)(b:Mc P T gl f s)(a:ExtOk P T gl (extL l)):ExtOk P T gl (extL ((f,s)::l)):=
 DU (λh=>by rw[c]at h;cases h) (λ_=>b) a
section
variable {P:Program} {T:Tab} {gl:Option (List (Nat × Obj))} {fi:FI} {w w':World} {M:Nat->Prop} {β:Nat->Option (Nat × Nat)} {cargs:Array Value}
theorem cargs_one{x:PV}(h:CallPre w M β [.p x] [] cargs):∃ v,cargs=#[v]/\VR w M x v:=by
 have b:=h.args 0 _ rfl;have a:cargs.size=1:=h.num;refine⟨cargs[0],?_,?_⟩
 . apply Array.ext
   . simpa using a
   . intro i g d;have:i=0:=by omega
     subst this;rfl
 . have e:cargs.getD 0 undef=cargs[0]:=by simp[Array.getD,a]
   rw[e]at b;cases b with
   | p _ _ c=>exact c
end
end Go.Skm
