/-
  An argument that is a program, an act, a name or a number; condition: a value of Go.
-/
import Derived.Test.YtfmoopdnamdobaaDoorP11
import Derived.Test.YtfmoopdnamdobaaDoorSkmF
import Derived.Test.YtfmoopdnamdobaaDoorSkmH
namespace Go.Skm.Prg
open Go Go.Skm
section
variable {P:Program} {w:World} {M:Nat→Prop}
theorem ba_of (s:ByteArray):ba s.data.toList=s:=by
 unfold ba
 simp
theorem list_of {x:PV} {v:Value} {a:Bool} {ks:List Kd} (h:VR w M x v) (h1:kindOk (.slice a ks) x=true) (h2:x.wf):∃ xs,x=.list a ks xs∧(∀ y∈xs,shapeOk a ks y=true)∧xs.length≤9223372036854775807∧PV.wfs xs∧∀ y∈xs,∀ (j:Nat) (c:PV),y.cells[j]?=some c→∃ u,VR w M c u:=by
 cases x<;>simp only[kindOk,Bool.false_eq_true]at h1
 · rename_i a' ks' xs
   simp only[Bool.and_eq_true,beq_iff_eq]at h1
   obtain⟨rfl,h3⟩:=h1
   have h3:=Kd.beqs_eq _ _ h3
   subst h3
   simp only[PV.wf]at h2
   refine⟨xs,rfl,?_,h2.1,h2.2,?_⟩
   · cases h with
     | list _ _ _ b o cap f _ _ _ _ hs=>exact hs
     | listE _ _ base cap=>simp
   · cases h with
     | list _ _ _ b o cap f _ _ _ hv _ =>
      intro y hy j c hc
      obtain⟨i,hi⟩:=List.getElem?_of_mem hy
      exact⟨_,hv i y j c hi hc⟩
     | listE _ _ base cap=>simp
 · exact h2.elim
theorem int_of {x:PV} (h:kindOk (.int .i64) x=true) (hw:x.wf):∃ n:Int,x=.int .i64 n∧i64 n:=by
 cases x<;>simp[kindOk]at h
 subst h
 exact⟨_,rfl,wf_i64.1 hw⟩
theorem str_of {x:PV} (h:kindOk .str x=true):∃ g:List UInt8,x=.str (ba g):=by
 cases x<;>simp[kindOk]at h
 exact⟨_,by rw[ba_of]⟩
theorem names_of:∀ {xs:List PV},(∀ x∈xs,shapeOk false [.str] x=true)→∃ l,xs=eN l
 | [],_=>⟨[],rfl⟩
 | x::xs,h=>by
  obtain⟨g,rfl⟩:=str_of (by simpa [shapeOk] using h x (by simp))
  obtain⟨l,rfl⟩:=names_of (xs:=xs) (fun y hy=>h y (List.mem_cons_of_mem _ hy))
  exact⟨g::l,rfl⟩
theorem move_of {x:PV} (h:shapeOk true kMv x=true) (hw:x.wf):∃ m:Mv,x=eM m:=by
 cases x<;>simp only[shapeOk,Bool.false_eq_true]at h
 rename_i cs
 match cs,h,hw with
 | [a,b,c,d,e,f],h,hw =>
  simp only[kindsOk,Bool.and_true,Bool.and_eq_true]at h
  obtain⟨ha,hb,hc,hd,he,hf⟩:=h
  simp only[PV.wf,PV.wfs,and_true]at hw
  obtain⟨w1,w2,w3,w4,w5,w6⟩:=hw
  obtain⟨ka,rfl,_⟩:=int_of ha w1
  obtain⟨kb,rfl,_⟩:=int_of hb w2
  obtain⟨kc,rfl,_⟩:=int_of hc w3
  obtain⟨kd,rfl,_⟩:=int_of hd w4
  obtain⟨ke,rfl,_⟩:=int_of he w5
  obtain⟨kf,rfl,_⟩:=int_of hf w6
  exact⟨⟨⟨ka,kb,kc⟩,kd,ke,kf⟩,rfl⟩
 | [],h,_=>simp[kindsOk]at h
 | [_],h,_=>simp[kindsOk]at h
 | [_,_],h,_=>simp[kindsOk]at h
 | [_,_,_],h,_=>simp[kindsOk]at h
 | [_,_,_,_],h,_=>simp[kindsOk]at h
 | [_,_,_,_,_],h,_=>simp[kindsOk]at h
 | _::_::_::_::_::_::_::_,h,_=>simp[kindsOk]at h
theorem moves_of:∀ {xs:List PV},(∀ x∈xs,shapeOk true kMv x=true)→PV.wfs xs→∃ l,xs=eMs l
 | [],_,_=>⟨[],rfl⟩
 | x::xs,h,hw=>by
  obtain⟨m,rfl⟩:=move_of (h x (by simp)) hw.1
  obtain⟨l,rfl⟩:=moves_of (fun y hy=>h y (by simp[hy])) hw.2
  exact⟨m::l,rfl⟩
theorem act_of {x:PV} (h:shapeOk true kAc x=true) (hw:x.wf) (hv:∀ (j:Nat) (c:PV),x.cells[j]?=some c→∃ v,VR w M c v):∃ a:Ac,x=eA a∧i64 a.len:=by
 cases x<;>simp only[shapeOk,Bool.false_eq_true]at h
 rename_i cs
 match cs,h,hw,hv with
 | [a,b,c],h,hw,hv =>
  simp only[kindsOk,Bool.and_true,Bool.and_eq_true]at h
  obtain⟨ha,hb,hc⟩:=h
  simp only[PV.wf,PV.wfs,and_true]at hw
  obtain⟨w1,w2,w3⟩:=hw
  obtain⟨g,rfl⟩:=str_of ha
  obtain⟨n,rfl,hn⟩:=int_of hb w2
  obtain⟨v,hv1⟩:=hv 2 c rfl
  obtain⟨xs,rfl,h1,h2,h3,h4⟩:=list_of hv1 hc w3
  obtain⟨l,rfl⟩:=moves_of h1 h3
  exact⟨⟨g,n,l⟩,rfl,hn⟩
 | [],h,_,_=>simp[kindsOk]at h
 | [_],h,_,_=>simp[kindsOk]at h
 | [_,_],h,_,_=>simp[kindsOk]at h
 | _::_::_::_::_,h,_,_=>simp[kindsOk]at h
theorem acts_of':∀ {xs:List PV},(∀ x∈xs,shapeOk true kAc x=true)→PV.wfs xs→(∀ x∈xs,∀ (j:Nat) (c:PV),x.cells[j]?=some c→∃ v,VR w M c v)→∃ l:List Ac,xs=eAs l∧∀ a∈l,i64 a.len
 | [],_,_,_=>⟨[],rfl,by simp⟩
 | x::xs,h,hw,hv=>by
  obtain⟨a,rfl,ha⟩:=act_of (h x (by simp)) hw.1 (hv x (by simp))
  obtain⟨l,rfl,hl⟩:=acts_of' (fun y hy=>h y (by simp[hy])) hw.2 (fun y hy=>hv y (by simp[hy]))
  exact⟨a::l,rfl,fun b hb=>by
   rcases List.mem_cons.1 hb with rfl | hb
   · exact ha
   · exact hl b hb⟩
theorem pg_arg {x:PV} {v:Value} {t:TypeId} (ht:shapeP P 8 t=(true,[.slice false [.str],.slice true kV3,.slice true kAc])) (h:VR w M x v) (h1:shapeOk (shapeP P 8 t).1 (shapeP P 8 t).2 x=true) (h2:x.wf):∃ p:Pg,x=eG p∧Fits p:=by
 rw[ht]at h1
 cases x<;>simp only[shapeOk,Bool.false_eq_true]at h1
 rename_i cs
 have hv:∀ (j:Nat) (c:PV),cs[j]?=some c→∃ u,VR w M c u:=fun j c hc=>by
  cases h with
  | agg _ vs hn hl hc'=>exact⟨_,hc' j c hc⟩
 match cs,h1,h2,hv with
 | [a,b,c],h1,h2,hv =>
  simp only[kindsOk,Bool.and_true,Bool.and_eq_true]at h1
  obtain⟨ha,hb,hc⟩:=h1
  simp only[PV.wf,PV.wfs,and_true]at h2
  obtain⟨w1,w2,w3⟩:=h2
  obtain⟨u1,hu1⟩:=hv 0 a rfl
  obtain⟨u2,hu2⟩:=hv 1 b rfl
  obtain⟨u3,hu3⟩:=hv 2 c rfl
  obtain⟨xs,rfl,a1,a2,a3,a4⟩:=list_of hu1 ha w1
  obtain⟨ys,rfl,b1,b2,b3,b4⟩:=list_of hu2 hb w2
  obtain⟨zs,rfl,c1,c2,c3,c4⟩:=list_of hu3 hc w3
  obtain⟨ns,rfl⟩:=names_of a1
  obtain⟨hs,rfl,_⟩:=vecs_of b1 b3
  obtain⟨zs,rfl,hl⟩:=acts_of' c1 c3 c4
  exact⟨⟨ns,hs,zs⟩,rfl,by simpa using a2,by simpa using b2,by simpa using c2,hl⟩
 | [],h,_,_=>simp[kindsOk]at h
 | [_],h,_,_=>simp[kindsOk]at h
 | [_,_],h,_,_=>simp[kindsOk]at h
 | _::_::_::_::_,h,_,_=>simp[kindsOk]at h
theorem arg_ba {t:TypeId} (ht:shapeP P 8 t=(false,[.str])) {x:PV} (h:shapeOk (shapeP P 8 t).1 (shapeP P 8 t).2 x=true):∃ g:List UInt8,x=.str (ba g):=by
 obtain⟨s,rfl⟩:=arg_str ht h
 exact⟨s.data.toList,by rw[ba_of]⟩
theorem arg_num {t:TypeId} (ht:shapeP P 8 t=(false,[.int .i64])) {x:PV} (h:shapeOk (shapeP P 8 t).1 (shapeP P 8 t).2 x=true) (hw:x.wf):∃ n,x=.int .i64 n∧i64 n:=by
 obtain⟨n,rfl,hn⟩:=arg_int ht h hw
 exact⟨n,rfl,wf_i64.1 hn⟩
end
end Go.Skm.Prg
