import Derived.Test.YtfmoopdnamdobaaDoorP11
import Derived.Test.YtfmoopdnamdobaaDoorSkmF
import Derived.Test.YtfmoopdnamdobaaDoorSkmH
namespace Go.Skm.Prg
open Go Go.Skm
section
variable {P:Program} {w:World} {M:Nat→Prop}
theorem aes (s:ByteArray):ba s.data.toList=s:=by
 unfold ba
 simp
theorem JA {x:PV} {v:Value} {a:Bool} {ks:List Kd} (h:VR w M x v) (h1:kindOk (.slice a ks) x=true) (h2:x.wf):∃ xs,x=.list a ks xs∧(∀ y∈xs,au a ks y=true)∧xs.length≤9223372036854775807∧PV.wfs xs∧∀ y∈xs,∀ (j:Nat) (c:PV),y.cells[j]?=some c→∃ u,VR w M c u:=by
 cases x<;>simp only[kindOk,Bool.false_eq_true]at h1
 · rename_i a' ks' xs
   simp only[qBa,beq_iff_eq]at h1
   obtain⟨rfl,h3⟩:=h1
   have h3:=Kd.mY _ _ h3
   subst h3
   simp only[PV.wf]at h2
   refine⟨xs,rfl,?_,h2.1,h2.2,?_⟩
   · cases h with
     | list _ _ _ b o cap f _ _ _ _ hs=>exact hs
     | kZ _ _ base cap=>simp
   · cases h with
     | list _ _ _ b o cap f _ _ _ hv _ =>
      intro y hy j c hc
      obtain⟨i,hi⟩:=List.getElem?_of_mem hy
      exact⟨_,hv i y j c hi hc⟩
     | kZ _ _ base cap=>simp
 · exact h2.elim
theorem Eh {x:PV} (h:kindOk (.int .i64) x=true) (hw:x.wf):∃ n:Int,x=.int .i64 n∧i64 n:=by
 cases x<;>simp[kindOk]at h
 subst h
 exact⟨_,rfl,wf_i64.1 hw⟩
theorem YD {x:PV} (h:kindOk .str x=true):∃ g:List UInt8,x=.str (ba g):=by
 cases x<;>simp[kindOk]at h
 exact⟨_,by rw[aes]⟩
theorem Rk:∀ {xs:List PV},(∀ x∈xs,au false [.str] x=true)→∃ l,xs=eN l
 | [],_=>⟨[],rfl⟩
 | x::xs,h=>by
  obtain⟨g,rfl⟩:=YD (by simpa [au] using h x (by simp))
  obtain⟨l,rfl⟩:=Rk (xs:=xs) (fun y hy=>h y (List.mem_cons_of_mem _ hy))
  exact⟨g::l,rfl⟩
theorem aaM {x:PV} (h:au true kR x=true) (hw:x.wf):∃ m:Mv,x=eM m:=by
 cases x<;>simp only[au,Bool.false_eq_true]at h
 rename_i cs
 match cs,h,hw with
 | [a,b,c,d,e,f],h,hw =>
  simp only[bC,Bool.and_true,qBa]at h
  obtain⟨ha,hb,hc,hd,he,hf⟩:=h
  simp only[PV.wf,PV.wfs,and_true]at hw
  obtain⟨w1,w2,w3,w4,w5,w6⟩:=hw
  obtain⟨ka,rfl,_⟩:=Eh ha w1
  obtain⟨kb,rfl,_⟩:=Eh hb w2
  obtain⟨kc,rfl,_⟩:=Eh hc w3
  obtain⟨kd,rfl,_⟩:=Eh hd w4
  obtain⟨ke,rfl,_⟩:=Eh he w5
  obtain⟨kf,rfl,_⟩:=Eh hf w6
  exact⟨⟨⟨ka,kb,kc⟩,kd,ke,kf⟩,rfl⟩
 | [],h,_=>simp[bC]at h
 | [_],h,_=>simp[bC]at h
 | [_,_],h,_=>simp[bC]at h
 | [_,_,_],h,_=>simp[bC]at h
 | [_,_,_,_],h,_=>simp[bC]at h
 | [_,_,_,_,_],h,_=>simp[bC]at h
 | _::_::_::_::_::_::_::_,h,_=>simp[bC]at h
theorem Rl:∀ {xs:List PV},(∀ x∈xs,au true kR x=true)→PV.wfs xs→∃ l,xs=qw l
 | [],_,_=>⟨[],rfl⟩
 | x::xs,h,hw=>by
  obtain⟨m,rfl⟩:=aaM (h x (by simp)) hw.1
  obtain⟨l,rfl⟩:=Rl (fun y hy=>h y (by simp[hy])) hw.2
  exact⟨m::l,rfl⟩
theorem acS {x:PV} (h:au true dD x=true) (hw:x.wf) (hv:∀ (j:Nat) (c:PV),x.cells[j]?=some c→∃ v,VR w M c v):∃ a:Ac,x=eA a∧i64 a.len:=by
 cases x<;>simp only[au,Bool.false_eq_true]at h
 rename_i cs
 match cs,h,hw,hv with
 | [a,b,c],h,hw,hv =>
  simp only[bC,Bool.and_true,qBa]at h
  obtain⟨ha,hb,hc⟩:=h
  simp only[PV.wf,PV.wfs,and_true]at hw
  obtain⟨w1,w2,w3⟩:=hw
  obtain⟨g,rfl⟩:=YD ha
  obtain⟨n,rfl,hn⟩:=Eh hb w2
  obtain⟨v,hv1⟩:=hv 2 c rfl
  obtain⟨xs,rfl,h1,h2,h3,h4⟩:=JA hv1 hc w3
  obtain⟨l,rfl⟩:=Rl h1 h3
  exact⟨⟨g,n,l⟩,rfl,hn⟩
 | [],h,_,_=>simp[bC]at h
 | [_],h,_,_=>simp[bC]at h
 | [_,_],h,_,_=>simp[bC]at h
 | _::_::_::_::_,h,_,_=>simp[bC]at h
theorem Rn:∀ {xs:List PV},(∀ x∈xs,au true dD x=true)→PV.wfs xs→(∀ x∈xs,∀ (j:Nat) (c:PV),x.cells[j]?=some c→∃ v,VR w M c v)→∃ l:List Ac,xs=fM l∧∀ a∈l,i64 a.len
 | [],_,_,_=>⟨[],rfl,by simp⟩
 | x::xs,h,hw,hv=>by
  obtain⟨a,rfl,ha⟩:=acS (h x (by simp)) hw.1 (hv x (by simp))
  obtain⟨l,rfl,hl⟩:=Rn (fun y hy=>h y (by simp[hy])) hw.2 (fun y hy=>hv y (by simp[hy]))
  exact⟨a::l,rfl,fun b hb=>by
   rcases List.mem_cons.1 hb with rfl | hb
   · exact ha
   · exact hl b hb⟩
theorem YE {x:PV} {v:Value} {t:TypeId} (ht:bg P 8 t=(true,[.slice false [.str],.slice true bZ,.slice true dD])) (h:VR w M x v) (h1:au (bg P 8 t).1 (bg P 8 t).2 x=true) (h2:x.wf):∃ p:Pg,x=eG p∧Fits p:=by
 rw[ht]at h1
 cases x<;>simp only[au,Bool.false_eq_true]at h1
 rename_i cs
 have hv:∀ (j:Nat) (c:PV),cs[j]?=some c→∃ u,VR w M c u:=fun j c hc=>by
  cases h with
  | agg _ vs hn hl hc'=>exact⟨_,hc' j c hc⟩
 match cs,h1,h2,hv with
 | [a,b,c],h1,h2,hv =>
  simp only[bC,Bool.and_true,qBa]at h1
  obtain⟨ha,hb,hc⟩:=h1
  simp only[PV.wf,PV.wfs,and_true]at h2
  obtain⟨w1,w2,w3⟩:=h2
  obtain⟨u1,hu1⟩:=hv 0 a rfl
  obtain⟨u2,hu2⟩:=hv 1 b rfl
  obtain⟨u3,hu3⟩:=hv 2 c rfl
  obtain⟨xs,rfl,a1,a2,a3,a4⟩:=JA hu1 ha w1
  obtain⟨ys,rfl,b1,b2,b3,b4⟩:=JA hu2 hb w2
  obtain⟨zs,rfl,c1,c2,c3,c4⟩:=JA hu3 hc w3
  obtain⟨ns,rfl⟩:=Rk a1
  obtain⟨hs,rfl,_⟩:=VQ b1 b3
  obtain⟨zs,rfl,hl⟩:=Rn c1 c3 c4
  exact⟨⟨ns,hs,zs⟩,rfl,by simpa using a2,by simpa using b2,by simpa using c2,hl⟩
 | [],h,_,_=>simp[bC]at h
 | [_],h,_,_=>simp[bC]at h
 | [_,_],h,_,_=>simp[bC]at h
 | _::_::_::_::_,h,_,_=>simp[bC]at h
end
end Go.Skm.Prg
