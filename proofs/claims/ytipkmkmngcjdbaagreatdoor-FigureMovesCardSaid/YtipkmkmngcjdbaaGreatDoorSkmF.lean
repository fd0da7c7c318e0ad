/-
  A machine that runs this program's functions on pure values, and the proof that what it returns is true of the program; no condition beside the hypotheses of each.
-/
import Derived.Test.YtipkmkmngcjdbaaGreatDoorSkmE
namespace Go.Skm
theorem wrap_eq {x:Int} (h1:-9223372036854775808≤x) (h2:x≤9223372036854775807):IntKind.i64.wrap x=x:=by
 have:∀ y:Int,y=x%2 ^ 64→(if(true&&decide (y ≥ 2 ^ (64-1)))=true then y-2 ^ 64 else y)=x:=by
  intro y hy
  by_cases h:y ≥ 2 ^ (64-1)
  · rw[if_pos (by simpa using h)];omega
  · rw[if_neg (by simpa using h)];omega
 exact this _ rfl
theorem l7 {α:Type} (p:Prop) [Decidable p] (a b:α):cond (decide p) a b=if p then a else b:=by
 by_cases h:p<;>simp[h]
theorem Hf {α:Type} (x y:Int) (a b:α):cond (x==y) a b=if x=y then a else b:=by
 by_cases h:x=y
 · simp[h]
 · have:(x==y)=false:=by simpa using h
   simp[h,this]
theorem CW {α:Type} (x y:Int) (a b:α):cond (x != y) a b=if x=y then b else a:=by
 by_cases h:x=y
 · simp[h]
 · have:(x != y)=true:=by simpa using h
   simp[h,this]
theorem wo {α:Type} (p q:Bool) (a b:α):cond (p&&q) a b=cond p (cond q a b) b:=by cases p<;>rfl
theorem Ah {α:Type} (p:Bool) (a b:α):cond (!p) a b=cond p b a:=by cases p<;>rfl
@[simp] theorem toInt_int (k:IntKind) (n:Int):(PV.int k n).toInt=n:=rfl
@[simp] theorem bF (b:Bool):(PV.bool b).toBool=b:=rfl
@[simp] theorem nG (s:ByteArray):(PV.str s).toStr=s:=rfl
@[simp] theorem jK (a:Bool) (ks:List Kd) (xs:List PV):(PV.list a ks xs).toList=xs:=rfl
@[simp] theorem iP (v:PV):(AV.p v).pv=v:=rfl
@[simp] theorem sN (a:Bool) (ks:List Kd) (xs:List PV):(AV.fresh a ks xs).ak=xs:=rfl
@[simp] theorem TS (s z o l:Nat):(AV.slice s z o l).Es=o:=rfl
@[simp] theorem TT (s z o l:Nat):(AV.slice s z o l).sLen=l:=rfl
@[simp] theorem acu (a:Bool) (ks:List Kd) (xs:List PV):(aI.arr a ks xs).xs=xs:=rfl
@[simp] theorem gu (cs:List PV) (j:Nat):(PV.agg cs).cell j=cs.getD j .nil:=rfl
@[simp] theorem adP (a:Bool) (ks:List Kd) (xs:List PV) (j:Nat):(PV.list a ks xs).cell j=.list a ks xs:=rfl
@[simp] theorem xR (k:IntKind) (n:Int) (j:Nat):(PV.int k n).cell j=.int k n:=rfl
structure V3 where
 x:Int
 y:Int
 z:Int
 deriving DecidableEq
namespace V3
theorem ext' {a b:V3} (h1:a.x=b.x) (h2:a.y=b.y) (h3:a.z=b.z):a=b:=by
 cases a;cases b;simp at h1 h2 h3;simp[h1,h2,h3]
instance:Inhabited V3:=⟨⟨0,0,0⟩⟩
end V3
abbrev kV:List Kd:=[.int .i64,.int .i64,.int .i64]
def fB (v:V3):PV:=.agg [.int .i64 v.x,.int .i64 v.y,.int .i64 v.z]
def bJ (l:List V3):List PV:=l.map fB
def encI (l:List Int):List PV:=l.map fun n=>.int .i64 n
@[simp] theorem aQ (l:List V3):(bJ l).length=l.length:=by simp[bJ]
@[simp] theorem Hq (l:List Int):(encI l).length=l.length:=by simp[encI]
@[simp] theorem ae6:bJ []=[]:=rfl
theorem nT (l:List V3) (i:Nat):(bJ l)[i]?=(l[i]?).map fB:=by simp[bJ]
theorem G5 (l:List V3) {i:Nat} (h:i<l.length):(bJ l).getD i .nil=fB (l.getD i default):=by
 rw[List.getD_eq_getElem?_getD,List.getD_eq_getElem?_getD,nT];simp[h]
@[simp] theorem pV (l:List V3) (i:Nat):(((bJ l).getD i .nil).cell 0).toInt=(l.getD i default).x:=by
 by_cases h:i<l.length
 · rw[G5 l h];rfl
 · have h1:(bJ l).getD i .nil=.nil:=by rw[List.getD_eq_getElem?_getD,nT];simp[h]
   have h2:l.getD i default=default:=by rw[List.getD_eq_getElem?_getD];simp[h]
   rw[h1,h2];rfl
@[simp] theorem pW (l:List V3) (i:Nat):(((bJ l).getD i .nil).cell 1).toInt=(l.getD i default).y:=by
 by_cases h:i<l.length
 · rw[G5 l h];rfl
 · have h1:(bJ l).getD i .nil=.nil:=by rw[List.getD_eq_getElem?_getD,nT];simp[h]
   have h2:l.getD i default=default:=by rw[List.getD_eq_getElem?_getD];simp[h]
   rw[h1,h2];rfl
@[simp] theorem pX (l:List V3) (i:Nat):(((bJ l).getD i .nil).cell 2).toInt=(l.getD i default).z:=by
 by_cases h:i<l.length
 · rw[G5 l h];rfl
 · have h1:(bJ l).getD i .nil=.nil:=by rw[List.getD_eq_getElem?_getD,nT];simp[h]
   have h2:l.getD i default=default:=by rw[List.getD_eq_getElem?_getD];simp[h]
   rw[h1,h2];rfl
theorem Hr (l m:List V3):bJ l++bJ m=bJ (l++m):=by simp[bJ]
theorem YR (l:List V3) (i:Nat) (v:V3):(bJ l).set i (fB v)=bJ (l.set i v):=by simp[bJ,List.map_set]
theorem YL (v:V3):[fB v]=bJ [v]:=rfl
def V3.ok (v:V3):Prop:=(-9223372036854775808≤v.x∧v.x≤9223372036854775807)∧(-9223372036854775808≤v.y∧v.y≤9223372036854775807)∧(-9223372036854775808≤v.z∧v.z≤9223372036854775807)
theorem wf_i64 {n:Int}:(PV.int .i64 n).wf↔-9223372036854775808≤n∧n≤9223372036854775807:=by
 simp[PV.wf,Lit.wf,IntKind.min,IntKind.max,IntKind.bits,IntKind.signed]
theorem adp {x:PV} (h:aA true kV x=true) (hw:x.wf):∃ v:V3,x=fB v∧v.ok:=by
 cases x<;>simp only[aA,Bool.false_eq_true]at h
 rename_i cs
 match cs,h,hw with
 | [a,b,c],h,hw =>
  simp only[bH,Bool.and_true,Bool.and_eq_true]at h
  obtain⟨ha,hb,hc⟩:=h
  cases a<;>simp[kindOk]at ha
  cases b<;>simp[kindOk]at hb
  cases c<;>simp[kindOk]at hc
  subst ha hb hc
  rename_i p q r
  simp only[PV.wf,PV.wfs,and_true]at hw
  exact⟨⟨p,q,r⟩,rfl,wf_i64.1 hw.1,wf_i64.1 hw.2.1,wf_i64.1 hw.2.2⟩
 | [],h,_=>simp[bH]at h
 | [_],h,_=>simp[bH]at h
 | [_,_],h,_=>simp[bH]at h
 | _::_::_::_::_,h,_=>simp[bH]at h
theorem Vg:∀ {xs:List PV},(∀ x∈xs,aA true kV x=true)→PV.wfs xs→∃ l:List V3,xs=bJ l∧∀ v∈l,v.ok
 | [],_,_=>⟨[],rfl,by simp⟩
 | x::xs,h,hw=>by
  obtain⟨v,rfl,h1⟩:=adp (h x (by simp)) hw.1
  obtain⟨l,rfl,h2⟩:=Vg (fun y hy=>h y (by simp[hy])) hw.2
  exact⟨v::l,rfl,fun u hu=>by 
   rcases List.mem_cons.1 hu with rfl | hu
   · exact h1
   · exact h2 u hu⟩
section
variable {P:Program} {w:World} {M:Nat→Prop}
theorem uZ.none {vs:List Value} {xs:List PV} (h:uZ P w M [] vs xs):xs=[]:=by cases h;rfl
end
end Go.Skm
