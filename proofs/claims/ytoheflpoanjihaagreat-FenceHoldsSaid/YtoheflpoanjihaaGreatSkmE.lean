import Derived.Test.YtoheflpoanjihaaGreatSkmD
import Derived.Lib.SplitLaws
import Derived.Lib.AtoiAll
import Derived.Lib.ItoaMem
import Derived.Lib.IndexBytes
import Derived.Laws.Strings
import Derived.Test.YtoheflpoanjihaaGreatSkmA
set_option linter.all false
namespace Go.Skm
section
variable {α:Type}
theorem wrap_eq{x:Int}(b:-9223372036854775808<=x)(a:x<=9223372036854775807):IntKind.i64.wrap x=x:=by
 have:∀ y:Int,y=x%2^64->(if(true&&decide (y >= 2^(64-1)))=true then y-2^64 else y)=x:=by grind
 exact this _ rfl
theorem O4(p:Prop)[Decidable p](a b:α):cond (decide p) a b=if p then a else b:=by simp
theorem amL(x y:Int)(a b:α):cond (x==y) a b=if x=y then a else b:=by simp
theorem aiS(p q:Bool)(a b:α):cond (p&&q) a b=cond p (cond q a b) b:=by cases p<;>rfl
@[simp] theorem toInt_int(k:IntKind)(n:Int):(PV.int k n).toInt=n:=rfl
@[simp] theorem bf(b:Bool):(PV.bool b).toBool=b:=rfl
@[simp] theorem ah5(s:ByteArray):(PV.str s).toStr=s:=rfl
@[simp] theorem EO(a:Bool)(ks:List Kd)(xs:List PV):(PV.list a ks xs).toList=xs:=rfl
@[simp] theorem bV(v:PV):(AV.p v).pv=v:=rfl
@[simp] theorem dJ(a:Bool)(ks:List Kd)(xs:List PV):(AV.fresh a ks xs).aI=xs:=rfl
@[simp] theorem kL(s z o l:Nat):(AV.slice s z o l).qM=o:=rfl
@[simp] theorem kM(s z o l:Nat):(AV.slice s z o l).sLen=l:=rfl
@[simp] theorem yF(a:Bool)(ks:List Kd)(xs:List PV):(bZ.arr a ks xs).xs=xs:=rfl
@[simp] theorem GH(cs:List PV)(j:Nat):(PV.agg cs).cell j=cs.getD j .nil:=rfl
@[simp] theorem aoA(a:Bool)(ks:List Kd)(xs:List PV)(j:Nat):(PV.list a ks xs).cell j=.list a ks xs:=rfl
@[simp] theorem Vo(k:IntKind)(n:Int)(j:Nat):(PV.int k n).cell j=.int k n:=rfl
structure V3 where
 x:Int
 y:Int
 z:Int
 deriving DecidableEq
namespace V3
instance:Inhabited V3:=⟨⟨0,0,0⟩⟩
end V3
abbrev kV:List Kd:=[.int .i64,.int .i64,.int .i64]
def cO(v:V3):PV:=.agg [.int .i64 v.x,.int .i64 v.y,.int .i64 v.z]
def bT(l:List V3):List PV:=l.map cO
def encI(l:List Int):List PV:=l.map λn=>.int .i64 n
@[simp] theorem lY(l:List V3):(bT l).length=l.length:=by simp[bT]
@[simp] theorem amU(l:List Int):(encI l).length=l.length:=by simp[encI]
@[simp] theorem aqw:bT []=[]:=rfl
theorem Qn(l:List V3)(i:Nat):(bT l)[i]?=(l[i]?).map cO:=by simp[bT]
theorem RP(l:List V3){i:Nat}(h:i<l.length):(bT l).getD i .nil=cO (l.getD i default):=by grind[qLb,Qn]
@[simp] theorem JA(l:List V3)(i:Nat):(((bT l).getD i .nil).cell 0).toInt=(l.getD i default).x:=by
 by_cases h:i<l.length
 . rw[RP l h];rfl
 . have b:(bT l).getD i .nil=.nil:=by rw[qLb,Qn];simp[h]
   have a:l.getD i default=default:=by rw[qLb];simp[h]
   rw[b,a];rfl
@[simp] theorem JB(l:List V3)(i:Nat):(((bT l).getD i .nil).cell 1).toInt=(l.getD i default).y:=by
 by_cases h:i<l.length
 . rw[RP l h];rfl
 . have b:(bT l).getD i .nil=.nil:=by rw[qLb,Qn];simp[h]
   have a:l.getD i default=default:=by rw[qLb];simp[h]
   rw[b,a];rfl
@[simp] theorem QN(l:List V3)(i:Nat):(((bT l).getD i .nil).cell 2).toInt=(l.getD i default).z:=by
 by_cases h:i<l.length
 . rw[RP l h];rfl
 . have b:(bT l).getD i .nil=.nil:=by rw[qLb,Qn];simp[h]
   have a:l.getD i default=default:=by rw[qLb];simp[h]
   rw[b,a];rfl
def V3.ok(v:V3):Prop:=(-9223372036854775808<=v.x/\v.x<=9223372036854775807)/\(-9223372036854775808<=v.y/\v.y<=9223372036854775807)/\(-9223372036854775808<=v.z/\v.z<=9223372036854775807)
theorem wf_i64{n:Int}:(PV.int .i64 n).wf↔-9223372036854775808<=n/\n<=9223372036854775807:=by simp[PV.wf,Lit.wf,IntKind.min,IntKind.max,IntKind.bits,IntKind.signed]
theorem aky{x:PV}(h:bY true kV x=true)(d:x.wf):∃ v:V3,x=cO v/\v.ok:=by
 cases x<;>simp only[bY,Bool.false_eq_true]at h;rename_i cs
 match cs,h,d with
 |[a,b,c],h,d =>simp only[gV,Bool.and_true,qBa]at h;obtain⟨g,f,e⟩:=h;cases a<;>simp[kindOk]at g;cases b<;>simp[kindOk]at f;cases c<;>simp[kindOk]at e;subst g f e;rename_i p q r;simp only[PV.wf,PV.wfs,and_true]at d;exact⟨⟨p,q,r⟩,rfl,wf_i64.1 d.1,wf_i64.1 d.2.1,wf_i64.1 d.2.2⟩
 |[],h,_=>simp[gV]at h
 |[_],h,_=>simp[gV]at h
 |[_,_],h,_=>simp[gV]at h
 | _::_::_::_::_,h,_=>simp[gV]at h
theorem Zp:∀{xs:List PV},(∀ x∈xs,bY true kV x=true)->PV.wfs xs->∃ l:List V3,xs=bT l/\∀ v∈l,v.ok
 |[],_,_=>⟨[],rfl,by simp⟩
 | x::xs,h,hw=>by obtain⟨v,rfl,d⟩:=aky (h x (by simp)) hw.1;obtain⟨l,rfl,c⟩:=Zp (λy a=>h y (by simp[a])) hw.2;exact⟨v::l,rfl,λu b=>by grind⟩
section
variable {P:Program} {w:World} {M:Nat->Prop}
theorem Ep.one{t:TypeId}{ts:List TypeId}{vs:List Value}{xs:List PV}(h:Ep P w M (t::ts) vs xs):∃ x ys v a,xs=x::ys/\vs=v::a/\VR w M x v/\bY (dO P 8 t).1 (dO P 8 t).2 x=true/\x.wf/\Ep P w M ts a ys:=by
 cases h with
 | cons _ _ v vs x xs d c b h=>exact⟨x,xs,v,vs,rfl,rfl,d,c,b,h⟩
theorem Ep.none{vs:List Value}{xs:List PV}(h:Ep P w M [] vs xs):xs=[]:=by cases h;rfl
theorem afz{x:PV}{_v:Value}{t:TypeId}(b:dO P 8 t=(true,kV))(a:bY (dO P 8 t).1 (dO P 8 t).2 x=true)(c:x.wf):∃ u:V3,x=cO u/\u.ok:=by rw[b]at a;exact aky a c
theorem afA{x:PV}{t:TypeId}(b:dO P 8 t=(false,[.int .i64]))(a:bY (dO P 8 t).1 (dO P 8 t).2 x=true)(c:x.wf):∃ n:Int,x=.int .i64 n∧-9223372036854775808<=n/\n<=9223372036854775807:=by rw[b]at a;simp only[bY]at a;cases x<;>simp[kindOk]at a;subst a;exact⟨_,rfl,wf_i64.1 c⟩
end
end
section
variable {p:Prop}
theorem ba_eq{a b:ByteArray}:a=b↔a.data.toList=b.data.toList:=by
 constructor
 . grind
 . intro h;cases a with | mk a=>cases b with | mk b =>simp only at h;rw[show a=b from by rw[<- Array.toArray_toList (xs:=a),h,Array.toArray_toList]]
theorem akz(a b:ByteArray):(a.toList==b.toList)=decide (a=b):=by
 rw[ByteArray.toList_eq,ByteArray.toList_eq];by_cases h:a=b
 . subst h;simp
 . have:a.data.toList≠b.data.toList:=λe=>h (ba_eq.2 e);grind
def ba(l:List UInt8):ByteArray:=⟨l.toArray⟩
@[simp] theorem asW(l:List UInt8):(ba l).data.toList=l:=rfl
section
variable {α β γ:Type}
theorem fK{i:Decidable p}{a b x:α}(h:p)(c:a=x):cond (@decide p i) a b=x:=by rw[decide_eq_true h];exact c
theorem dR{i:Decidable p}{a b x:α}(h:¬ p)(c:b=x):cond (@decide p i) a b=x:=by rw[decide_eq_false h];exact c
end
end
end Go.Skm
