import Derived.Test.YtpjaaamhnghloaaGreatDoorSkmF
import Derived.Lib.SplitLaws
import Derived.Lib.AtoiAll
import Derived.Lib.ItoaMem
import Derived.Lib.IndexBytes
import Derived.Laws.Strings
import Derived.Test.YtpjaaamhnghloaaGreatDoorSkmA
set_option linter.all false
namespace Go.Skm
section
open Go.ChangeShapes Go.WideShapes
section
variable (P:Program)
def OM(g:TypeId->Bool):Nat->List Field->Bool
 |_,[]=>true
 |o,f::r=>f.offset==o&&(g f.type&&OM g (o+P.cellsOf f.type) r)
def afZ:List Field->Nat
 |[]=>0
 |f::r=>P.cellsOf f.type+afZ r
def YT:Nat->TypeId->Bool
 |0,_=>false
 |n+1,t=>
  match P.underlying t with
  |some (.int _)=>Nat.beq (P.cellsOf t) 1
  |some .bool=>Nat.beq (P.cellsOf t) 1
  |some .string=>Nat.beq (P.cellsOf t) 1
  |some (.slice e)=>YT n e&&(Nat.blt 0 (P.cellsOf e)&&Nat.beq (P.cellsOf t) 1)
  |some (.struct fs)=>OM P (YT n) 0 fs.toList&&Nat.beq (P.cellsOf t) (afZ P fs.toList)
  |some (.array m e)=>YT n e&&Nat.beq (P.cellsOf t) (m*P.cellsOf e)
  |_=>false
theorem abN:∀l:List Field,afZ P l=kF.sum P l
 |[]=>by simp[afZ,kF.sum]
 |f::r=>by simp[afZ,kF.sum,abN r]
theorem GL:∀(n:Nat) (t:TypeId),YT P n t=true->kF P n t=true
 |0,t,h=>by simp[YT]at h
 |n+1,t,h=>by
  unfold YT at h;unfold kF;split at h
  .rename_i k a;rw[a];exact h
  .rename_i a;rw[a];exact h
  .rename_i a;rw[a];exact h
  .rename_i e a;rw[a];simp only[qBa]at h ⊢;exact⟨GL n e h.1,h.2⟩
  .rename_i g a;rw[a];simp only[qBa]at h ⊢;rw[<-abN];refine⟨?_,h.2⟩;have key:∀(l:List Field) (o:Nat),OM P (YT P n) o l=true->kF.go P n o l=true:=by
    intro l;induction l with
    |nil=>intro o _;simp[kF.go]
    |cons f r d=>intro o b;simp only[OM,qBa]at b;simp only[kF.go,qBa];exact⟨b.1,GL n _ b.2.1,d _ b.2.2⟩
   exact key _ _ h.1
  .rename_i m e a;rw[a];simp only[qBa]at h ⊢;exact⟨GL n e h.1,h.2⟩
  .cases h
end
section
variable {H:Type}{enc:TypeId × Value->H}{P:Program}
theorem ai7{T:Tab}(ok:bJ P T){X:Ext}{q:Option (List (Nat × Obj))}(y:rO P T q X){f:Nat}{fi:FI}(x:aX T.funcs f=some fi){fn:Func}(l:fi.fn=fn){tb:TypeId}(g:fn.resultTypes=#[tb])(o:fi.cfg.rets=[])
    (i:P.underlying tb=some .bool){s:ChangeSpec}(hvars:s.vars=[]){W:World}{args:Array Value}{m A:List (DataW H)}{before:List MemPlace}{b0:Nat}
    (a:∀(j:Nat) t v,fn.params[j]?=some t->args[j]?=some v->Value.okWide P W .any b0 t v)(z:DataW.Whole enc P fn.params.toList s.vars false W args.toList m A before)
    (h:fn.params.toList.all (YT P 8)=true)(w:s.fn H m={results:=[.lit (.bool true)],args:=m})
    (k:∀p∈q.getD [],p.1<W.heap.size/\W.heap[p.1]?=some p.2)(d:∀xs,BN P W (λb=>b<W.heap.size) fn.params.toList args.toList xs->run T X f (xs.map .p) []=some ([.p (.bool true)],[])) :
    Calls P f args W λe W'=>∃v,e=.returned v/\s.post enc P fn false true false false W args v W':=
  adw ok y x l g o i hvars a z (List.all_eq_true.2 λt r=>GL P 8 t (List.all_eq_true.1 h t r)) w k d
end
end
section
variable {s:List UInt8}{c:UInt8}{u:Nat}{n:Int}{p:Prop}
def bG(c:UInt8):List UInt8->List (List UInt8)
 |[]=>[[]]
 |b::r=>if b=c then []::bG c r else(match bG c r with
  |p::ps=>(b::p)::ps
  |[]=>[[b]])
def MQ(c:UInt8):List (List UInt8)->List UInt8
 |[]=>[]
 |[p]=>p
 |p::q::r=>p++c::MQ c (q::r)
theorem mO(c:UInt8):∀l,bG c l≠[]
 |[]=>by simp[bG]
 |b::r=>by
  unfold bG;split
  .simp
  .split<;>simp
theorem uK{c:UInt8}:∀{l:List UInt8},c ∉ l->bG c l=[l]
 |[],_=>rfl
 |b::r,h=>by have d:b≠c:=λe=>h (by simp[e]);have a:=uK (c:=c) (l:=r) (λe=>h (List.mem_cons_of_mem _ e));rw[bG,if_neg d,a]
theorem sK{c:UInt8}(y:List UInt8):∀{x:List UInt8},c ∉ x->bG c (x++c::y)=x::bG c y
 |[],_=>by simp[bG]
 |b::r,h=>by have d:b≠c:=λe=>h (by simp[e]);have a:=sK (c:=c) y (x:=r) (λe=>h (List.mem_cons_of_mem _ e));rw[List.cons_append];rw[bG,if_neg d,a]
theorem PO{c:UInt8}:∀{l p:List UInt8},p∈bG c l->c ∉ p
 |[],p,h=>by simp only[bG,List.mem_singleton]at h;subst h;simp
 |b::r,p,h=>by
  have a:=λq=>PO (c:=c) (l:=r) (p:=q);unfold bG at h;split at h
  .rcases List.mem_cons.1 h with rfl |h
   .simp
   .exact a p h
  .next hb=>
   split at h
   .next q qs hq=>
    rw[hq]at a;rcases List.mem_cons.1 h with rfl |h
    .intro d;rcases List.mem_cons.1 d with e |e
     .exact hb e.symm
     .exact a q σ e
    .exact a p (by simp[h])
   .next hq=>exact absurd hq (mO c r)
theorem JA(c:UInt8):∀l,MQ c (bG c l)=l
 |[]=>rfl
 |b::r=>by
  have a:=JA c r;unfold bG;split
  .next hb=>
   subst hb;generalize d:bG b r=s at a;cases s with
   |nil=>exact absurd d (mO b r)
   |cons q qs=>rw[MQ,a];rfl
  .split
   .next q qs hq=>
    rw[hq]at a;cases qs with
    |nil=>simp only[MQ]at a ⊢;rw[a]
    |cons u e=>simp only[MQ]at a ⊢;rw[List.cons_append,a]
   .next hq=>exact absurd hq (mO c r)
theorem tX(c:UInt8):∀l,(bG c l).length<=l.length+1
 |[]=>by simp[bG]
 |b::r=>by
  have a:=tX c r;unfold bG;split
  .simp only[qLl];omega
  .split
   .next q qs hq=>rw[hq]at a;simp only[qLl]at a ⊢;omega
   .simp
theorem wu{c:UInt8}:∀{l p:List UInt8},p∈bG c l->p.length<=l.length
 |[],p,h=>by simp only[bG,List.mem_singleton]at h;subst h;simp
 |b::r,p,h=>by
  have a:=λq=>wu (c:=c) (l:=r) (p:=q);unfold bG at h;split at h
  .rcases List.mem_cons.1 h with rfl |h
   .simp
   .have:=a p h;simp only[qLl];omega
  .split at h
   .next q qs hq=>
    rw[hq]at a;rcases List.mem_cons.1 h with rfl |h
    .have:=a q σ;simp only[qLl];omega
    .have:=a p (by simp[h]);simp only[qLl];omega
   .next hq=>exact absurd hq (mO c r)
theorem index_none(h:Lib.index s [c]=-1):c ∉ s:=by rw[Lib.index_one]at h;intro a;obtain⟨i,hi⟩:=List.mem_iff_getElem?.1 a;exact Lib.indexByte_none h i hi
theorem aaz{i:Nat}(h:Lib.index s [c]=i):s=s.take i++c::s.drop (i+1)/\c ∉ s.take i:=by
 rw[Lib.index_one]at h;obtain⟨b,f⟩:=Lib.indexByte_some h;obtain⟨hi,e⟩:=qLa.1 b;refine⟨?_,λa=>?_⟩
 .have h4:=qLc hi;grind[List.take_append_drop]
 .obtain⟨j,d⟩:=List.mem_iff_getElem?.1 a;grind
theorem af0(c:UInt8):∀(n:Nat) (s:List UInt8),s.length<=n->Lib.splitK [c] 0 (Lib.count s [c]) s=bG c s:=by
 intro n;induction n with
 |zero=>intro s h;have:s=[]:=List.eq_nil_of_length_eq_zero ω;subst this;rfl
 |succ n f=>
  intro s h;by_cases b:Lib.index s [c]=-1
  .rw[Lib.count_miss b,uK (index_none b)];rfl
  .have g:=Lib.index_ge s [c];obtain⟨i,hi⟩:=Int.eq_ofNat_of_zero_le (show 0<=Lib.index s [c] by omega);obtain⟨k,j⟩:=aaz hi;have d:i<s.length:=θ
   rw[Lib.count_hit σ hi,Nat.add_comm,Lib.splitK];have a:¬((Lib.index s [c]==-1)=true):=by simpa using b
   have e:(Lib.index s [c]).toNat=i:=ω
   rw[if_neg a,e,Nat.add_zero];have hd:(s.drop (i+[c].length)).length<=n:=by simp;omega
   rw[f _ hd]
   conv=>rhs;rw[k]
   rw[sK _ j];rfl
theorem UR(c:UInt8)(s:ByteArray):Lib.splitB ⟨#[c]⟩ 0 (Lib.countB s ⟨#[c]⟩) s=(bG c s.data.toList).map λl=>⟨l.toArray⟩:=by
 have h:=Lib.splitB_data ⟨#[c]⟩ 0 (Lib.countB s ⟨#[c]⟩) s;have d:=af0 c _ s.data.toList (qNr _);have e:(ByteArray.mk #[c]).data.toList=[c]:=rfl;rw[e]at h;unfold Lib.countB at h ⊢;rw[e]at h ⊢;rw[d]at h;rw[<-h,List.map_map];have:∀l:List ByteArray,l=l.map ((λl=>ByteArray.mk l.toArray) ∘ λb=>b.data.toList):=by
  intro l;induction l with
  |nil=>rfl
  |cons b l a=>rw[List.map_cons,<-a];rfl
 exact this _
theorem lK{k:Nat}(h:k<10):(UInt8.ofNat (48+k)).toNat=48+k:=by rw[UInt8.toNat_ofNat'];omega
theorem vN:∀b∈Lib.decDigits u,48<=b.toNat/\b.toNat<=57:=by
 induction u using Nat.strongRecOn with
 |ind u d=>
  intro b a;rw[Lib.decDigits]at a;split at a
  .next h=>simp only[List.mem_singleton]at a;subst a;rw[lK h];omega
  .next h=>
   rcases List.mem_append.1 a with a |a
   .grind
   .simp only[List.mem_singleton]at a;subst a;rw[lK ω];omega
theorem KA(u:Nat):Lib.decDigits u≠[]:=by rw[Lib.decDigits];split<;>simp
theorem bT(h:10<=u):Lib.decDigits u=Lib.decDigits (u / 10)++Lib.decDigits (u%10):=by grind[Lib.decDigits]
theorem H6:∀(xs ys:List UInt8) (acc a:Nat),Lib.parseUint10 acc xs=.ok a->Lib.parseUint10 acc (xs++ys)=Lib.parseUint10 a ys
 |[],ys,acc,a,h=>by
  simp only[Lib.parseUint10]at h;injection h with h
  subst h;rfl
 |c::r,ys,acc,a,h=>by
  simp only[Lib.parseUint10,List.cons_append]at h ⊢;split at h
  .next h1=>
   rw[if_pos h1];split at h
   .cases h
   .next h2=>
    rw[if_neg h2];split at h
    .cases h
    .next h3=>rw[if_neg h3];exact H6 r ys _ a h
  .cases h
theorem SH:u<18446744073709551616->Lib.parseUint10 0 (Lib.decDigits u)=.ok u:=by
 induction u using Nat.strongRecOn with
 |ind u a=>
  intro b;rw[Lib.decDigits];split
  .next h=>simp only[Lib.parseUint10,lK h];grind
  .next h=>rw[H6 _ _ _ _ (a (u / 10) ω ω)];simp only[Lib.parseUint10,lK (show u%10<10 by omega)];grind
theorem KC(a:u<18446744073709551616):Lib.parseMag (Lib.decDigits u)=.ok u:=by unfold Lib.parseMag;rw[if_neg (KA u),SH a]
theorem acv(f:-9223372036854775808<=n)(d:n<=9223372036854775807):Lib.atoiAll (Lib.itoa n)=.ok n:=by
 unfold Lib.itoa;split
 .next h=>unfold Lib.atoiAll;simp only;have e:(45:UInt8).toNat=45:=rfl;rw[if_pos (Or.inr e),KC ω];grind
 .next h=>
  have hd:=vN (u:=n.toNat);have hp:=KC (u:=n.toNat) ω;generalize a:Lib.decDigits n.toNat=l at hd hp;cases l with
  |nil=>exact absurd a (KA _)
  |cons c r=>
   have b:=hd c σ;have i:¬(c.toNat=43\/c.toNat=45):=ω
   have g:¬c.toNat=45:=ω
   unfold Lib.atoiAll;grind
theorem Zw{l:List UInt8}(h:Lib.atoiAll l=.ok n):-9223372036854775808<=n/\n<=9223372036854775807:=by unfold Lib.atoiAll at h;grind
theorem acu:∀b∈Lib.itoa n,b.toNat=45\/(48<=b.toNat/\b.toNat<=57):=by
 intro b a;unfold Lib.itoa at a;split at a
 .rcases List.mem_cons.1 a with rfl |a
  .simp
  .exact .inr (vN b a)
 .exact .inr (vN b a)
theorem xO(h:0<=n):Lib.itoa n=Lib.decDigits n.toNat:=by grind[Lib.itoa]
theorem ba_eq{a b:ByteArray}:a=b↔a.data.toList=b.data.toList:=by
 constructor
 .grind
 .intro h;cases a with |mk a=>cases b with |mk b=>simp only at h;rw[show a=b from by rw[<-Array.toArray_toList (xs:=a),h,Array.toArray_toList]]
theorem KX(a b:ByteArray):(a.toList==b.toList)=decide (a=b):=by
 rw[ByteArray.toList_eq,ByteArray.toList_eq];by_cases h:a=b
 .subst h;simp
 .have:a.data.toList≠b.data.toList:=λe=>h (ba_eq.2 e);grind
def ba(l:List UInt8):ByteArray:=⟨l.toArray⟩
@[simp] theorem aoT(l:List UInt8):(ba l).data.toList=l:=rfl
theorem aaL(s:ByteArray):ba s.data.toList=s:=ba_eq.2 rfl
theorem bZ(l:List UInt8):(ba l).size=l.length:=rfl
theorem iY(x y:List UInt8):ba x++ba y=ba (x++y):=by rfl
theorem zC{x y:List UInt8}:ba x=ba y↔x=y:=by rw[ba_eq];simp
def Bd(l:List UInt8):List AV:=match Lib.atoiAll l with
 |.ok v=>[.p (.int .i64 v),.p .rU]
 |.range=>[.p (.int .i64 (Lib.atoiSat l)),.p .ifc]
 |_=>[.p (.int .i64 0),.p .ifc]
section
variable {α β γ:Type}
theorem iF{o:Option β}{r:β}{f:β->Option γ}{x:Option γ}(h:o=some r)(a:f r=x):o.bind f=x:=by rw[h];exact a
theorem Js{c:Bool}{a b x:α}(h:c=true)(d:a=x):cond c a b=x:=by rw[h];exact d
theorem qo{c:Bool}{a b x:α}(h:c=false)(d:b=x):cond c a b=x:=by rw[h];exact d
theorem TN{i:Decidable p}{a b x:α}(h:p)(d:a=x):cond (@decide p i) a b=x:=by rw[decide_eq_true h];exact d
theorem alG{i:Decidable p}{a b x:α}(h:p)(d:a=x):@ite α p i a b=x:=by rw[if_pos h];exact d
theorem aqd{i:Decidable p}{a b x:α}(h:¬p)(d:b=x):@ite α p i a b=x:=by rw[if_neg h];exact d
theorem aje{i:Decidable p}{a b x:α}(h:¬p)(d:b=x):cond (@decide p i) a b=x:=by rw[decide_eq_false h];exact d
end
end
end Go.Skm
