import Derived.Test.YtoheflpoanjihaaGreatSkmG
import Derived.Test.YtoheflpoanjihaaGreatSkmE
import Derived.Shelf.SlGeneric
import Derived.Shelf.SlSortCmp.NoneTotal
import Derived.Shelf.SlicesE.Clone
import Derived.Laws.OwnMore
namespace Go.Skm
open Go Go.Proofs Go.Shelf Go.RowKit Go.Sort
end Go.Skm
namespace Go.Skm
open Go Go.Proofs Go.Shelf Go.RowKit Go.Sort
def PV.val:PV→Value
 | .int k n=>.int k n
 | .bool b=>.bool b
 | .str s=>.string s
 | _=>undef
def PV.LC:PV→Bool
 | .int _ _=>true
 | .bool _=>true
 | .str _=>true
 | _=>false
theorem ae2 {w:World} {M:Nat→Prop} {p:PV} (h:p.LC=true):VR w M p p.val:=by
 cases p<;>simp only[PV.LC,Bool.false_eq_true]at h
 · exact .bool _
 · exact .int _ _
 · exact .str _
theorem Ht {w:World} {M:Nat→Prop} {p:PV} {c:Value} (h:p.LC=true) (hv:VR w M p c):c=p.val:=by cases hv<;>simp only[PV.LC,Bool.false_eq_true]at h<;>rfl
theorem aaq {p:PV} (h:p.LC=true):p.leaf=true:=by cases p<;>simp only[PV.LC,Bool.false_eq_true]at h<;>rfl
theorem ac8 {p:PV} (h:p.LC=true):p.val.oneCell'=true:=by cases p<;>simp only[PV.LC,Bool.false_eq_true]at h<;>rfl
structure SortEnc (α:Type) where
 ks:List Kd
 pc:α→List PV
 dec:PV→Option α
 len:∀ x,(pc x).length=ks.length
 flat:∀ x,∀ c∈pc x,c.LC=true
 kinds:∀ x,bZ true ks (.agg (pc x))=true
 enc_dec:∀ x,dec (.agg (pc x))=some x
 dec_enc:∀ p x,dec p=some x→p=.agg (pc x)
namespace SortEnc
variable {α:Type} (E:SortEnc α)
def encs (l:List α):List PV:=l.map fun x=>.agg (E.pc x)
def decs:List PV→Option (List α)
 | []=>some []
 | p::r=>match E.dec p,decs r with
  | some v,some l=>some (v::l)
  | _,_=>none
theorem ac9 (l:List α):E.decs (E.encs l)=some l:=by
 induction l with
 | nil=>rfl
 | cons v l ih =>unfold encs at ih;simp only[encs,List.map_cons,decs,E.enc_dec,ih]
theorem ada {xs:List PV}:∀ {l:List α},E.decs xs=some l→xs=E.encs l:=by
 induction xs with
 | nil=>intro l h;cases h;rfl
 | cons p r ih =>
  intro l h;unfold decs at h;split at h
  · next v l' h1 h2 =>cases h;rw[E.dec_enc _ _ h1,ih h2];rfl
  · cases h
theorem Om (l:List α):(E.encs l).length=l.length:=by simp[encs]
theorem YM (l:List α) (i:Nat):(E.encs l)[i]?=(l[i]?).map fun x=>PV.agg (E.pc x):=by simp[encs]
def vals (x:α):List Value:=(E.pc x).map PV.val
theorem vals_length (x:α):(E.vals x).length=E.ks.length:=by simp[vals,E.len]
theorem YN (x:α) (j:Nat):(E.vals x)[j]?=((E.pc x)[j]?).map PV.val:=by simp[vals]
theorem ae3 (x:α):∀ v∈E.vals x,v.oneCell'=true:=by intro v hv;obtain⟨p,hp,rfl⟩:=List.mem_map.1 hv;exact ac8 (E.flat x p hp)
theorem vr (w:World) (M:Nat→Prop) (x:α):VR w M (.agg (E.pc x)) (.agg (E.vals x).toArray):=by
 refine .agg _ _ (by simp[vals]) (fun c hc=>aaq (E.flat x c hc)) fun i c hc=>?_;have e:(E.vals x).toArray.getD i undef=c.val:=by rw[qAb,List.getElem?_toArray,E.YN,hc];rfl
 rw[e];exact ae2 (E.flat x c (qLe hc))
end SortEnc
section
variable {α:Type} {P:Program} {T:Tab}
theorem abE (ok : dZ P T) {X : Ext} (hX : sF P T none X) {g : Nat} {fi : FI} (hfi : dN T.funcs g = some fi) (hr : fi.cfg.rets = []) {t : TypeId} (ht : fi.fn.resultTypes = #[t]) (E : SortEnc α) {x y : α} {n : Int}
    (h:run T X g [.p (.agg (E.pc x)),.p (.agg (E.pc y))] []=some ([.p (.int .i64 n)],[])) (w:World) :
    Calls P g #[.agg (E.vals x).toArray,.agg (E.vals y).toArray] w fun e w'=>e=.returned (.int .i64 n)∧∃ q os',w'=grow (w.drewN q) os':=by
  have hs:=(LH ok hX).plain g fi _ [] _ [] hfi (by simp) h;have hpre:tZ w (fun _=>False) (fun _=>none) [.p (.agg (E.pc x)),.p (.agg (E.pc y))] [] #[.agg (E.vals x).toArray,.agg (E.vals y).toArray]:=by
   refine⟨rfl,fun i v hi=>?_,fun i b0 hi=>by simp at hi,fun i b o hi=>by simp at hi,fun i j b o o' hi=>by simp at hi,fun b hb=>hb.elim⟩
   match i,hi with
   | 0,hi=>cases hi;exact .p _ _ (E.vr w _ x)
   | 1,hi=>cases hi;exact .p _ _ (E.vr w _ y)
   | i+2,hi=>simp at hi
  refine Calls.mono (hs.2 w _ _ _ (by simp) hpre) fun e w' hpost=>?_;obtain⟨cs,ps,M',rfl,post⟩:=hpost;have hcs:cs=[.int .i64 n]:=by
   have hr':=post.res;rw[hr,ht]at hr';cases hr' with
   | cons _ _ _ _ _ c cs' p ps' h1 h2 _ =>
    cases h2;cases h1 with
    | deep _ x _ _ hv=>cases hv;rfl
  subst hcs;refine⟨rfl,w'.drawn-w.drawn,w'.heap.extract w.heap.size w'.heap.size,?_⟩;have hkeep:∀ b,b<w.heap.size→w'.heap[b]?=w.heap[b]?:=fun b hb=>post.keep b hb fun i o hi=>by simp at hi
  have hh:w'.heap=w.heap++w'.heap.extract w.heap.size w'.heap.size:=by
   apply Array.ext_getElem?;intro k;have hsz:=post.size;rw[Array.getElem?_append];split
   · next hk=>exact hkeep k hk
   · next hk =>
     rw[Array.getElem?_extract];by_cases hk2:k<w'.heap.size
     · rw[if_pos (by omega)];congr 1;omega
     · rw[if_neg (by omega),Array.getElem?_eq_none (by omega)]
  have hd:=post.drawn rfl;cases w' with
  | mk heap tape drawn os output =>have h1:os=w.os:=post.os;have h2:tape=w.tape:=post.tape;have h3:output=w.output:=post.output;subst h1 h2 h3;simp only at hh hd ⊢;unfold grow World.drewN;simp only;rw[← hh,show w.drawn+(drawn-w.drawn)=drawn from by omega]
end
variable {α:Type} [Inhabited α]
def Ph (cf:α→α→Int) (l:List α):List α:=(pdq (ltOf cf) l.toArray 0 l.toArray.size (Lib.bitLen l.toArray.size) true true).toList
theorem LM {cf:α→α→Int} (hO:SWO (ltOf cf)) (l:List α):(Ph cf l).Perm l∧(Ph cf l).Pairwise fun a b=>ltOf cf b a=false:=by
 obtain⟨⟨h1,-,h2⟩,h3⟩:=pdq_sorts (ltOf cf) hO l.toArray 0 l.toArray.size (Lib.bitLen l.toArray.size) true true (Nat.zero_le _) (Nat.le_refl _) (Or.inl rfl);unfold Ph;generalize pdq (ltOf cf) l.toArray 0 l.toArray.size (Lib.bitLen l.toArray.size) true true=d' at *;have e1:d'.extract 0 l.toArray.size=d':=by rw[← h1];simp
 have e2:l.toArray.extract 0 l.toArray.size=l.toArray:=by simp
 rw[e1,e2]at h2;refine⟨by simpa using h2,?_⟩;rw[List.pairwise_iff_getElem];intro i j hi hj hij;have:=h3 i j (Nat.zero_le _) hij (by rw[← h1];simpa using hj);have hi':i<d'.size:=by simpa using hi
 have hj':j<d'.size:=by simpa using hj
 rw[getElem!_pos d' j hj',getElem!_pos d' i hi']at this;simpa using this
theorem YO {cf:α→α→Int} (hO:SWO (ltOf cf)) (l:List α):(Ph cf l).length=l.length:=(LM hO l).1.length_eq
def LK (E:SortEnc α) (cf:α→α→Int) (g:Nat):EW:=fun args bl=>match args,bl with
 | [.slice s z off n,.p (.fn g' [])],[.arr true ks xs]=>match E.decs xs with
  | some l=>if(s==ah&&(z==E.ks.length&&(off==0&&(n==l.length&&(g'==g&&(decide (l.length≤100000)&&Kd.BQ ks E.ks))))))=true then some ([],[.arr true E.ks (E.encs (Ph cf l))]) else none
  | none=>none
 | _,_=>none
theorem abG (E:SortEnc α) (cf:α→α→Int) (g:Nat) (l:List α) (hl:l.length≤100000) (hk:Kd.BQ E.ks E.ks=true):LK E cf g [.slice ah E.ks.length 0 l.length,.p (.fn g [])] [.arr true E.ks (E.encs l)]=some ([],[.arr true E.ks (E.encs (Ph cf l))]):=by unfold LK;simp only[E.ac9];rw[if_pos (by simp[hl,hk])]
section
variable {P:Program} {T:Tab} {gl:Option (List (Nat × Obj))} {ρ:Ren}
theorem UK (E:SortEnc α) (l:List α) (i j:Nat) (v:α) (p:PV) (hv:l[i]?=some v) (hj:(E.pc v)[j]?=some p):(flatK E.vals E.ks.length l.toArray)[i*E.ks.length+j]! = p.val:=by
 have hi:i<l.length:=(qLa.1 hv).1;have hjl:j<E.ks.length:=by rw[← E.len v];exact(qLa.1 hj).1
 have hs:i*E.ks.length+j<l.toArray.size*E.ks.length:=by have:(i+1)*E.ks.length≤l.length*E.ks.length:=Nat.mul_le_mul_right _ hi;rw[Nat.succ_mul]at this;simp;omega
 rw[get_flatK _ _ _ _ hs];have e1:(i*E.ks.length+j) / E.ks.length=i:=by rw[Nat.mul_comm,Nat.mul_add_div (by omega),Nat.div_eq_of_lt hjl,Nat.add_zero]
 have e2:(i*E.ks.length+j)%E.ks.length=j:=by rw[Nat.mul_comm,Nat.mul_add_mod,Nat.mod_eq_of_lt hjl]
 rw[e1,e2];have e3:l.toArray[i]! = v:=by rw[getElem!_pos _ i (by simpa using hi)];simpa using (qLa.1 hv).2
 rw[e3];have:=E.YN v j;rw[hj]at this;rw[List.getElem!_eq_getElem?_getD,this];rfl
theorem SI (hne : gl ≠ none) (L : SlLaysF0.n6 P ρ) (E : SortEnc α) (hk0 : 0 < E.ks.length) (aE : ∀ w,(isAgg (ρ.t 24)).run P w = .ok true w) (zE : ∀ w,(Go.sizeOf (ρ.t 24)).run P w = .ok E.ks.length w) {cf : α → α → Int} (hO : SWO (ltOf cf)) {g : Nat}
    (eg:∀ args w,(callFunc g args).run P w=.ok (.enter g args) w) (hcmp:∀ (w:World) x y,Calls P g #[.agg (E.vals x).toArray,.agg (E.vals y).toArray] w fun e w'=>e=.returned (.int .i64 (cf x y))∧∃ q os',w'=grow (w.drewN q) os')
    {f:Nat} (hf:ρ.f 6=f) {fi:FI} {c:Code} (hfi:dN T.funcs f=some fi) (hb:fi.fn.body=some c) (hby:fi.cfg.vY=true) (ht:fi.fn.resultTypes=#[]):Pg P T gl f (LK E cf g):=by
  intro fi' args bl rs jX ae4 h;have:fi'=fi:=by rw[hfi]at ae4;exact(Option.some.inj ae4).symm
  subst this;unfold LK at h;split at h
  · next s z off n g' ks xs =>
    split at h
    · next l hd =>
      split at h
      · next hc =>
        simp only[qBa,beq_iff_eq,qDa]at hc;obtain⟨rfl,rfl,rfl,rfl,rfl,hn,hk⟩:=hc;have hk:=Kd.rJ _ _ hk;subst hk;have hxs:=E.ada hd;subst hxs;cases h;refine⟨⟨_,hb⟩,by simp[gI],fun w M β aY hgl hpre=>?_⟩;have a0:=hpre.args 0 _ rfl;have a1:=hpre.args 1 _ rfl;have hb0:=hpre.blk 0 _ rfl;have hlen:(E.encs l).length=l.length:=E.Om l;have hsz2:aY.size=2:=hpre.num;have c1:aY.getD 1 undef=.func (.func g') #[] #[]:=by
         generalize aY.getD 1 undef=u at a1;cases a1 with
         | p _ _ hv =>
          cases hv with
          | fn _ _ vs hn _ =>have:vs=#[]:=Array.eq_empty_of_size_eq_zero (by simpa using hn);rw[this]
        have hcg:aY=#[aY.getD 0 undef,.func (.func g') #[] #[]]:=by
         apply Array.ext
         · simpa using hsz2
         · intro i h1 h2;have:i=0∨i=1:=by omega
           rcases this with rfl | rfl
           · simp[Array.getD,hsz2]
           · have:aY.getD 1 undef=aY[1]:=by simp[Array.getD,hsz2]
             rw[← this,c1];rfl
        by_cases h0:l=[]
        · subst h0;obtain⟨p,cap,hv⟩:∃ p cap,aY.getD 0 undef=.slice p 0 cap:=by
           generalize hz:E.ks.length=z at a0;generalize hc0:aY.getD 0 undef=cv at a0;generalize hnn:([]:List α).length=nn at a0;cases a0 with
           | slice s off len a ks xs b o cap p1 p2 p3 p4 p5=>exact⟨_,cap,by rw[← hnn];rfl⟩
           | sliceE=>exact⟨_,_,rfl⟩
          rw[hv]at hcg;subst hcg;have call:=AnyF.slices_SortFunc_none L p cap (.func (.func g') #[] #[]) w;rw[hf]at call;refine call.mono fun e w' ⟨he,hw⟩=>⟨[],[],M,he,?_⟩;subst hw;refine⟨by rw[ht];exact .nil _,fun b o h=>by simp at h,(fun h _=>by rw[hby]at h;cases h),fun b h=>h,fun b h=>.inl h,fun b h=>hpre.gU b h,fun _ _ _=>rfl,fun _ _ _ h=>h,Nat.le_refl _,rfl,rfl,rfl,.refl _ _,rfl,?_⟩;intro i b0 b1 h1 h2
          match i,h1,h2 with
          | 0,h1,h2 =>cases h1;cases h2;have e:Ph cf ([]:List α)=[]:=List.length_eq_zero_iff.1 (YO hO []);rw[e];exact⟨.jS _ _,⟨rfl,rfl,Nat.le_refl _⟩,by simp[backOk,Kd.pG],rfl⟩
          | i+1,h1,h2=>simp at h1
        · have hpos:0<l.length:=List.length_pos_iff.2 h0;obtain⟨b,o,cap,tX,c0,hcap⟩:∃ b o cap,β ah=some (b,o)∧aY.getD 0 undef=.slice (some ⟨b,o,none⟩) l.length cap∧l.length≤cap:=by
           generalize hc0:aY.getD 0 undef=cv at a0;generalize hnn:l.length=nn at a0 hpos;generalize hz:E.ks.length=z at a0;cases a0 with
           | slice s off len a ks xs b o cap p1 p2 p3 p4 p5=>exact⟨b,o,cap,p3,by simp,p4⟩
           | sliceE=>exact absurd hpos (Nat.lt_irrefl 0)
          rw[c0]at hcg;subst hcg;have hown:=hpre.own 0 b o (by simp) tX;have ahS:∃ C e fr,w.heap[b]?=some (.cells C e fr)∧o+l.length*E.ks.length≤C.size∧Open C fr∧∀ (i:Nat) (x:α) (j:Nat) (p:PV),l[i]?=some x→(E.pc x)[j]?=some p→C.getD (o+i*E.ks.length+j) undef=p.val:=by
           generalize hx:cu.arr true E.ks (E.encs l)=x at hb0;cases hb0 with
           | box=>cases hx
           | log=>cases hx
           | jS a ks =>
            injection hx with _ _ h3
            have:=congrArg List.length h3;simp[SortEnc.encs]at this;exact absurd this h0
           | arr a ks xs b' o' C e fr hb hw hn ho hs hc =>
            injection hx with h1 h2 h3
            subst h1 h2 h3;have:(b',o')=(b,o):=by rw[show ah+0=ah from rfl,tX]at hb;exact(Option.some.inj hb).symm
            cases this;refine⟨C,e,fr,hw,by simpa [SortEnc.encs] using hn,ho,fun i x j p hx hp=>?_⟩;exact Ht (E.flat x p (qLe hp)) (hc i (.agg (E.pc x)) j p (by rw[E.YM,hx];rfl) hp)
          obtain⟨C,e,fr,hw,hCn,hopen,hcell⟩:=ahS;have hH:HoldsK E.vals E.ks.length w b o l.toArray:=by
           intro t ht;rw[size_flatK]at ht;have ht':t<l.length*E.ks.length:=by simpa using ht
           have hi:t / E.ks.length<l.length:=Nat.div_lt_of_lt_mul (by rwa[Nat.mul_comm]at ht');have hj:t%E.ks.length<E.ks.length:=Nat.mod_lt _ hk0;have et:t=t / E.ks.length*E.ks.length+t%E.ks.length:=by rw[Nat.mul_comm];exact(Nat.div_add_mod _ _).symm
           obtain⟨v,hv⟩:∃ v,l[t / E.ks.length]?=some v:=⟨_,qLd hi⟩;obtain⟨p,hp⟩:∃ p,(E.pc v)[t%E.ks.length]?=some p:=⟨_,qLd (by rw[E.len v];exact hj)⟩;have h1:=hcell _ _ _ _ hv hp;have h2:=UK E l _ _ v p hv hp;rw[← et]at h2;rw[Nat.add_assoc,← et]at h1;have hin:o+t<C.size:=by omega
           constructor
           · simp only[World.cell?,hw,Option.isSome_none,Bool.false_eq_true,if_false];rw[qAd hin];have:C.getD (o+t) undef=C[o+t]:=by simp[Array.getD,hin]
             rw[← this,h1,h2];rfl
           · have:=hopen.at (o+t) hin;obtain⟨lo,hi⟩:=fr;simp only[World.frozen?,hw];simp only[Bool.and_eq_false_iff,decide_eq_false_iff_not];simp only[not_and,Nat.not_lt]at this;by_cases hlo:lo≤o+t
             · right;have:=this hlo;omega
             · left;exact hlo
          have call:=AnyQ.slices_SortFunc_eq L E.ks.length aE zE E.vals E.vals_length E.ae3 cf hO g' #[] b o cap l.toArray w eg (fun _m _os _dk _ x y=>hcmp _ x y) hH hown.2 (by simp;omega);rw[hf]at call;refine Calls.mono call fun ee w' hpost=>?_;obtain⟨he,m,os,hw'⟩:=hpost;have hsl:pdq (ltOf cf) l.toArray 0 l.toArray.size (Lib.bitLen l.toArray.size) true true=(Ph cf l).toArray:=by simp[Ph]
          rw[hsl]at hw';have hpl:=YO hO l;generalize Ph cf l=sl at *;refine⟨[],[],M,he,?_⟩;have hheap:w'.heap=(w.heap.modify b (onCells (putCells id o (flatK E.vals E.ks.length sl.toArray))))++os:=by rw[hw'];rfl
          have hsz:w.heap.size≤w'.heap.size:=by rw[hheap];simp
          have hold:∀ k,k<w.heap.size→w'.heap[k]?=(w.heap.modify b (onCells (putCells id o (flatK E.vals E.ks.length sl.toArray))))[k]?:=fun k hk=>by rw[hheap,Array.getElem?_append_left (by simpa using hk)]
          have hoth:∀ k,k<w.heap.size→k≠b→w'.heap[k]?=w.heap[k]?:=fun k hk hne=>by rw[hold k hk,Array.getElem?_modify,if_neg (fun e=>hne e.symm)]
          have agW:w'.heap[b]?=some (.cells (putCells id o (flatK E.vals E.ks.length sl.toArray) C) e fr):=by rw[hold b hown.2,Array.getElem?_modify,if_pos rfl,hw];rfl
          have hCs:(putCells id o (flatK E.vals E.ks.length sl.toArray) C).size=C.size:=by unfold putCells;simp
          refine⟨by rw[ht];exact .nil _,fun b o h=>by simp at h,(fun h _=>by rw[hby]at h;cases h),fun b hb=>hb,fun b hb=>Or.inl hb,fun k hk=>Nat.lt_of_lt_of_le (hpre.gU k hk) hsz,?_,?_,hsz,?_,?_,?_,fun e=>absurd e hne,rfl,?_⟩
          · intro k hk hnn;refine hoth k hk fun e=>?_;subst e;exact hnn 0 o (by simp) tX
          · intro k m hk hroom;by_cases hkb:k=b
            · subst hkb;obtain⟨C',e',fr',h1,h2,h3⟩:=hroom;rw[hw]at h1;cases h1;exact⟨_,e,fr,agW,by rw[hCs];exact h2,fun hm=>(h3 hm).size hCs⟩
            · obtain⟨C',e',fr',h1,h2,h3⟩:=hroom;exact⟨C',e',fr',by rw[hoth k hk hkb];exact h1,h2,h3⟩
          · rw[hw'];rfl
          · rw[hw'];rfl
          · rw[hw'];rfl
          · intro i x0 x1 h1 h2
            match i,h1,h2 with
            | 0,h1,h2 =>
             cases h1;cases h2;refine⟨?_,⟨rfl,rfl,by simp[SortEnc.encs,hpl]⟩,by simp[backOk,Kd.pG],rfl⟩;refine .arr true E.ks _ b o _ e fr tX agW ?_ (hopen.size hCs) ?_ ?_
             · rw[hCs,E.Om,hpl];exact hCn
             · intro x hx;simp only[SortEnc.encs,List.mem_map]at hx;obtain⟨v,_,rfl⟩:=hx;exact E.kinds v
             · intro i x j c hx hc;rw[E.YM]at hx;obtain⟨v,hv,rfl⟩:=Option.map_eq_some_iff.1 hx;have hc:(E.pc v)[j]?=some c:=hc;have hg:=UK E sl i j v c hv hc;have hi:i<sl.length:=(qLa.1 hv).1;have hjl:j<E.ks.length:=by rw[← E.len v];exact(qLa.1 hc).1
               have hin':i*E.ks.length+j<l.length*E.ks.length:=by have:(i+1)*E.ks.length≤l.length*E.ks.length:=Nat.mul_le_mul_right _ (by omega);rw[Nat.succ_mul]at this;omega
               have hin:o+i*E.ks.length+j<C.size:=by omega
               have hval:(putCells id o (flatK E.vals E.ks.length sl.toArray) C).getD (o+i*E.ks.length+j) undef=c.val:=by
                rw[qAb];unfold putCells;rw[Array.getElem?_mapIdx,qAd hin];simp only[Option.map_some,Option.getD_some,size_flatK];rw[if_pos ⟨by omega,by simp[hpl];omega⟩];have:o+i*E.ks.length+j-o=i*E.ks.length+j:=by omega
                rw[this,hg];rfl
               show VR w' M c ((putCells id o (flatK E.vals E.ks.length sl.toArray) C).getD (o+i*E.ks.length+j) undef);rw[hval];exact ae2 (E.flat v c (qLe hc))
            | i+1,h1,h2=>simp at h1
      · cases h
    · cases h
  · cases h
end
end Go.Skm
namespace Go.Skm
open Go Go.Proofs Go.Shelf Go.RowKit Go.Lib
variable {P:Program} {ρ:Ren}
set_option maxHeartbeats 2000000 in
set_option maxRecDepth 100000 in
theorem aar (L : SlLaysE0.n41 P ρ) (i0 : TypeInfo) (z : Value) (size bytes : Nat) (hi : P.info? (ρ.t 23) = some i0) (hz0 : i0.zero = some z) (hz1 : i0.size = size) (hz2 : i0.bytes = bytes) (hzs : z.cells.size = size) (hsz : 0 < size)
    (z23:∀ w,(Go.sizeOf (ρ.t 23)).run P w=.ok size w) (a:Addr) (c:Nat) (w:World) :
    Calls P (ρ.f 41) #[.slice (some a) 0 c] w fun e w'=>∃ v',e=.returned v'∧w'.ownsRow w.heap.size (ρ.t 23) size v' 0 []∧Below w.heap.size w w':=by
  have mixed:=L.mixed;have t4:=L.t4;have a4:=L.a4;have z4:=L.z4;have v4:=L.v4;have t22:=L.t22;have a22:=L.a22;have z22:=L.z22;have v22:=L.v22;have q22:∀ (w:World) (a:Option Addr) (n c n' c':Nat),(binOp .eql (ρ.t 22) (.slice a n c) (.slice none n' c')).run P w=.ok (.bool a.isNone) w:=fun w a n c n' c'=>Lib.run_eql_slice_nil w _ _ a n c n' c' L.t22;have u22:∀ w,Sem.run P (underlying (ρ.t 22)) w=.ok (TypeDesc.slice (ρ.t 23)) w:=run_underlying t22;obtain⟨_,_,FG⟩:=L.f41
  go_enter FG,SlBodyN.n41_ntmps ρ
  go_wp2_with (at_builtin;refine wpList_append_own _ rfl _ _ (ρ.t 22) rfl w.heap.size (ρ.t 23) i0 z size bytes t22 hi hz0 hz1 hz2 hzs hsz _ _ _ rfl (World.ownsRow_made w #[] 0 (Nat.le_refl _) (Nat.zero_le _) (by simp)) a 0 c [] rfl ?qc1 ?qc2 ?qc3 ?qc4 ?qc5 ?qc6 ?_)
  case qc1=>simp
  case qc2 =>intro j u hj;simp at hj
  case qc3=>intro u hu;simp at hu
  case qc4=>simp
  case qc5=>simp
  case qc6=>simp
  intro v' w1 hown hgrow hnil
  go_wp2
  go_ret
  refine⟨v',rfl,by simpa using hown,?_⟩;exact((Below.refl _ w).alloc (Nat.le_refl _) _).grown hgrow (by simp) (by intro k hk;simp[Value.ownBlock]at hk;omega)
section
variable {T:Tab} {fi:FI} {β:Nat→Option (Nat × Nat)}
theorem UL {t e el : TypeId} {a : Bool} {ks : List Kd} {w' : World} {v' : Value} {base : Nat} {h : Nat → Option cu} (hr : fi.cfg.rets = [.fresh]) (ht : fi.fn.resultTypes = #[t]) (hu : und T t = some (.slice e)) (hsh : bY T e = (a,ks))
    (ho:w'.ownsRow base el ks.length v' 0 []):∃ ps,(∀ M:Nat→Prop,CQ T w' M β h fi.cfg.rets fi.fn.resultTypes.toList [.fresh a ks []] [v'] ps)∧∀ b o,some (b,o)∈ps→b<w'.heap.size∧base≤b:=by
  have e1:(bY T e).1=a:=by rw[hsh]
  have e2:(bY T e).2=ks:=by rw[hsh]
  obtain⟨-,⟨rfl,-⟩ | ⟨g,cap,cur,rfl,hb,hg,-,-,hsz,-⟩⟩:=ho
  · refine⟨[none],fun M=>?_,fun b o h=>by simp at h⟩;rw[hr,ht];refine .cons _ _ _ _ _ _ _ _ _ ?_ (.nil _) (fun b o o' _ h=>by cases h);have key:=DY.fresh (T:=T) (w:=w') (M:=M) (β:=β) (h:=h) t e [] (.slice none 0 0) none hu;rw[e1,e2]at key;exact key (.jS _ _) (.sliceE 0 0 a ks [] none rfl (Nat.le_refl _))
  · refine⟨[some (g,0)],fun M=>?_,fun b o h=>?_⟩
    · rw[hr,ht];refine .cons _ _ _ _ _ _ _ _ _ ?_ (.nil _) (fun b o o' _ h=>by cases h);have key:=DY.fresh (T:=T) (w:=w') (M:=M) (β:=β) (h:=h) t e [] (.slice (some ⟨g,0,none⟩) 0 cap) (some (g,0)) hu;rw[e1,e2]at key;refine key (.jS _ _) ?_;have k2:=AR.slice (w:=w') (M:=M) (β:=fun _=>some (g,0)) (h:=fun _=>some (.arr a ks [])) 0 0 0 a ks [] g 0 cap rfl (by simp) rfl (Nat.zero_le _) ⟨cur,el,(0,0),hg,by simp;omega,fun _=>.inl rfl⟩;simpa using k2
    · simp only[List.mem_singleton,qOa,Prod.mk.injEq]at h;obtain⟨rfl,rfl⟩:=h;exact⟨(qAa.1 hg).1,hb⟩
end
end Go.Skm
namespace Go.Skm
open Go Go.Proofs Go.Shelf Go.RowKit Go.Lib
variable {P:Program} {ρ:Ren} {T:Tab}
theorem ahT {w:World} {M:Nat→Prop} {v:PV} {c:Value} (h:VR w M v c) (hl:v.leaf=true):c.oneCell'=true:=by cases h<;>first | rfl | (simp[PV.leaf]at hl)
def rowOf (f:Nat→Nat→Value) (n W:Nat):List Value:=(List.range (n*W)).map fun q=>f (q / W) (q%W)
theorem Ns (f:Nat→Nat→Value) (n W:Nat):(rowOf f n W).length=n*W:=by simp[rowOf]
theorem UM {f:Nat→Nat→Value} {n W i j:Nat} (hi:i<n) (hj:j<W):(rowOf f n W)[i*W+j]?=some (f i j):=by
 have h1:i*W+j<n*W:=by have:(i+1)*W≤n*W:=Nat.mul_le_mul_right W hi;rw[Nat.succ_mul]at this;omega
 have h2:(i*W+j) / W=i:=by rw[Nat.mul_comm,Nat.mul_add_div (by omega),Nat.div_eq_of_lt hj];omega
 have h3:(i*W+j)%W=j:=by rw[Nat.mul_comm,Nat.mul_add_mod,Nat.mod_eq_of_lt hj]
 rw[rowOf,List.getElem?_map,List.getElem?_range h1,Option.map_some,h2,h3]
theorem UN {q n W:Nat} (h:q<n*W) (hW:0<W):q / W<n∧q%W<W∧q / W*W+q%W=q :=
 ⟨Nat.div_lt_of_lt_mul (by rw[Nat.mul_comm];exact h),Nat.mod_lt _ hW,by rw[Nat.mul_comm];exact Nat.div_add_mod q W⟩
structure ae5 (w w':World) (M:Nat→Prop) (a:Bool) (ks:List Kd) (xs:List PV) (e:TypeId) (v':Value):Prop where
 below:Below w.heap.size w w'
 row:(xs=[]∧w'.ownsRow w.heap.size e ks.length v' 0 [])∨∃ f,(∀ (i:Nat) (x:PV) (j:Nat) (c:PV),xs[i]?=some x→x.cells[j]?=some c→VR w M c (f i j))∧(∀ x∈xs,bZ a ks x=true)∧w'.ownsRow w.heap.size e ks.length v' xs.length (rowOf f xs.length ks.length)
theorem YP (L : SlLaysE0.n41 P ρ) {ks : List Kd} {a : Bool} {i0 : TypeInfo} {z : Value} (hi : P.info? (ρ.t 23) = some i0) (hz0 : i0.zero = some z) (hz1 : i0.size = ks.length) (hzs : z.cells.size = ks.length) (hby : i0.bytes ≤ 1000) (hsz : 0 < ks.length)
    (z23:∀ w,(Go.sizeOf (ρ.t 23)).run P w=.ok ks.length w) {w:World} {M:Nat→Prop} {xs:List PV} {c:Value} (hv:VR w M (.list a ks xs) c) (hn:xs.length≤100000) :
    Calls P (ρ.f 41) #[c] w fun e w'=>∃ v',e=.returned v'∧ae5 w w' M a ks xs (ρ.t 23) v':=by
  generalize hys:xs=ys at hv;cases hv with
  | list _ _ _ b o cap f hM hcap hc hvr hs =>
   subst hys;have hnb:xs.length*i0.bytes≤140737488355328:=by
    have:=Nat.mul_le_mul hn hby
    omega
   refine(AnyE.slices_Clone L i0 z ks.length i0.bytes hi hz0 hz1 rfl hzs hsz z23 b o xs.length cap (rowOf f xs.length ks.length) w (Ns _ _ _) (Nat.le_trans hn (by decide)) hnb (fun q u hq=>?_) (fun u hu=>?_)).mono fun e w' ⟨v',he,ho,_,hb⟩=>⟨v',he,hb,.inr ⟨f,hvr,hs,ho⟩⟩
   · have hql:q<xs.length*ks.length:=by rw[← Ns f];exact(qLa.1 hq).1
     obtain⟨h1,h2,h3⟩:=UN hql hsz;have hx:xs[q / ks.length]?=some xs[q / ks.length]:=qLd h1;have hl:xs[q / ks.length].cells.length=ks.length:=eP (hs _ (List.getElem_mem h1));have hcc:=hc _ _ _ _ hx (qLd (by rw[hl];exact h2));have h4:=UM (f:=f) h1 h2;rw[h3]at h4;rw[h4]at hq;rw[Nat.add_assoc,h3]at hcc;rw[hcc];exact hq
   · obtain⟨q,hq,rfl⟩:=List.mem_map.1 hu;obtain⟨h1,h2,h3⟩:=UN (List.mem_range.1 hq) hsz;have hx:xs[q / ks.length]?=some xs[q / ks.length]:=qLd h1;have hsx:=hs _ (List.getElem_mem h1);obtain⟨c,hc1,hc2,_⟩:=rM hsx (qLd h2);exact ahT (hvr _ _ _ _ hx hc1) (jH hc2)
  | vZ _ _ base cap =>
   subst hys;cases base with
   | none=>exact(AnyE.slices_Clone_nil L 0 cap w).mono fun e w' ⟨he,hw⟩=>⟨_,he,hw▸Below.refl _ _,.inl ⟨rfl,by simp,.inl ⟨rfl,rfl⟩⟩⟩
   | some ad=>exact(aar L i0 z ks.length i0.bytes hi hz0 hz1 rfl hzs hsz z23 ad cap w).mono fun e w' ⟨v',he,ho,hb⟩=>⟨v',he,hb,.inl ⟨rfl,ho⟩⟩
section
variable {gl:Option (List (Nat × Obj))} {fi:FI} {w w':World} {M:Nat→Prop} {β:Nat→Option (Nat × Nat)} {aY:Array Value} {a:Bool} {ks:List Kd} {xs:List PV} {el:TypeId} {v':Value}
theorem ae6 {args : List AV} (hsh : fi.cfg.shares = true) (aro : tZ w M β args [] aY) (hb : Below w.heap.size w w') (hdr : jK gl w.drawn w'.drawn) {rs : List AV} {cs : List Value} {ps : List (Option (Nat × Nat))} {M' : Nat → Prop}
    (hm:∀ b,M b→M' b) (hm2:∀ b,M' b→M b∨w.heap.size≤b) (hm3:∀ b,M' b→b<w'.heap.size)
    (hres:CQ T w' M' β (look (gV 0 [])) fi.cfg.rets fi.fn.resultTypes.toList rs cs ps) (hown:∀ b o,some (b,o)∈ps→¬ M' b∧b<w'.heap.size∧w.heap.size≤b):DZ gl T fi w M β [] rs [] w' M' cs ps:=by
  refine⟨hres,hown,fun _ h=>?_,hm,hm2,hm3,fun b h _=>hb.block b h,?_,hb.size,hb.os,hb.tape,hb.output,hdr,rfl,?_⟩
  · rw[hsh]at h;cases h
  · intro b n h hr;obtain⟨C,e,fr,h1,h2,h3⟩:=hr;exact⟨C,e,fr,by rw[hb.block b h];exact h1,h2,h3⟩
  · intro i b0 b1 h;simp at h
theorem WL {t e : TypeId} {h : Nat → Option cu} (hcp : ae5 w w' M a ks xs el v') (hlt : ∀ b,M b → b < w.heap.size) (hr : fi.cfg.rets = [.fresh]) (ht : fi.fn.resultTypes = #[t]) (hu : und T t = some (.slice e)) (hsh : bY T e = (a,ks)) :
    ∃ ps,CQ T w' M β h fi.cfg.rets fi.fn.resultTypes.toList [.fresh a ks xs] [v'] ps∧∀ b o,some (b,o)∈ps→b<w'.heap.size∧w.heap.size≤b:=by
  rcases hcp.row with ⟨rfl,ho⟩ | ⟨f,hv,hs,ho⟩
  · obtain⟨ps,p1,p2⟩:=UL (β:=β) (h:=h) hr ht hu hsh ho;exact⟨ps,p1 M,p2⟩
  · by_cases h0:xs=[]
    · subst h0;have ho':w'.ownsRow w.heap.size el ks.length v' 0 []:=by have:rowOf f ([]:List PV).length ks.length=[]:=List.length_eq_zero_iff.1 (by rw[Ns];simp);rw[this]at ho;exact ho
      obtain⟨ps,p1,p2⟩:=UL (β:=β) (h:=h) hr ht hu hsh ho';exact⟨ps,p1 M,p2⟩
    · have e1:(bY T e).1=a:=by rw[hsh]
      have e2:(bY T e).2=ks:=by rw[hsh]
      obtain⟨-,⟨-,hz⟩ | ⟨g,cap,cur,rfl,hb,hg,hcap,-,hsz,htk⟩⟩:=id ho
      · exact absurd (List.length_eq_zero_iff.1 hz) h0
      · refine⟨[some (g,0)],?_,fun b o h=>?_⟩
        · rw[hr,ht];refine .cons _ _ _ _ _ _ _ _ _ ?_ (.nil _) (fun b o o' _ h=>by cases h);have hopen:Open cur (0,0):=.inl rfl;have key:=DY.fresh (T:=T) (w:=w') (M:=M) (β:=β) (h:=h) t e xs (.slice (some ⟨g,0,none⟩) xs.length cap) (some (g,0)) hu;rw[e1,e2]at key;have hle:xs.length*ks.length≤cur.size:=by rw[hsz];exact Nat.mul_le_mul_right _ hcap
          refine key ?_ ?_
          · refine .arr a ks xs g 0 cur el (0,0) rfl hg (by omega) hopen hs fun i x j c hx hc=>?_;have hi:i<xs.length:=(qLa.1 hx).1;have hxm:xs[i]=x:=(qLa.1 hx).2;have hj:j<ks.length:=by rw[← eP (hs x (hxm▸List.getElem_mem hi))];exact(qLa.1 hc).1
            have hq:i*ks.length+j<xs.length*ks.length:=by have:(i+1)*ks.length≤xs.length*ks.length:=Nat.mul_le_mul_right _ hi;rw[Nat.succ_mul]at this;omega
            have hcell:=ho.cellAt _ hq;rw[UM hi hj]at hcell;have hd:cur.getD (0+i*ks.length+j) undef=f i j:=by
             have hlt2:i*ks.length+j<cur.size:=by omega
             simp only[World.cell?,hg,Option.isSome_none,Bool.false_eq_true,if_false]at hcell;rw[Nat.zero_add,qAb,hcell];rfl
            rw[hd];exact(hv i x j c hx hc).mono fun b hb=>⟨hb,hcp.below.block b (hlt b hb)⟩
          · have key2:=AR.slice (w:=w') (M:=M) (β:=fun _=>some (g,0)) (h:=fun _=>some (.arr a ks xs)) 0 0 xs.length a ks xs g 0 cap rfl (by simp) rfl hcap (.mk hg (by rw[hsz];simp) hopen);simpa using key2
        · simp only[List.mem_singleton,qOa,Prod.mk.injEq]at h;obtain⟨rfl,rfl⟩:=h;exact⟨(qAa.1 hg).1,hb⟩
end
def Jh (a:Bool) (ks:List Kd):EW:=fun args bl=>match args,bl with
 | [.p (.list a' ks' xs)],[]=>if(a'==a&&(Kd.BQ ks' ks&&decide (xs.length≤100000)))=true then some ([.fresh a ks xs],[]) else none
 | _,_=>none
structure U0 (P:Program) (T:Tab) (ρ:Ren) (f:Nat) (fi:FI) (t e:TypeId) (a:Bool) (ks:List Kd):Prop where
 L:SlLaysE0.n41 P ρ
 hf:ρ.f 41=f
 hfi:dN T.funcs f=some fi
 hb:∃ c,fi.fn.body=some c
 hs:fi.cfg.shares=true
 ht:fi.fn.resultTypes=#[t]
 hu:und T t=some (.slice e)
 hsh:bY T e=(a,ks)
 info:∃ i0 z,P.info? (ρ.t 23)=some i0∧i0.zero=some z∧i0.size=ks.length∧z.cells.size=ks.length∧i0.bytes≤1000
 hsz:0<ks.length
 z23:∀ w,(Go.sizeOf (ρ.t 23)).run P w=.ok ks.length w
theorem FD {gl:Option (List (Nat × Obj))} (hne:gl≠none) {f:Nat} {fi:FI} {t e:TypeId} {a:Bool} {ks:List Kd} (A:U0 P T ρ f fi t e a ks) (hr:fi.cfg.rets=[.fresh]):Pg P T gl f (Jh a ks):=by
 intro fi' args bl rs jX ae4 h;have:fi'=fi:=by rw[A.hfi]at ae4;exact(Option.some.inj ae4).symm
 subst this;unfold Jh at h;split at h
 · next a' ks' xs =>
   split at h
   · next hc =>simp only[qBa,beq_iff_eq,qDa]at hc;obtain⟨rfl,hk,hn⟩:=hc;have hk:=Kd.rJ _ _ hk;subst hk;cases h;refine⟨A.hb,by simp,fun w M β aY hgl hpre=>?_⟩;obtain⟨v,rfl,hv⟩:=ac7 hpre;obtain⟨i0,z,k1,k2,k3,k4,k5⟩:=A.info;have call:=YP A.L k1 k2 k3 k4 k5 A.hsz A.z23 hv hn;rw[A.hf]at call;refine call.mono fun e' w' ⟨v',he,hcp⟩=>?_;obtain⟨ps,p1,p2⟩:=WL (β:=β) (h:=look (gV 0 [])) hcp hpre.gU hr A.ht A.hu A.hsh;refine⟨[v'],ps,M,he,ae6 A.hs hpre hcp.below (fun e=>absurd e hne) (fun _ h=>h) (fun _ h=>.inl h) (fun b h=>Nat.lt_of_lt_of_le (hpre.gU b h) hcp.below.size) p1 (fun b o h=>⟨fun hM=>?_,p2 b o h⟩)⟩;have:=hpre.gU b hM;have:=(p2 b o h).2;omega
   · cases h
 · cases h
end Go.Skm
