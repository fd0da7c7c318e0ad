import Derived.Test.YtoheflpoanjihaaGreatSkmG
import Derived.Test.YtoheflpoanjihaaGreatSkmE
import Derived.Shelf.SlGeneric
import Derived.Shelf.SlSortCmp.NoneTotal
import Derived.Shelf.SlicesE.Clone
import Derived.Laws.OwnMore
set_option linter.all false
namespace Go.Skm
open Go Go.Proofs Go.Shelf Go.RowKit
section
open Go.Sort
end
section
open Go.Sort
variable {w:World}{M:Nat->Prop}{p:PV}
def PV.val:PV->Value
 | .int k n=>.int k n
 | .bool b=>.bool b
 | .str s=>.string s
 | _=>undef
def PV.Qo:PV->Bool
 | .int _ _=>true
 | .bool _=>true
 | .str _=>true
 | _=>false
theorem akB(h:p.Qo=true):VR w M p p.val:=by
 cases p<;>simp only[PV.Qo,Bool.false_eq_true]at h
 . exact .bool _
 . exact .int _ _
 . exact .str _
theorem Lc{c:Value}(h:p.Qo=true)(b:VR w M p c):c=p.val:=by cases b<;>simp only[PV.Qo,Bool.false_eq_true]at h<;>rfl
theorem afd(h:p.Qo=true):p.leaf=true:=by cases p<;>simp only[PV.Qo,Bool.false_eq_true]at h<;>rfl
theorem ah7(h:p.Qo=true):p.val.oneCell'=true:=by cases p<;>simp only[PV.Qo,Bool.false_eq_true]at h<;>rfl
structure SortEnc (α:Type) where
 ks:List Kd
 pc:α->List PV
 dec:PV->Option α
 len:∀ x,(pc x).length=ks.length
 flat:∀ x,∀ c∈pc x,c.Qo=true
 kinds:∀ x,bY true ks (.agg (pc x))=true
 enc_dec:∀ x,dec (.agg (pc x))=some x
 dec_enc:∀ p x,dec p=some x->p=.agg (pc x)
namespace SortEnc
variable {α:Type} (E:SortEnc α)
def encs(l:List α):List PV:=l.map λx=>.agg (E.pc x)
def decs:List PV->Option (List α)
 |[]=>some []
 | p::r=>match E.dec p,decs r with
  | some v,some l=>some (v::l)
  | _,_=>none
theorem ah8(l:List α):E.decs (E.encs l)=some l:=by
 induction l with
 | nil=>rfl
 | cons v l b=>grind[encs,decs,E.enc_dec]
theorem ah9{xs:List PV}:∀{l:List α},E.decs xs=some l->xs=E.encs l:=by
 induction xs with
 | nil=>intro l h;cases h;rfl
 | cons p r b =>
  intro l h;unfold decs at h;split at h
  . next v l' h1 h2 =>cases h;rw[E.dec_enc _ _ h1,b h2];rfl
  . cases h
theorem TM(l:List α):(E.encs l).length=l.length:=by simp[encs]
theorem adw(l:List α)(i:Nat):(E.encs l)[i]?=(l[i]?).map λx=>PV.agg (E.pc x):=by simp[encs]
def vals(x:α):List Value:=(E.pc x).map PV.val
theorem vals_length(x:α):(E.vals x).length=E.ks.length:=by simp[vals,E.len]
theorem adx(x:α)(j:Nat):(E.vals x)[j]?=((E.pc x)[j]?).map PV.val:=by simp[vals]
theorem akC(x:α):∀ v∈E.vals x,v.oneCell'=true:=by intro v b;obtain⟨p,hp,rfl⟩:=List.mem_map.1 b;exact ah7 (E.flat x p hp)
theorem vr(w:World)(M:Nat->Prop)(x:α):VR w M (.agg (E.pc x)) (.agg (E.vals x).toArray):=by
 refine .agg _ _ (by simp[vals]) (λc b=>afd (E.flat x c b)) λi c b=>?_;have e:(E.vals x).toArray.getD i undef=c.val:=by rw[qAb,List.getElem?_toArray,E.adx,b];rfl
 rw[e];exact akB (E.flat x c (qLe b))
end SortEnc
section
variable {α:Type} {P:Program} {T:Tab}
theorem agG(ok:fB P T){X:Ext}(I:vF P T none X){g:Nat}{fi:FI}(r:dZ T.funcs g=some fi)(H:fi.cfg.rets=[]){t:TypeId}(F:fi.fn.resultTypes=#[t])(E:SortEnc α){x y:α}{n:Int}
    (h:run T X g [.p (.agg (E.pc x)),.p (.agg (E.pc y))] []=some ([.p (.int .i64 n)],[]))(w:World) :
    Calls P g #[.agg (E.vals x).toArray,.agg (E.vals y).toArray] w λe w'=>e=.returned (.int .i64 n)/\∃ q m,w'=grow (w.drewN q) m:=by
  have G:=(Qw ok I).plain g fi _ [] _ [] r (by simp) h;have l:wI w (λ_=>False) (λ_=>none) [.p (.agg (E.pc x)),.p (.agg (E.pc y))] [] #[.agg (E.vals x).toArray,.agg (E.vals y).toArray]:=by
   refine⟨rfl,λi v f=>?_,λi b0 f=>by simp at f,λi b o f=>by simp at f,λi j b o N f=>by simp at f,λb u=>u.elim⟩
   match i,f with
   | 0,f=>cases f;exact .p _ _ (E.vr w _ x)
   | 1,f=>cases f;exact .p _ _ (E.vr w _ y)
   | i+2,f=>simp at f
  refine Calls.mono (G.2 w _ _ _ (by simp) l) λe w' hpost=>?_;obtain⟨cs,L,M',rfl,d⟩:=hpost;have s:cs=[.int .i64 n]:=by
   have k:=d.res;rw[H,F]at k;cases k with
   | cons _ _ _ _ _ c K p C A z _ =>
    cases z;cases A with
    | deep _ x _ _ D=>cases D;rfl
  subst s;refine⟨rfl,w'.drawn-w.drawn,w'.heap.extract w.heap.size w'.heap.size,?_⟩;have hkeep:∀ b,b<w.heap.size->w'.heap[b]?=w.heap[b]?:=λb u=>d.keep b u λi o f=>by simp at f
  have B:w'.heap=w.heap++w'.heap.extract w.heap.size w'.heap.size:=by apply Array.ext_getElem?;grind
  have hd:=d.drawn rfl;cases w' with
  | mk heap tape drawn os output =>have A:os=w.os:=d.os;have z:tape=w.tape:=d.tape;have J:output=w.output:=d.output;subst A z J;simp only at B hd ⊢;unfold grow World.drewN;simp only;rw[<- B,show w.drawn+(drawn-w.drawn)=drawn from by omega]
end
variable {α:Type} [Inhabited α]
def UO(cf:α->α->Int)(l:List α):List α:=(pdq (ltOf cf) l.toArray 0 l.toArray.size (Lib.bitLen l.toArray.size) true true).toList
theorem Qy{d:α->α->Int}(m:SWO (ltOf d))(l:List α):(UO d l).Perm l/\(UO d l).Pairwise λa b=>ltOf d b a=false:=by
 obtain⟨⟨h,-,g⟩,o⟩:=pdq_sorts (ltOf d) m l.toArray 0 l.toArray.size (Lib.bitLen l.toArray.size) true true (Nat.zero_le _) (qNr _) (Or.inl rfl);unfold UO;generalize pdq (ltOf d) l.toArray 0 l.toArray.size (Lib.bitLen l.toArray.size) true true=d' at *;have r:d'.extract 0 l.toArray.size=d':=by rw[<- h];simp
 have q:l.toArray.extract 0 l.toArray.size=l.toArray:=by simp
 rw[r,q]at g;refine⟨by simpa using g,?_⟩;rw[List.pairwise_iff_getElem];intro i j s k f;have:=o i j (Nat.zero_le _) f (by rw[<- h];simpa using k);grind
theorem ady{b:α->α->Int}(d:SWO (ltOf b))(l:List α):(UO b l).length=l.length:=(Qy d l).1.length_eq
def Qx(E:SortEnc α)(cf:α->α->Int)(g:Nat):IV:=λargs bl=>match args,bl with
 |[.slice s z off n,.p (.fn g' [])],[.arr true ks xs]=>match E.decs xs with
  | some l=>if(s==ah&&(z==E.ks.length&&(off==0&&(n==l.length&&(g'==g&&(decide (l.length<=100000)&&Kd.Fe ks E.ks))))))=true then some ([],[.arr true E.ks (E.encs (UO cf l))])else none
  | none=>none
 | _,_=>none
theorem agI(E:SortEnc α)(b:α->α->Int)(g:Nat)(l:List α)(d:l.length<=100000)(f:Kd.Fe E.ks E.ks=true):Qx E b g [.slice ah E.ks.length 0 l.length,.p (.fn g [])] [.arr true E.ks (E.encs l)]=some ([],[.arr true E.ks (E.encs (UO b l))]):=by grind[E.ah8,Qx]
section
variable {P:Program} {T:Tab} {gl:Option (List (Nat × Obj))} {ρ:Ren}
theorem Zi (E:SortEnc α) (l:List α) (i j:Nat) (v:α) (p:PV) (hv:l[i]?=some v) (hj:(E.pc v)[j]?=some p):(flatK E.vals E.ks.length l.toArray)[i*E.ks.length+j]! = p.val:=by
 have hi:i<l.length:=(qLa.1 hv).1
 have hjl:j<E.ks.length:=by rw[<- E.len v];exact(qLa.1 hj).1
 have hs:i*E.ks.length+j<l.toArray.size*E.ks.length:=by
  have:(i+1)*E.ks.length<=l.length*E.ks.length:=Nat.mul_le_mul_right _ hi
  grind
 rw[get_flatK _ _ _ _ hs]
 have e1:(i*E.ks.length+j) / E.ks.length=i:=by
  rw[Nat.mul_comm,Nat.mul_add_div (by omega),Nat.div_eq_of_lt hjl,Nat.add_zero]
 have e2:(i*E.ks.length+j)%E.ks.length=j:=by
  rw[Nat.mul_comm,Nat.mul_add_mod,Nat.mod_eq_of_lt hjl]
 rw[e1,e2]
 have e3:l.toArray[i]! = v:=by grind
 rw[e3]
 have:=E.adx v j
 grind
theorem XU (hne : gl ≠ none) (L : SlLaysF0.n6 P ρ) (E : SortEnc α) (hk0 : 0 < E.ks.length) (aE : ∀ w,(isAgg (ρ.t 24)).run P w = .ok true w) (zE : ∀ w,(Go.sizeOf (ρ.t 24)).run P w = .ok E.ks.length w) {cf : α -> α -> Int} (hO : SWO (ltOf cf)) {g : Nat}
    (eg:∀ args w,(callFunc g args).run P w=.ok (.enter g args) w) (hcmp:∀ (w:World) x y,Calls P g #[.agg (E.vals x).toArray,.agg (E.vals y).toArray] w λe w'=>e=.returned (.int .i64 (cf x y))/\∃ q os',w'=grow (w.drewN q) os')
    {f:Nat} (hf:ρ.f 6=f) {fi:FI} {c:Code} (hfi:dZ T.funcs f=some fi) (hb:fi.fn.body=some c) (hby:fi.cfg.D9=true) (ht:fi.fn.resultTypes=#[]):UN P T gl f (Qx E cf g):=by
  intro fi' args bl rs nJ akD h
  have:fi'=fi:=by rw[hfi]at akD;exact(Option.some.inj akD).symm
  subst this
  unfold Qx at h
  split at h
  . next s z off n g' ks xs =>
    split at h
    . next l hd =>
      split at h
      . next hc =>
        simp only[qBa,beq_iff_eq,qDa]at hc
        obtain⟨rfl,rfl,rfl,rfl,rfl,hn,hk⟩:=hc
        have hk:=Kd.uD _ _ hk
        subst hk
        have hxs:=E.ah9 hd
        subst hxs
        cases h
        refine⟨⟨_,hb⟩,by simp[iI],λw M β bF hgl hpre=>?_⟩
        have a0:=hpre.args 0 _ rfl
        have a1:=hpre.args 1 _ rfl
        have hb0:=hpre.blk 0 _ rfl
        have hlen:(E.encs l).length=l.length:=E.TM l
        have hsz2:bF.size=2:=hpre.num
        have c1:bF.getD 1 undef=.func (.func g') #[] #[]:=by
         generalize bF.getD 1 undef=u at a1
         cases a1 with
         | p _ _ hv =>
          cases hv with
          | fn _ _ vs hn _=>grind
        have hcg:bF=#[bF.getD 0 undef,.func (.func g') #[] #[]]:=by
         apply Array.ext
         . omega
         . intro i h1 h2
           have:i=0\/i=1:=by omega
           rcases this with rfl | rfl
           all_goals simp_all
        by_cases h0:l=[]
        . subst h0
          obtain⟨p,cap,hv⟩:∃ p cap,bF.getD 0 undef=.slice p 0 cap:=by
           generalize hz:E.ks.length=z at a0
           generalize hc0:bF.getD 0 undef=cv at a0
           generalize hnn:([]:List α).length=nn at a0
           cases a0 with
           | slice s off len a ks xs b o cap p1 p2 p3 p4 p5=>exact⟨_,cap,by rw[<- hnn];rfl⟩
           | sliceE=>exact⟨_,_,rfl⟩
          rw[hv]at hcg
          subst hcg
          have call:=AnyF.slices_SortFunc_none L p cap (.func (.func g') #[] #[]) w
          rw[hf]at call
          refine call.mono λe w' ⟨he,hw⟩=>⟨[],[],M,he,?_⟩
          subst hw
          refine⟨by rw[ht];exact .nil _,λb o h=>by simp at h,(λh _=>by rw[hby]at h;cases h),λb h=>h,λb h=>.inl h,λb h=>hpre.iU b h,λ_ _ _=>rfl,λ_ _ _ h=>h,qNr _,rfl,rfl,rfl,.refl _ _,rfl,?_⟩
          intro i b0 b1 h1 h2
          match i,h1,h2 with
          | 0,h1,h2 =>
           cases h1;cases h2
           have e:UO cf ([]:List α)=[]:=List.length_eq_zero_iff.1 (ady hO [])
           rw[e]
           exact⟨.lU _ _,⟨rfl,rfl,qNr _⟩,by simp[backOk,Kd.rO],rfl⟩
          | i+1,h1,h2=>simp at h1
        . have hpos:0<l.length:=List.length_pos_iff.2 h0
          obtain⟨b,o,cap,AX,c0,hcap⟩:∃ b o cap,β ah=some (b,o)/\bF.getD 0 undef=.slice (some ⟨b,o,none⟩) l.length cap/\l.length<=cap:=by
           generalize hc0:bF.getD 0 undef=cv at a0
           generalize hnn:l.length=nn at a0 hpos
           generalize hz:E.ks.length=z at a0
           cases a0 with
           | slice s off len a ks xs b o cap p1 p2 p3 p4 p5=>exact⟨b,o,cap,p3,by simp,p4⟩
           | sliceE=>exact absurd hpos (Nat.lt_irrefl 0)
          rw[c0]at hcg
          subst hcg
          have hown:=hpre.own 0 b o (by simp) AX
          have an6:∃ C e fr,w.heap[b]?=some (.cells C e fr)/\o+l.length*E.ks.length<=C.size/\Open C fr/\∀ (i:Nat) (x:α) (j:Nat) (p:PV),l[i]?=some x->(E.pc x)[j]?=some p->C.getD (o+i*E.ks.length+j) undef=p.val:=by
           generalize hx:bZ.arr true E.ks (E.encs l)=x at hb0
           cases hb0 with
           | box=>cases hx
           | log=>cases hx
           | lU a ks=>grind
           | arr a ks xs b' o' C e fr hb hw hn ho hs hc =>
            injection hx with h1 h2 h3
            subst h1 h2 h3
            have:(b',o')=(b,o):=by grind
            cases this
            refine⟨C,e,fr,hw,by simpa [SortEnc.encs] using hn,ho,λi x j p hx hp=>?_⟩
            exact Lc (E.flat x p (qLe hp)) (hc i (.agg (E.pc x)) j p (by rw[E.adw,hx];rfl) hp)
          obtain⟨C,e,fr,hw,hCn,hopen,hcell⟩:=an6
          have hH:HoldsK E.vals E.ks.length w b o l.toArray:=by
           intro t ht
           rw[size_flatK]at ht
           have ht':t<l.length*E.ks.length:=by simpa using ht
           have hi:t / E.ks.length<l.length:=Nat.div_lt_of_lt_mul (by rwa[Nat.mul_comm]at ht')
           have hj:t%E.ks.length<E.ks.length:=qNm _ hk0
           have et:t=t / E.ks.length*E.ks.length+t%E.ks.length:=by rw[Nat.mul_comm];exact(Nat.div_add_mod _ _).symm
           obtain⟨v,hv⟩:∃ v,l[t / E.ks.length]?=some v:=⟨_,qLd hi⟩
           obtain⟨p,hp⟩:∃ p,(E.pc v)[t%E.ks.length]?=some p:=⟨_,qLd (by rw[E.len v];exact hj)⟩
           have h1:=hcell _ _ _ _ hv hp
           have h2:=Zi E l _ _ v p hv hp
           rw[<- et]at h2
           rw[Nat.add_assoc,<- et]at h1
           have hin:o+t<C.size:=by omega
           constructor
           . simp only[World.cell?,hw,Option.isSome_none,Bool.false_eq_true,if_false]
             rw[Array.getElem?_eq_getElem hin]
             have:C.getD (o+t) undef=C[o+t]:=by simp[Array.getD,hin]
             grind
           . have:=hopen.at (o+t) hin
             grind [World.frozen?]
          have call:=AnyQ.slices_SortFunc_eq L E.ks.length aE zE E.vals E.vals_length E.akC cf hO g' #[] b o cap l.toArray w eg (λ_m _os _dk _ x y=>hcmp _ x y) hH hown.2 (by simp;omega)
          rw[hf]at call
          refine Calls.mono call λee w' hpost=>?_
          obtain⟨he,m,os,hw'⟩:=hpost
          have hsl:pdq (ltOf cf) l.toArray 0 l.toArray.size (Lib.bitLen l.toArray.size) true true=(UO cf l).toArray:=by simp[UO]
          rw[hsl]at hw'
          have hpl:=ady hO l
          generalize UO cf l=sl at *
          refine⟨[],[],M,he,?_⟩
          have hheap:w'.heap=(w.heap.modify b (onCells (putCells id o (flatK E.vals E.ks.length sl.toArray))))++os:=by rw[hw'];rfl
          have hsz:w.heap.size<=w'.heap.size:=by rw[hheap];simp
          have hold:∀ k,k<w.heap.size->w'.heap[k]?=(w.heap.modify b (onCells (putCells id o (flatK E.vals E.ks.length sl.toArray))))[k]?:=λk hk=>by grind
          have hoth:∀ k,k<w.heap.size->k≠b->w'.heap[k]?=w.heap[k]?:=λk hk hne=>by grind
          have amV:w'.heap[b]?=some (.cells (putCells id o (flatK E.vals E.ks.length sl.toArray) C) e fr):=by
           rw[hold b hown.2,Array.getElem?_modify,if_pos rfl,hw];rfl
          have hCs:(putCells id o (flatK E.vals E.ks.length sl.toArray) C).size=C.size:=by unfold putCells;simp
          refine⟨by rw[ht];exact .nil _,λb o h=>by simp at h,(λh _=>by rw[hby]at h;cases h),λb hb=>hb,λb hb=>Or.inl hb,λk hk=>Nat.lt_of_lt_of_le (hpre.iU k hk) hsz,?_,?_,hsz,?_,?_,?_,λe=>absurd e hne,rfl,?_⟩
          . intro k hk hnn
            refine hoth k hk λe=>?_
            subst e
            simp_all
          . intro k m hk hroom
            by_cases hkb:k=b
            . subst hkb
              obtain⟨C',e',fr',h1,h2,h3⟩:=hroom
              rw[hw]at h1
              cases h1
              exact⟨_,e,fr,amV,by rw[hCs];exact h2,λhm=>(h3 hm).size hCs⟩
            . obtain⟨C',e',fr',h1,h2,h3⟩:=hroom
              exact⟨C',e',fr',by rw[hoth k hk hkb];exact h1,h2,h3⟩
          . rw[hw'];rfl
          . rw[hw'];rfl
          . rw[hw'];rfl
          . intro i x0 x1 h1 h2
            match i,h1,h2 with
            | 0,h1,h2 =>
             cases h1;cases h2
             refine⟨?_,⟨rfl,rfl,by simp[SortEnc.encs,hpl]⟩,by simp[backOk,Kd.rO],rfl⟩
             refine .arr true E.ks _ b o _ e fr AX amV ?_ (hopen.size hCs) ?_ ?_
             . grind [E.TM]
             . intro x hx
               simp only[SortEnc.encs,List.mem_map]at hx
               obtain⟨v,_,rfl⟩:=hx
               exact E.kinds v
             . intro i x j c hx hc
               rw[E.adw]at hx
               obtain⟨v,hv,rfl⟩:=Option.map_eq_some_iff.1 hx
               have hc:(E.pc v)[j]?=some c:=hc
               have hg:=Zi E sl i j v c hv hc
               have hi:i<sl.length:=(qLa.1 hv).1
               have hjl:j<E.ks.length:=by rw[<- E.len v];exact(qLa.1 hc).1
               have hin':i*E.ks.length+j<l.length*E.ks.length:=by
                have:(i+1)*E.ks.length<=l.length*E.ks.length:=Nat.mul_le_mul_right _ (by omega)
                grind
               have hin:o+i*E.ks.length+j<C.size:=by omega
               have hval:(putCells id o (flatK E.vals E.ks.length sl.toArray) C).getD (o+i*E.ks.length+j) undef=c.val:=by
                rw[qAb]
                unfold putCells
                rw[Array.getElem?_mapIdx,Array.getElem?_eq_getElem hin]
                simp only[Option.map_some,Option.getD_some,size_flatK]
                rw[if_pos ⟨by omega,by simp[hpl];omega⟩]
                have:o+i*E.ks.length+j-o=i*E.ks.length+j:=by omega
                grind
               show VR w' M c ((putCells id o (flatK E.vals E.ks.length sl.toArray) C).getD (o+i*E.ks.length+j) undef)
               rw[hval]
               exact akB (E.flat v c (qLe hc))
            | i+1,h1,h2=>simp at h1
      . cases h
    . cases h
  . cases h
end
end
section
open Go.Lib
variable {P:Program} {ρ:Ren}
set_option maxHeartbeats 2000000 in
set_option maxRecDepth 100000 in
theorem afe(L:SlLaysE0.n41 P ρ)(b:TypeInfo)(z:Value)(size bytes:Nat)(C:P.info? (ρ.t 23)=some b)(m:b.zero=some z)(l:b.size=size)(i:b.bytes=bytes)(h:z.cells.size=size)(o:0<size)
    (s:∀ w,(Go.sizeOf (ρ.t 23)).run P w=.ok size w)(a:Addr)(c:Nat)(w:World) :
    Calls P (ρ.f 41) #[.slice (some a) 0 c] w λe w'=>∃ v',e=.returned v'/\w'.ownsRow w.heap.size (ρ.t 23) size v' 0 []/\Below w.heap.size w w':=by
  have mixed:=L.mixed;have t4:=L.t4;have a4:=L.a4;have z4:=L.z4;have v4:=L.v4;have t22:=L.t22;have a22:=L.a22;have z22:=L.z22;have v22:=L.v22;have x:∀(w:World) (a:Option Addr) (n c g q:Nat),(binOp .eql (ρ.t 22) (.slice a n c) (.slice none g q)).run P w=.ok (.bool a.isNone) w:=λw a n c g q=>Lib.run_eql_slice_nil w _ _ a n c g q L.t22;have v:∀ w,Sem.run P (underlying (ρ.t 22)) w=.ok (TypeDesc.slice (ρ.t 23)) w:=run_underlying t22;obtain⟨_,_,FG⟩:=L.f41
  go_enter FG,SlBodyN.n41_ntmps ρ
  go_wp2_with (at_builtin;refine wpList_append_own _ rfl _ _ (ρ.t 22) rfl w.heap.size (ρ.t 23) b z size bytes t22 C m l i h o _ _ _ rfl (World.ownsRow_made w #[] 0 (qNr _) (Nat.zero_le _) (by simp)) a 0 c [] rfl ?qc1 ?qc2 ?qc3 ?qc4 ?qc5 ?qc6 ?_)
  case qc1=>simp
  case qc2 =>intro j u B;simp at B
  case qc3=>intro u y;simp at y
  case qc4=>simp
  case qc5=>simp
  case qc6=>simp
  intro v' D d hgrow r
  go_wp2
  go_ret
  refine⟨v',rfl,by simpa using d,?_⟩;exact((Below.refl _ w).alloc (qNr _) _).grown hgrow (by simp) (by intro k A;simp[Value.ownBlock]at A;omega)
section
variable {T:Tab} {fi:FI} {β:Nat->Option (Nat × Nat)}
theorem Zj{t e el:TypeId}{a:Bool}{ks:List Kd}{w':World}{v':Value}{base:Nat}{h:Nat->Option bZ}(m:fi.cfg.rets=[.fresh])(l:fi.fn.resultTypes=#[t])(k:und T t=some (.slice e))(f:dD T e=(a,ks))
    (y:w'.ownsRow base el ks.length v' 0 []):∃ j,(∀ M:Nat->Prop,FK T w' M β h fi.cfg.rets fi.fn.resultTypes.toList [.fresh a ks []] [v'] j)/\∀ b o,some (b,o)∈j->b<w'.heap.size/\base<=b:=by
  have s:(dD T e).1=a:=by rw[f]
  have r:(dD T e).2=ks:=by rw[f]
  obtain⟨-,⟨rfl,-⟩ |⟨g,cap,i,rfl,z,q,-,-,x,-⟩⟩:=y
  . refine⟨[none],λM=>?_,λb o h=>by simp at h⟩;rw[m,l];refine .cons _ _ _ _ _ _ _ _ _ ?_ (.nil _) (λb o u _ h=>by cases h);have d:=He.fresh (T:=T) (w:=w') (M:=M) (β:=β) (h:=h) t e [] (.slice none 0 0) none k;rw[s,r]at d;exact d (.lU _ _) (.sliceE 0 0 a ks [] none rfl (qNr _))
  . refine⟨[some (g,0)],λM=>?_,λb o h=>?_⟩
    . rw[m,l];refine .cons _ _ _ _ _ _ _ _ _ ?_ (.nil _) (λb o u _ h=>by cases h);have d:=He.fresh (T:=T) (w:=w') (M:=M) (β:=β) (h:=h) t e [] (.slice (some ⟨g,0,none⟩) 0 cap) (some (g,0)) k;rw[s,r]at d;refine d (.lU _ _) ?_;have v:=AR.slice (w:=w') (M:=M) (β:=λ_=>some (g,0)) (h:=λ_=>some (.arr a ks [])) 0 0 0 a ks [] g 0 cap rfl (by simp) rfl (Nat.zero_le _) ⟨i,el,(0,0),q,by simp;omega,λ_=>.inl rfl⟩;simpa using v
    . simp only[List.mem_singleton,qOa,Prod.mk.injEq]at h;obtain⟨rfl,rfl⟩:=h;exact⟨(qAa.1 q).1,z⟩
end
end
section
open Go.Lib
variable {w:World}{M:Nat->Prop}{c:Value}{W n:Nat}{ks:List Kd}{a:Bool}{e t:TypeId}
variable {P:Program} {ρ:Ren} {T:Tab}
theorem an7{v:PV}(h:VR w M v c)(b:v.leaf=true):c.oneCell'=true:=by cases h<;>first | rfl |(simp[PV.leaf]at b)
def rowOf(f:Nat->Nat->Value)(n W:Nat):List Value:=(List.range (n*W)).map λq=>f (q / W) (q%W)
theorem RQ(f:Nat->Nat->Value)(n W:Nat):(rowOf f n W).length=n*W:=by simp[rowOf]
theorem Zk{f:Nat->Nat->Value}{i j:Nat}(d:i<n)(b:j<W):(rowOf f n W)[i*W+j]?=some (f i j):=by
 have k:i*W+j<n*W:=by have:(i+1)*W<=n*W:=Nat.mul_le_mul_right W d;grind
 have h:(i*W+j) / W=i:=by rw[Nat.mul_comm,Nat.mul_add_div (by omega),Nat.div_eq_of_lt b];omega
 have g:(i*W+j)%W=j:=by rw[Nat.mul_comm,Nat.mul_add_mod,Nat.mod_eq_of_lt b]
 grind[rowOf]
theorem Zl{q:Nat}(h:q<n*W)(b:0<W):q / W<n/\q%W<W/\q / W*W+q%W=q:=
 ⟨Nat.div_lt_of_lt_mul (by rw[Nat.mul_comm];exact h),qNm _ b,by rw[Nat.mul_comm];exact Nat.div_add_mod q W⟩
structure akE (w w':World) (M:Nat->Prop) (a:Bool) (ks:List Kd) (xs:List PV) (e:TypeId) (v':Value):Prop where
 below:Below w.heap.size w w'
 row:(xs=[]/\w'.ownsRow w.heap.size e ks.length v' 0 [])\/∃ f,(∀ (i:Nat) (x:PV) (j:Nat) (c:PV),xs[i]?=some x->x.cells[j]?=some c->VR w M c (f i j))/\(∀ x∈xs,bY a ks x=true)/\w'.ownsRow w.heap.size e ks.length v' xs.length (rowOf f xs.length ks.length)
theorem adz(L:SlLaysE0.n41 P ρ){d:TypeInfo}{z:Value}(O:P.info? (ρ.t 23)=some d)(l:d.zero=some z)(k:d.size=ks.length)(j:z.cells.size=ks.length)(I:d.bytes<=1000)(g:0<ks.length)
    (i:∀ w,(Go.sizeOf (ρ.t 23)).run P w=.ok ks.length w){xs:List PV}(K:VR w M (.list a ks xs) c)(N:xs.length<=100000) :
    Calls P (ρ.f 41) #[c] w λe w'=>∃ v',e=.returned v'/\akE w w' M a ks xs (ρ.t 23) v':=by
  generalize m:xs=ys at K;cases K with
  | list _ _ _ b o cap f hM Q X r A =>
   subst m;have F:xs.length*d.bytes<=140737488355328:=by
    have:=Nat.mul_le_mul N I
    omega
   refine(AnyE.slices_Clone L d z ks.length d.bytes O l k rfl j g i b o xs.length cap (rowOf f xs.length ks.length) w (RQ _ _ _) (Nat.le_trans N (by decide)) F (λq u C=>?_) (λu S=>?_)).mono λe w' ⟨v',s,D,_,J⟩=>⟨v',s,J,.inr ⟨f,r,A,D⟩⟩
   . have B:q<xs.length*ks.length:=by rw[<- RQ f];exact(qLa.1 C).1
     obtain⟨h,v,Y⟩:=Zl B g;have x:xs[q / ks.length]?=some xs[q / ks.length]:=qLd h;have U:xs[q / ks.length].cells.length=ks.length:=gq (A _ (List.getElem_mem h));have V:=X _ _ _ _ x (qLd (by rw[U];exact v));have h4:=Zk (f:=f) h v;grind
   . obtain⟨q,C,rfl⟩:=List.mem_map.1 S;obtain⟨h,v,Y⟩:=Zl (List.mem_range.1 C) g;have x:xs[q / ks.length]?=some xs[q / ks.length]:=qLd h;have y:=A _ (List.getElem_mem h);obtain⟨c,H,G,_⟩:=uU y (qLd v);exact an7 (r _ _ _ _ x H) (lg G)
  | wW _ _ base cap =>
   subst m;cases base with
   | none=>exact(AnyE.slices_Clone_nil L 0 cap w).mono λe w' ⟨s,R⟩=>⟨_,s,R▸Below.refl _ _,.inl ⟨rfl,by simp,.inl ⟨rfl,rfl⟩⟩⟩
   | some Z=>exact(afe L d z ks.length d.bytes O l k rfl j g i Z cap w).mono λe w' ⟨v',s,D,J⟩=>⟨v',s,J,.inl ⟨rfl,D⟩⟩
section
variable {gl:Option (List (Nat × Obj))} {fi:FI} {w w':World} {M:Nat->Prop} {β:Nat->Option (Nat × Nat)} {bF:Array Value} {a:Bool} {ks:List Kd} {xs:List PV} {el:TypeId} {v':Value}
theorem akF{args:List AV}(q:fi.cfg.shares=true)(y:wI w M β args [] bF)(d:Below w.heap.size w w')(l:mF gl w.drawn w'.drawn){m:List AV}{cs:List Value}{i:List (Option (Nat × Nat))}{M':Nat->Prop}
    (s:∀ b,M b->M' b)(k:∀ b,M' b->M b\/w.heap.size<=b)(j:∀ b,M' b->b<w'.heap.size)
    (f:FK T w' M' β (look (iW 0 [])) fi.cfg.rets fi.fn.resultTypes.toList m cs i)(g:∀ b o,some (b,o)∈i->¬ M' b/\b<w'.heap.size/\w.heap.size<=b):Ku gl T fi w M β [] m [] w' M' cs i:=by
  refine⟨f,g,λ_ h=>?_,s,k,j,λb h _=>d.block b h,?_,d.size,d.os,d.tape,d.output,l,rfl,?_⟩
  . grind
  . intro b n h r;obtain⟨C,e,fr,x,v,u⟩:=r;exact⟨C,e,fr,by rw[d.block b h];exact x,v,u⟩
  . simp
theorem abd{h:Nat->Option bZ}(s:akE w w' M a ks xs el v')(G:∀ b,M b->b<w.heap.size)(D:fi.cfg.rets=[.fresh])(C:fi.fn.resultTypes=#[t])(B:und T t=some (.slice e))(d:dD T e=(a,ks)) :
    ∃ m,FK T w' M β h fi.cfg.rets fi.fn.resultTypes.toList [.fresh a ks xs] [v'] m/\∀ b o,some (b,o)∈m->b<w'.heap.size/\w.heap.size<=b:=by
  rcases s.row with⟨rfl,u⟩ |⟨f,O,K,u⟩
  . obtain⟨m,y,v⟩:=Zj (β:=β) (h:=h) D C B d u;exact⟨m,y M,v⟩
  . by_cases V:xs=[]
    . subst V;have F:w'.ownsRow w.heap.size el ks.length v' 0 []:=by have:rowOf f ([]:List PV).length ks.length=[]:=List.length_eq_zero_iff.1 (by rw[RQ];simp);grind
      obtain⟨m,y,v⟩:=Zj (β:=β) (h:=h) D C B d F;exact⟨m,y M,v⟩
    . have Y:(dD T e).1=a:=by rw[d]
      have X:(dD T e).2=ks:=by rw[d]
      obtain⟨-,⟨-,hz⟩ |⟨g,cap,k,rfl,I,L,l,-,r,Q⟩⟩:=id u
      . grind
      . refine⟨[some (g,0)],?_,λb o h=>?_⟩
        . rw[D,C];refine .cons _ _ _ _ _ _ _ _ _ ?_ (.nil _) (λb o Z _ h=>by cases h);have hopen:Open k (0,0):=.inl rfl;have q:=He.fresh (T:=T) (w:=w') (M:=M) (β:=β) (h:=h) t e xs (.slice (some ⟨g,0,none⟩) xs.length cap) (some (g,0)) B;rw[Y,X]at q;have S:xs.length*ks.length<=k.size:=by rw[r];exact Nat.mul_le_mul_right _ l
          refine q ?_ ?_
          . refine .arr a ks xs g 0 k el (0,0) rfl L (by omega) hopen K λi x j c A N=>?_;have H:i<xs.length:=(qLa.1 A).1;have z:xs[i]=x:=(qLa.1 A).2;have U:j<ks.length:=by rw[<- gq (K x (z▸List.getElem_mem H))];exact(qLa.1 N).1
            have R:i*ks.length+j<xs.length*ks.length:=by have:(i+1)*ks.length<=xs.length*ks.length:=Nat.mul_le_mul_right _ H;grind
            have hcell:=u.cellAt _ R;rw[Zk H U]at hcell;have hd:k.getD (0+i*ks.length+j) undef=f i j:=by simp_all[World.cell?]
            rw[hd];exact(O i x j c A N).mono λb I=>⟨I,s.below.block b (G b I)⟩
          . have J:=AR.slice (w:=w') (M:=M) (β:=λ_=>some (g,0)) (h:=λ_=>some (.arr a ks xs)) 0 0 xs.length a ks xs g 0 cap rfl (by simp) rfl l (.mk L (by rw[r];simp) hopen);grind
        grind
end
def Ns(a:Bool)(ks:List Kd):IV:=λargs bl=>match args,bl with
 |[.p (.list a' ks' xs)],[]=>if(a'==a&&(Kd.Fe ks' ks&&decide (xs.length<=100000)))=true then some ([.fresh a ks xs],[])else none
 | _,_=>none
structure Zv (P:Program) (T:Tab) (ρ:Ren) (f:Nat) (fi:FI) (t e:TypeId) (a:Bool) (ks:List Kd):Prop where
 L:SlLaysE0.n41 P ρ
 hf:ρ.f 41=f
 hfi:dZ T.funcs f=some fi
 hb:∃ c,fi.fn.body=some c
 hs:fi.cfg.shares=true
 ht:fi.fn.resultTypes=#[t]
 hu:und T t=some (.slice e)
 hsh:dD T e=(a,ks)
 info:∃ i0 z,P.info? (ρ.t 23)=some i0/\i0.zero=some z/\i0.size=ks.length/\z.cells.size=ks.length/\i0.bytes<=1000
 hsz:0<ks.length
 z23:∀ w,(Go.sizeOf (ρ.t 23)).run P w=.ok ks.length w
theorem Jo{gl:Option (List (Nat × Obj))}(k:gl≠none){f:Nat}{fi:FI}(A:Zv P T ρ f fi t e a ks)(F:fi.cfg.rets=[.fresh]):UN P T gl f (Ns a ks):=by
 intro m args bl K nJ j h;have:m=fi:=by rw[A.hfi]at j;exact(Option.some.inj j).symm
 subst this;unfold Ns at h;split at h
 . next a' ks' xs =>
   split at h
   . next hc =>simp only[qBa,beq_iff_eq,qDa]at hc;obtain⟨rfl,l,G⟩:=hc;have l:=Kd.uD _ _ l;subst l;cases h;refine⟨A.hb,by simp,λw M β bF H d=>?_⟩;obtain⟨v,rfl,D⟩:=ah6 d;obtain⟨N,z,C,B,y,x,u⟩:=A.info;have g:=adz A.L C B y x u A.hsz A.z23 D G;rw[A.hf]at g;refine g.mono λO w' ⟨v',I,i⟩=>?_;obtain⟨q,s,r⟩:=abd (β:=β) (h:=look (iW 0 [])) i d.iU F A.ht A.hu A.hsh;refine⟨[v'],q,M,I,akF A.hs d i.below (λe=>absurd e k) (λ_ h=>h) (λ_ h=>.inl h) (λb h=>Nat.lt_of_lt_of_le (d.iU b h) i.below.size) s (λb o h=>⟨λJ=>?_,r b o h⟩)⟩;have:=d.iU b J;grind
   . cases h
 . cases h
end
end Go.Skm
