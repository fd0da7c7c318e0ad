/-
  A machine that runs this program's functions on pure values, and the proof that what it returns is true of the program; no condition beside the hypotheses of each.
-/
import Derived.Test.YtipkmkmngcjdbaaGreatDoorSkmH
import Derived.Test.YtipkmkmngcjdbaaGreatDoorSkmG
import Derived.Shelf.LaysM
import Derived.Shelf.LaysC
import Derived.Shelf.Strconv.Itoa3
import Derived.Shelf.Strconv.AtoiAll
import Derived.Shelf.Strings.Split
import Derived.Shelf.SlSortCmp.NoneTotal
import Derived.Shelf.SlicesE.Clone
import Derived.Shelf.Strings.Cut
import Derived.Shelf.Small.Strs
import Derived.Room.Shelf.Join48
import Derived.Shelf.Strings.Shaped
import Derived.Test.YtipkmkmngcjdbaaGreatDoorSkmC
import Derived.Test.YtipkmkmngcjdbaaGreatDoorSkmB
import Derived.Shelf.Strings.BuilderK
namespace Go.Skm
open Go Go.Proofs Go.Shelf Go.RowKit Go.Sort
theorem below_grow {w:World} {k:Nat} {os:Array Obj}:Below w.heap.size w (grow (w.drewN k) os) :=
 ⟨rfl,rfl,rfl,by simp[grow,World.drewN],fun j hj=>by
   show (w.heap++os)[j]?=_
   rw[Array.getElem?_append_left hj]⟩
def Vk:zB:=fun args bl=>match args,bl with
 | [.p (.int .i64 n)],[]=>if -9223372036854775808≤n∧n≤9223372036854775807 then some ([.p (.str (ba (Lib.itoa n)))],[]) else none
 | _,_=>none
def Vm:zB:=fun args bl=>match args,bl with
 | [.p (.str s)],[]=>if s.size≤281474976710656 then some (Vz s.data.toList,[]) else none
 | _,_=>none
section
variable {P:Program} {T:Tab} {gl:Option (List (Nat × Obj))} {ρ:Ren} {fi:FI} {c:Code}
theorem WI (hne : gl ≠ none) (L : LaysM.n171 P ρ) {f : Nat} (hf : ρ.f 171 = f) (hfi : bG T.funcs f = some fi) (hb : fi.fn.body = some c) (hr : fi.cfg.rets = []) {t : TypeId} (ht : fi.fn.resultTypes = #[t]) (hs : aB T t = (false,[.str]))
    (hg : ∀ w : World, (∀ p ∈ gl.getD [], w.heap[p.1]? = some p.2) → Lib.TabIs P w "internal/strconv.uint64pow10" .u64 Lib.pow10Tab) : yO P T gl f Vk := by
  intro fi' args bl rs iU wK h
  have:fi'=fi:=by rw[hfi]at wK;exact(Option.some.inj wK).symm
  subst this
  unfold Vk at h
  split at h
  · next n =>
    split at h
    · next hn =>
      cases h
      refine⟨⟨_,hb⟩,by simp,fun w M β aG hgl hpre=>?_⟩
      obtain⟨v,rfl,hv⟩:=F5 hpre
      have hv':=fZ hv
      subst hv'
      have call:=Any.strconv_Itoa L n hn.1 hn.2 w (hg w fun p hp=>(hgl p hp).2)
      rw[hf]at call
      refine call.mono fun e w' ⟨he,k,os,hw⟩=>⟨[.string (ba (Lib.itoa n))],[none],M,he,?_⟩
      subst hw
      exact nC hpre below_grow (fun e=>absurd e hne) (fun M=>Me hr ht (by rw[hs];rfl) (.str _)) (fun b o h=>by simp at h)
    · cases h
  · cases h
theorem WJ (hne : gl ≠ none) (L : LaysC.n172 P ρ) {f : Nat} (hf : ρ.f 172 = f) (hfi : bG T.funcs f = some fi) (hb : fi.fn.body = some c) (hr : fi.cfg.rets = []) {t u : TypeId} (ht : fi.fn.resultTypes = #[t,u]) (hs : aB T t = (false,[.int .i64])) (hs' : aB T u = (false,[.other]))
    (hg:∀ w:World,(∀ p∈gl.getD [],w.heap[p.1]?=some p.2)→∃ ev,w.cell? ⟨ρ.g 15,0,none⟩=some ev∧(ev=.nilIface∨∃ te pe,ev=.iface te pe))
    (hg':∀ w:World,(∀ p∈gl.getD [],w.heap[p.1]?=some p.2)→∃ ev,w.cell? ⟨ρ.g 16,0,none⟩=some ev∧(ev=.nilIface∨∃ te pe,ev=.iface te pe)):yO P T gl f Vm:=by
  intro fi' args bl rs iU wK h
  have:fi'=fi:=by rw[hfi]at wK;exact(Option.some.inj wK).symm
  subst this
  unfold Vm at h
  split at h
  · next s =>
    split at h
    · next hn =>
      cases h
      refine⟨⟨_,hb⟩,by simp,fun w M β aG hgl hpre=>?_⟩
      obtain⟨v,rfl,hv⟩:=F5 hpre
      have hv':=uq hv
      subst hv'
      obtain⟨ev,he1,he2⟩:=hg w fun p hp=>(hgl p hp).2
      obtain⟨er,hr1,hr2⟩:=hg' w fun p hp=>(hgl p hp).2
      unfold Vz
      rcases hA:Lib.atoiAll s.data.toList with v | _ | _
      · have call:=Any.strconv_Atoi_ok L s (by omega) v hA w
        rw[hf]at call
        refine call.mono fun e w' ⟨he,hw⟩=>⟨[.int .i64 v,.nilIface],[none,none],M,he,?_⟩
        have hbel:Below w.heap.size w w':=by
         rcases hw with rfl | ⟨t,rfl⟩
         · exact Below.refl _ _
         · refine⟨?_,?_,?_,?_,fun k hk=>?_⟩
           · unfold Lib.bytesWorld World.freeze;split<;>rfl
           · unfold Lib.bytesWorld World.freeze;split<;>rfl
           · unfold Lib.bytesWorld World.freeze;split<;>rfl
           · unfold Lib.bytesWorld World.freeze;split<;>simp
           · have h0:(w.drew.alloc (.cells (Lib.bytesCells w (ρ.t 5) t) (ρ.t 5))).heap[k]?=w.heap[k]?:=Below.heap_alloc w.drew _ k hk
             unfold Lib.bytesWorld World.freeze
             split
             · exact h0
             · show (Array.modify _ _ _)[k]?=_
               rw[Array.getElem?_modify,if_neg (by show ¬ w.heap.size=k;omega)]
               exact h0
        exact nC hpre hbel (fun e=>absurd e hne) (fun M=>MB hr ht (by rw[hs];rfl) (.int _ _) (by rw[hs'];rfl) .oO) (fun b o h=>by simp at h)
      · have call:=Any.strconv_Atoi_syntax L s hn hA ev w he1 he2
        rw[hf]at call
        refine call.mono fun e w' ⟨N,he,_,_,hw⟩=>⟨[.int .i64 0,.iface (ρ.t 168) (.pointer (some ⟨N,0,none⟩))],[none,none],M,he,?_⟩
        exact nC hpre hw (fun e=>absurd e hne) (fun M=>MB hr ht (by rw[hs];rfl) (.int _ _) (by rw[hs'];rfl) (.Xf _ _)) (fun b o h=>by simp at h)
      · have call:=Any.strconv_Atoi_range L s hn hA er w hr1 hr2
        rw[hf]at call
        refine call.mono fun e w' ⟨N,he,_,_,hw⟩=>⟨[.int .i64 (Lib.atoiSat s.data.toList),.iface (ρ.t 168) (.pointer (some ⟨N,0,none⟩))],[none,none],M,he,?_⟩
        exact nC hpre hw (fun e=>absurd e hne) (fun M=>MB hr ht (by rw[hs];rfl) (.int _ _) (by rw[hs'];rfl) (.Xf _ _)) (fun b o h=>by simp at h)
    · cases h
  · cases h
end
end Go.Skm
namespace Go.Skm
open Go Go.Proofs Go.Shelf Go.RowKit Go.Sort
def PV.val:PV→Value
 | .int k n=>.int k n
 | .bool b=>.bool b
 | .str s=>.string s
 | _=>undef
def PV.SY:PV→Bool
 | .int _ _=>true
 | .bool _=>true
 | .str _=>true
 | _=>false
theorem adq {w:World} {M:Nat→Prop} {p:PV} (h:p.SY=true):VR w M p p.val:=by
 cases p<;>simp only[PV.SY,Bool.false_eq_true]at h
 · exact .bool _
 · exact .int _ _
 · exact .str _
theorem U8 {p:PV} (h:p.SY=true):p.leaf=true:=by
 cases p<;>simp only[PV.SY,Bool.false_eq_true]at h<;>rfl
structure SortEnc (α:Type) where
 ks:List Kd
 pc:α→List PV
 dec:PV→Option α
 len:∀ x,(pc x).length=ks.length
 flat:∀ x,∀ c∈pc x,c.SY=true
 kinds:∀ x,aA true ks (.agg (pc x))=true
 enc_dec:∀ x,dec (.agg (pc x))=some x
 dec_enc:∀ p x,dec p=some x→p=.agg (pc x)
namespace SortEnc
variable {α:Type} (E:SortEnc α)
def encs (l:List α):List PV:=l.map fun x=>.agg (E.pc x)
def decs:List PV→Option (List α)
 | []=>some []
 | p::r=>match E.dec p,decs r with
  | some v,some l=>some (v::l)
  | _,_=>none
theorem Nu (l:List α):E.decs (E.encs l)=some l:=by
 induction l with
 | nil=>rfl
 | cons v l ih =>
  unfold encs at ih
  simp only[encs,List.map_cons,decs,E.enc_dec,ih]
theorem Ns {xs:List PV}:∀ {l:List α},E.decs xs=some l→xs=E.encs l:=by
 induction xs with
 | nil=>intro l h;cases h;rfl
 | cons p r ih =>
  intro l h
  unfold decs at h
  split at h
  · next v l' h1 h2 =>
    cases h
    rw[E.dec_enc _ _ h1,ih h2];rfl
  · cases h
theorem QA (l:List α):(E.encs l).length=l.length:=by simp[encs]
def vals (x:α):List Value:=(E.pc x).map PV.val
theorem Z9 (x:α) (j:Nat):(E.vals x)[j]?=((E.pc x)[j]?).map PV.val:=by simp[vals]
theorem vr (w:World) (M:Nat→Prop) (x:α):VR w M (.agg (E.pc x)) (.agg (E.vals x).toArray):=by
 refine .agg _ _ (by simp[vals]) (fun c hc=>U8 (E.flat x c hc)) fun i c hc=>?_
 have e:(E.vals x).toArray.getD i undef=c.val:=by
  rw[Array.getD_eq_getD_getElem?,List.getElem?_toArray,E.Z9,hc];rfl
 rw[e]
 exact adq (E.flat x c (List.mem_of_getElem? hc))
end SortEnc
section
variable {α:Type} {P:Program} {T:Tab}
theorem Wv (ok : bP P T) {X : Ext} (hX : zA P T none X) {g : Nat} {fi : FI} (hfi : bG T.funcs g = some fi) (hr : fi.cfg.rets = []) {t : TypeId} (ht : fi.fn.resultTypes = #[t]) (E : SortEnc α) {x y : α} {n : Int}
    (h:run T X g [.p (.agg (E.pc x)),.p (.agg (E.pc y))] []=some ([.p (.int .i64 n)],[])) (w:World) :
    Calls P g #[.agg (E.vals x).toArray,.agg (E.vals y).toArray] w fun e w'=>e=.returned (.int .i64 n)∧∃ q os',w'=grow (w.drewN q) os':=by
  have hs:=(NI ok hX).plain g fi _ [] _ [] hfi (by simp) h
  have hpre:oH w (fun _=>False) (fun _=>none) [.p (.agg (E.pc x)),.p (.agg (E.pc y))] [] #[.agg (E.vals x).toArray,.agg (E.vals y).toArray]:=by
   refine⟨rfl,fun i v hi=>?_,fun i b0 hi=>by simp at hi,fun i b o hi=>by simp at hi,fun i j b o o' hi=>by simp at hi,fun b hb=>hb.elim⟩
   match i,hi with
   | 0,hi=>cases hi;exact .p _ _ (E.vr w _ x)
   | 1,hi=>cases hi;exact .p _ _ (E.vr w _ y)
   | i+2,hi=>simp at hi
  refine Calls.mono (hs.2 w _ _ _ (by simp) hpre) fun e w' hpost=>?_
  obtain⟨cs,ps,M',rfl,post⟩:=hpost
  have hcs:cs=[.int .i64 n]:=by
   have hr':=post.res
   rw[hr,ht]at hr'
   cases hr' with
   | cons _ _ _ _ _ c cs' p ps' h1 h2 _ =>
    cases h2
    cases h1 with
    | deep _ x _ _ hv=>cases hv;rfl
  subst hcs
  refine⟨rfl,w'.drawn-w.drawn,w'.heap.extract w.heap.size w'.heap.size,?_⟩
  have hkeep:∀ b,b<w.heap.size→w'.heap[b]?=w.heap[b]?:=fun b hb=>post.keep b hb fun i o hi=>by simp at hi
  have hh:w'.heap=w.heap++w'.heap.extract w.heap.size w'.heap.size:=by
   apply Array.ext_getElem?
   intro k
   have hsz:=post.size
   rw[Array.getElem?_append]
   split
   · next hk=>exact hkeep k hk
   · next hk =>
     rw[Array.getElem?_extract]
     by_cases hk2:k<w'.heap.size
     · rw[if_pos (by omega)]
       congr 1;omega
     · rw[if_neg (by omega),Array.getElem?_eq_none (by omega)]
  have hd:=post.drawn rfl
  cases w' with
  | mk heap tape drawn os output =>
   have h1:os=w.os:=post.os
   have h2:tape=w.tape:=post.tape
   have h3:output=w.output:=post.output
   subst h1 h2 h3
   simp only at hh hd ⊢
   unfold grow World.drewN
   simp only
   rw[← hh,show w.drawn+(drawn-w.drawn)=drawn from by omega]
end
variable {α:Type} [Inhabited α]
def O7 (cf:α→α→Int) (l:List α):List α:=(pdq (ltOf cf) l.toArray 0 l.toArray.size (Lib.bitLen l.toArray.size) true true).toList
theorem NJ {cf:α→α→Int} (hO:SWO (ltOf cf)) (l:List α):(O7 cf l).Perm l∧(O7 cf l).Pairwise fun a b=>ltOf cf b a=false:=by
 obtain⟨⟨h1,-,h2⟩,h3⟩:=pdq_sorts (ltOf cf) hO l.toArray 0 l.toArray.size (Lib.bitLen l.toArray.size) true true (Nat.zero_le _) (Nat.le_refl _) (Or.inl rfl)
 unfold O7
 generalize pdq (ltOf cf) l.toArray 0 l.toArray.size (Lib.bitLen l.toArray.size) true true=d' at *
 have e1:d'.extract 0 l.toArray.size=d':=by rw[← h1];simp
 have e2:l.toArray.extract 0 l.toArray.size=l.toArray:=by simp
 rw[e1,e2]at h2
 refine⟨by simpa using h2,?_⟩
 rw[List.pairwise_iff_getElem]
 intro i j hi hj hij
 have:=h3 i j (Nat.zero_le _) hij (by rw[← h1];simpa using hj)
 have hi':i<d'.size:=by simpa using hi
 have hj':j<d'.size:=by simpa using hj
 rw[getElem!_pos d' j hj',getElem!_pos d' i hi']at this
 simpa using this
theorem QS {cf:α→α→Int} (hO:SWO (ltOf cf)) (l:List α):(O7 cf l).length=l.length:=(NJ hO l).1.length_eq
section
variable {P:Program} {T:Tab} {gl:Option (List (Nat × Obj))} {ρ:Ren}
end
end Go.Skm
namespace Go.Skm
open Go Go.Proofs Go.Shelf Go.RowKit Go.Lib
variable {P:Program} {ρ:Ren}
set_option maxHeartbeats 2000000 in
set_option maxRecDepth 100000 in
theorem JA (L : SlLaysE0.n41 P ρ) (i0 : TypeInfo) (z : Value) (size bytes : Nat) (hi : P.info? (ρ.t 23) = some i0) (hz0 : i0.zero = some z) (hz1 : i0.size = size) (hz2 : i0.bytes = bytes) (hzs : z.cells.size = size) (hsz : 0 < size)
    (z23:∀ w,(Go.sizeOf (ρ.t 23)).run P w=.ok size w) (a:Addr) (c:Nat) (w:World) :
    Calls P (ρ.f 41) #[.slice (some a) 0 c] w fun e w'=>∃ v',e=.returned v'∧w'.ownsRow w.heap.size (ρ.t 23) size v' 0 []∧Below w.heap.size w w':=by
  have mixed:=L.mixed;have t4:=L.t4;have a4:=L.a4;have z4:=L.z4;have v4:=L.v4;have t22:=L.t22;have a22:=L.a22;have z22:=L.z22;have v22:=L.v22
  have q22:∀ (w:World) (a:Option Addr) (n c n' c':Nat),(binOp .eql (ρ.t 22) (.slice a n c) (.slice none n' c')).run P w=.ok (.bool a.isNone) w:=fun w a n c n' c'=>Lib.run_eql_slice_nil w _ _ a n c n' c' L.t22
  have u22:∀ w,Sem.run P (underlying (ρ.t 22)) w=.ok (TypeDesc.slice (ρ.t 23)) w:=run_underlying t22
  obtain⟨_,_,FG⟩:=L.f41
  go_enter FG,SlBodyN.n41_ntmps ρ
  go_wp2_with (at_builtin;refine wpList_append_own _ rfl _ _ (ρ.t 22) rfl w.heap.size (ρ.t 23) i0 z size bytes t22 hi hz0 hz1 hz2 hzs hsz _ _ _ rfl (World.ownsRow_made w #[] 0 (Nat.le_refl _) (Nat.zero_le _) (by simp)) a 0 c [] rfl ?qc1 ?qc2 ?qc3 ?qc4 ?qc5 ?qc6 ?_)
  case qc1=>simp
  case qc2 =>
   intro j u hj
   simp at hj
  case qc3=>intro u hu;simp at hu
  case qc4=>simp
  case qc5=>simp
  case qc6=>simp
  intro v' w1 hown hgrow hnil
  go_wp2
  go_ret
  refine⟨v',rfl,by simpa using hown,?_⟩
  exact((Below.refl _ w).alloc (Nat.le_refl _) _).grown hgrow (by simp) (by intro k hk;simp[Value.ownBlock]at hk;omega)
section
variable {T:Tab} {fi:FI} {β:Nat→Option (Nat × Nat)}
theorem Wx {t e el : TypeId} {a : Bool} {ks : List Kd} {w' : World} {v' : Value} {base : Nat} {h : Nat → Option aI} (hr : fi.cfg.rets = [.fresh]) (ht : fi.fn.resultTypes = #[t]) (hu : und T t = some (.slice e)) (hsh : aB T e = (a,ks))
    (ho:w'.ownsRow base el ks.length v' 0 []):∃ ps,(∀ M:Nat→Prop,qA T w' M β h fi.cfg.rets fi.fn.resultTypes.toList [.fresh a ks []] [v'] ps)∧∀ b o,some (b,o)∈ps→b<w'.heap.size∧base≤b:=by
  have e1:(aB T e).1=a:=by rw[hsh]
  have e2:(aB T e).2=ks:=by rw[hsh]
  obtain⟨-,⟨rfl,-⟩ | ⟨g,cap,cur,rfl,hb,hg,-,-,hsz,-⟩⟩:=ho
  · refine⟨[none],fun M=>?_,fun b o h=>by simp at h⟩
    rw[hr,ht]
    refine .cons _ _ _ _ _ _ _ _ _ ?_ (.nil _) (fun b o o' _ h=>by cases h)
    have key:=qB.fresh (T:=T) (w:=w') (M:=M) (β:=β) (h:=h) t e [] (.slice none 0 0) none hu
    rw[e1,e2]at key
    exact key (.fM _ _) (.sliceE 0 0 a ks [] none rfl (Nat.le_refl _))
  · refine⟨[some (g,0)],fun M=>?_,fun b o h=>?_⟩
    · rw[hr,ht]
      refine .cons _ _ _ _ _ _ _ _ _ ?_ (.nil _) (fun b o o' _ h=>by cases h)
      have key:=qB.fresh (T:=T) (w:=w') (M:=M) (β:=β) (h:=h) t e [] (.slice (some ⟨g,0,none⟩) 0 cap) (some (g,0)) hu
      rw[e1,e2]at key
      refine key (.fM _ _) ?_
      have k2:=AR.slice (w:=w') (M:=M) (β:=fun _=>some (g,0)) (h:=fun _=>some (.arr a ks [])) 0 0 0 a ks [] g 0 cap rfl (by simp) rfl (Nat.zero_le _) ⟨cur,el,(0,0),hg,by simp;omega,fun _=>.inl rfl⟩
      simpa using k2
    · simp only[List.mem_singleton,Option.some.injEq,Prod.mk.injEq]at h
      obtain⟨rfl,rfl⟩:=h
      exact⟨(Array.getElem?_eq_some_iff.1 hg).1,hb⟩
end
end Go.Skm
namespace Go.Skm
open Go Go.Proofs Go.Shelf Go.RowKit Go.Sort
def aar:zB:=fun args bl=>match args,bl with
 | [.p (.str s),.p (.str sep)],[]=>if s.size<4294967281 then some ([.p (.str (ba (Lib.cut s.data.toList sep.data.toList).1)),.p (.str (ba (Lib.cut s.data.toList sep.data.toList).2.1)),.p (.bool (Lib.cut s.data.toList sep.data.toList).2.2)],[]) else none
 | _,_=>none
section
variable {P:Program} {T:Tab} {gl:Option (List (Nat × Obj))} {ρ:Ren} {fi:FI} {c:Code} {M:Nat→Prop} {β:Nat→Option Nat} {w':World}
theorem U9 {w:World} {k:Nat}:Below w.heap.size w (w.drewN k):=⟨rfl,rfl,rfl,Nat.le_refl _,fun _ _=>rfl⟩
theorem YE (hne : gl ≠ none) (L : LaysM.n145 P ρ) {f : Nat} (hf : ρ.f 145 = f) (hfi : bG T.funcs f = some fi) (hb : fi.fn.body = some c) (hr : fi.cfg.rets = []) {t u v : TypeId} (ht : fi.fn.resultTypes = #[t,u,v])
    (hs:aB T t=(false,[.str])) (hs2:aB T u=(false,[.str])) (hs3:aB T v=(false,[.bool]))
    (hg:∀ w:World,(∀ p∈gl.getD [],w.heap[p.1]?=some p.2)→∃ m,w.cell? ⟨ρ.g 1,0,none⟩=some (.int .i64 m)):yO P T gl f aar:=by
  intro fi' args bl rs iU wK h
  have:fi'=fi:=by rw[hfi]at wK;exact(Option.some.inj wK).symm
  subst this
  unfold aar at h
  split at h
  · next s sep =>
    split at h
    · next hn =>
      cases h
      refine⟨⟨_,hb⟩,by simp,fun w M β aG hgl hpre=>?_⟩
      obtain⟨v,u,rfl,hv,hu'⟩:=xQ hpre
      have hv':=uq hv
      subst hv'
      have adr:=uq hu'
      subst adr
      obtain⟨m,hm⟩:=hg w fun p hp=>(hgl p hp).2
      have call:=Any.strings_Cut { L with } s sep m w hn hm
      rw[hf]at call
      refine call.mono fun e' w' ⟨he,n,hw⟩=>⟨[.string ⟨(Lib.cut s.data.toList sep.data.toList).1.toArray⟩,.string ⟨(Lib.cut s.data.toList sep.data.toList).2.1.toArray⟩,.bool (Lib.cut s.data.toList sep.data.toList).2.2],[none,none,none],M,he,?_⟩
      subst hw
      refine nC hpre U9 (fun e=>absurd e hne) (fun M=>?_) (fun b o h=>by simp at h)
      rw[hr,ht]
      exact .cons _ _ _ _ _ _ _ _ _ (.deep _ _ _ (by rw[hs];rfl) (.str _)) (.cons _ _ _ _ _ _ _ _ _ (.deep _ _ _ (by rw[hs2];rfl) (.str _))
       (.cons _ _ _ _ _ _ _ _ _ (.deep _ _ _ (by rw[hs3];rfl) (.bool _)) (.nil _) (fun b o o' h=>by cases h)) (fun b o o' h=>by cases h)) (fun b o o' h=>by cases h)
    · cases h
  · cases h
end
end Go.Skm
namespace Go.Skm
open Go Go.Proofs Go.Shelf Go.RowKit
section
variable {P:Program} {T:Tab} {gl:Option (List (Nat × Obj))} {ρ:Ren} {fi:FI} {c:Code}
end
end Go.Skm
set_option maxRecDepth 100000
namespace Go.Skm
open Go Go.Proofs Go.Shelf Go.RowKit
def strsOf:List PV→Option (List ByteArray)
 | []=>some []
 | .str s::r=>(strsOf r).map (s::·)
 | _=>none
theorem IL:∀ {xs:List PV} {bs:List ByteArray},strsOf xs=some bs→xs=bs.map PV.str
 | [],bs,h=>by cases h;rfl
 | x::r,bs,h=>by
  unfold strsOf at h
  split at h
  · next heq=>cases heq
  · next s r' heq =>
    cases heq
    obtain⟨bs',h1,rfl⟩:=Option.map_eq_some_iff.1 h
    rw[IL h1];rfl
  · cases h
theorem JB:∀ (bs:List ByteArray),strsOf (bs.map PV.str)=some bs
 | []=>rfl
 | b::r=>by
  rw[List.map_cons,strsOf,JB r];rfl
def Vl:zB:=fun args bl=>match args,bl with
 | [.p (.list false ks xs),.p (.str sep)],[]=>match strsOf xs with
  | some bs=>if Kd.wL ks [.str]=true∧bs.length≤100000000∧(Lib.join (bs.map (·.data.toList)) sep.data.toList).length≤100000000 then some ([.p (.str (ba (Lib.join (bs.map (·.data.toList)) sep.data.toList)))],[]) else none
  | none=>none
 | _,_=>none
def OO:zB:=fun args bl=>match args,bl with
 | [.p (.str s),.p (.str u)],[]=>if s.size<4294967281 then some ([.p (.int .i64 (Lib.index s.data.toList u.data.toList))],[]) else none
 | _,_=>none
def OM:zB:=fun args bl=>match args,bl with
 | [.p (.str s),.p (.str sep)],[]=>match sep.data.toList with
  | [b]=>if s.size<4294967281 then some ([.p (.list false [.str] ((dF b s.data.toList).map fun p=>.str (ba p)))],[]) else none
  | _=>none
 | _,_=>none
section
variable {P:Program} {T:Tab} {gl:Option (List (Nat × Obj))} {ρ:Ren} {fi:FI} {c:Code}
theorem TG (hne:gl≠none) (L:Lays.n156 P ρ) (B:Builder.Extra P ρ) {f:Nat} (hf:ρ.f 156=f) (hfi:bG T.funcs f=some fi) (hb:fi.fn.body=some c) (hr:fi.cfg.rets=[]) {t:TypeId} (ht:fi.fn.resultTypes=#[t]) (hs:aB T t=(false,[.str])):yO P T gl f Vl:=by
 intro fi' args bl rs iU wK h
 have:fi'=fi:=by rw[hfi]at wK;exact(Option.some.inj wK).symm
 subst this
 unfold Vl at h
 split at h
 · next ks xs sep =>
   split at h
   · next bs hbs =>
     split at h
     · next hn =>
       obtain⟨hk,hn1,hn2⟩:=hn
       have hk:=Kd.jY _ _ hk
       subst hk
       have hx:=IL hbs
       subst hx
       cases h
       refine⟨⟨_,hb⟩,by simp,fun w M β aG hgl hpre=>?_⟩
       obtain⟨v,u,rfl,hv,hu⟩:=xQ hpre
       have hu':=uq hu
       subst hu'
       have fin:∀ (e:Ending) (w':World),e=.returned (.string ⟨(Lib.join (bs.map (·.data.toList)) sep.data.toList).toArray⟩)∧Below w.heap.size w w'→∃ cs ps M',e=.returned (rP cs)∧rQ gl T fi' w M β [] [.p (.str (ba (Lib.join (bs.map (·.data.toList)) sep.data.toList)))] [] w' M' cs ps:=by
        intro e w' ⟨he,hw⟩
        exact⟨[.string (ba (Lib.join (bs.map fun x:ByteArray=>x.data.toList) sep.data.toList))],[none],M,he,nC hpre hw (fun e=>absurd e hne) (fun M=>Me hr ht (by rw[hs];rfl) (.str _)) (fun b o h=>by simp at h)⟩
       generalize hys:bs.map PV.str=ys at hv
       cases hv with
       | list _ _ _ b o cap g hM hcap hc TA hsh =>
        subst hys
        have cells:∀ (j:Nat) x,bs[j]?=some x→w.cell? ⟨b,o+j,none⟩=some (.string x):=by
         intro j x hx
         have hx':(bs.map PV.str)[j]?=some (.str x):=by rw[List.getElem?_map,hx];rfl
         have h1:=hc j (.str x) 0 (.str x) hx' rfl
         have h2:=TA j (.str x) 0 (.str x) hx' rfl
         have:=uq h2
         rw[this]at h1
         simpa using h1
        rw[List.length_map]at hcap ⊢
        have call:=Any.strings_Join L B b o cap bs sep w cells (hpre.fJ b hM) (by omega) hcap (by omega)
        rw[hf]at call
        exact call.mono fin
       | kD _ _ base cap =>
        have hbe:bs=[]:=by cases bs with | nil=>rfl | cons _ _=>cases hys
        subst hbe
        have call:=Any.strings_Join_none L B base cap sep w
        rw[hf]at call
        refine call.mono fun e w' ⟨he,hw⟩=>fin e w' ⟨he,hw▸Below.refl _ _⟩
     · cases h
   · cases h
 · cases h
theorem TJ (hne : gl ≠ none) (L : LaysM.n143 P ρ) {f : Nat} (hf : ρ.f 143 = f) (hfi : bG T.funcs f = some fi) (hb : fi.fn.body = some c) (hr : fi.cfg.rets = []) {t : TypeId} (ht : fi.fn.resultTypes = #[t]) (hs : aB T t = (false,[.int .i64]))
    (hg:∀ w:World,(∀ p∈gl.getD [],w.heap[p.1]?=some p.2)→∃ m,w.cell? ⟨ρ.g 1,0,none⟩=some (.int .i64 m)):yO P T gl f OO:=by
  intro fi' args bl rs iU wK h
  have:fi'=fi:=by rw[hfi]at wK;exact(Option.some.inj wK).symm
  subst this
  unfold OO at h
  split at h
  · next s sub =>
    split at h
    · next hn =>
      cases h
      refine⟨⟨_,hb⟩,by simp,fun w M β aG hgl hpre=>?_⟩
      obtain⟨v,u,rfl,hv,hu⟩:=xQ hpre
      have hv':=uq hv
      subst hv'
      have hu':=uq hu
      subst hu'
      obtain⟨m,hm⟩:=hg w fun p hp=>(hgl p hp).2
      have call:=Any.strings_Index { L with } s sub m w hn hm
      rw[hf]at call
      refine call.mono fun e w' ⟨he,hw⟩=>⟨[.int .i64 (Lib.index s.data.toList sub.data.toList)],[none],M,he,?_⟩
      subst hw
      exact nC hpre (Below.refl _ _) (fun e=>absurd e hne) (fun M=>Me hr ht (by rw[hs];rfl) (.int _ _)) (fun b o h=>by simp at h)
    · cases h
  · cases h
theorem QE (hne : gl ≠ none) (L : LaysM.n146 P ρ) {f : Nat} (hf : ρ.f 146 = f) (hfi : bG T.funcs f = some fi) (hb : fi.fn.body = some c) (hr : fi.cfg.rets = [.deep]) (hsh : fi.cfg.shares = true) {t : TypeId} (ht : fi.fn.resultTypes = #[t]) (hs : aB T t = (false,[.slice false [.str]]))
    (hg:∀ w:World,(∀ p∈gl.getD [],w.heap[p.1]?=some p.2)→∃ m,w.cell? ⟨ρ.g 1,0,none⟩=some (.int .i64 m)):yO P T gl f OM:=by
  intro fi' args bl rs iU wK h
  have:fi'=fi:=by rw[hfi]at wK;exact(Option.some.inj wK).symm
  subst this
  unfold OM at h
  split at h
  · next s sep =>
    split at h
    · next b hsep =>
      split at h
      · next hn =>
        cases h
        have ae7:sep=⟨#[b]⟩:=ba_eq.2 hsep
        subst ae7
        refine⟨⟨_,hb⟩,by simp,fun w M β aG hgl hpre=>?_⟩
        obtain⟨v,u,rfl,hv,hu'⟩:=xQ hpre
        have hv':=uq hv
        subst hv'
        have adr:=uq hu'
        subst adr
        obtain⟨m,hm⟩:=hg w fun p hp=>(hgl p hp).2
        have call:=Any.strings_Split { L with } L.i9 s ⟨#[b]⟩ m w hn hm (Nat.le_refl 1)
        rw[hf,OB]at call
        have hlen:Lib.countB s ⟨#[b]⟩+1=(dF b s.data.toList).length:=by
         have h1:=Lib.splitB_all ⟨#[b]⟩ (Nat.le_refl 1) 0 _ s rfl
         rw[OB,List.length_map]at h1
         exact h1.symm
        rw[hlen]at call
        refine call.mono fun e' w' ⟨he,hw⟩=>⟨[.slice (some ⟨w.heap.size,0,none⟩) (dF b s.data.toList).length (dF b s.data.toList).length],[none],(fun k=>M k∨k=w.heap.size),he,?_⟩
        subst hw
        have hnew:(w.alloc (.cells (((dF b s.data.toList).map fun l=>(⟨l.toArray⟩:ByteArray)).map Value.string).toArray (ρ.t 9))).heap[w.heap.size]?=some (.cells (((dF b s.data.toList).map fun l=>(⟨l.toArray⟩:ByteArray)).map Value.string).toArray (ρ.t 9) (0,0)):=by
         show (w.heap.push _)[w.heap.size]?=_
         simp
        have hbel:=SV (w:=w) (.cells (((dF b s.data.toList).map fun l=>(⟨l.toArray⟩:ByteArray)).map Value.string).toArray (ρ.t 9))
        have hsz:(w.alloc (.cells (((dF b s.data.toList).map fun l=>(⟨l.toArray⟩:ByteArray)).map Value.string).toArray (ρ.t 9))).heap.size=w.heap.size+1:=by show (w.heap.push _).size=_;simp
        refine⟨?_,fun b o h=>by simp at h,fun _ h=>(by rw[hsh]at h;cases h),fun b h=>.inl h,fun k h=>?_,fun k h=>?_,fun k h _=>hbel.block k h,fun k n h hr=>?_,hbel.size,hbel.os,hbel.tape,hbel.output,fun e=>absurd e hne,rfl,fun i b0 b1 h=>by simp at h⟩
        · rw[hr,ht]
          refine .cons _ _ _ _ _ _ _ _ _ (.deep _ _ _ (by rw[hs];rfl) ?_) (.nil _) (fun b o o' h=>by cases h)
          have key:=VR.list (w:=w.alloc (.cells (((dF b s.data.toList).map fun l=>(⟨l.toArray⟩:ByteArray)).map Value.string).toArray (ρ.t 9))) (M:=fun k=>M k∨k=w.heap.size) false [.str] ((dF b s.data.toList).map fun p=>PV.str (ba p)) w.heap.size 0 (dF b s.data.toList).length
           (fun i _=>.string (ba ((dF b s.data.toList).getD i []))) (.inr rfl) (by simp) ?_ ?_ ?_
          · simpa using key
          · intro i x j cc hx hj
            rw[List.getElem?_map]at hx
            obtain⟨p,hp,rfl⟩:=Option.map_eq_some_iff.1 hx
            have hj0:j=0:=by
             have:=(List.getElem?_eq_some_iff.1 hj).1
             simp[PV.cells]at this;omega
            subst hj0
            have hi:=(List.getElem?_eq_some_iff.1 hp).1
            simp only[World.cell?,hnew,List.length_cons,List.length_nil,Nat.zero_add,Nat.mul_one,Nat.add_zero]
            simp[hp,List.getD_eq_getElem?_getD]
            rfl
          · intro i x j cc hx hj
            rw[List.getElem?_map]at hx
            obtain⟨p,hp,rfl⟩:=Option.map_eq_some_iff.1 hx
            have hj0:j=0:=by
             have:=(List.getElem?_eq_some_iff.1 hj).1
             simp[PV.cells]at this;omega
            subst hj0
            simp only[PV.cells,List.getElem?_cons_zero,Option.some.injEq]at hj
            subst hj
            rw[List.getD_eq_getElem?_getD,hp]
            exact .str _
          · intro x hx
            obtain⟨p,-,rfl⟩:=List.mem_map.1 hx
            rfl
        · rcases h with h | rfl
          · exact .inl h
          · exact .inr (Nat.le_refl _)
        · rcases h with h | rfl
          · have:=hpre.fJ k h;omega
          · omega
        · obtain⟨C,e,fr,h1,h2,h3⟩:=hr
          exact⟨C,e,fr,by rw[hbel.block k h];exact h1,h2,h3⟩
      · cases h
    · cases h
  · cases h
end
end Go.Skm
namespace Go.Skm
open Go Go.Proofs Go.Shelf Go.RowKit
variable {P:Program} {ρ:Ren}
def Va:Value→PV
 | .int .u8 n=>.int .u8 n
 | _=>.nil
theorem aac {cs:List Value} (h:∀ c∈cs,∃ n,c=.int .u8 n):(cs.map Va).map iE=cs:=by
 rw[List.map_map]
 conv=>rhs;rw[← List.map_id cs]
 refine List.map_congr_left fun c hc=>?_
 obtain⟨n,rfl⟩:=h c hc
 rfl
theorem Vb {cs:List Value} (h:∀ c∈cs,∃ n,c=.int .u8 n):∀ x∈cs.map Va,aA false [.int .u8] x=true:=by
 intro x hx
 obtain⟨c,hc,rfl⟩:=List.mem_map.1 hx
 obtain⟨n,rfl⟩:=h c hc
 rfl
structure Vd (e:TypeId) (w:World) (q:Option (Nat × Nat)) (cs:List Value) (v':Value) (w':World):Prop where
 row:∃ q',yB e w' v' q' cs∧∀ g o,q'=some (g,o)→(∃ o',q=some (g,o'))∨w.heap.size≤g
 keep:∀ k,k<w.heap.size→(∀ o,q≠some (k,o))→w'.heap[k]?=w.heap[k]?
 size:w.heap.size≤w'.heap.size
 os:w'.os=w.os
 tape:w'.tape=w.tape
 output:w'.output=w.output
 drawn:w.drawn≤w'.drawn
theorem V7 {w:World} {M:Nat→Prop} {x c:PV} {v:Value} (hx:aA false [.int .u8] x=true) (hc:x.cells[0]?=some c) (h:VR w M c v):v=iE x:=by
 obtain⟨n,rfl⟩:=zi hx
 cases hc
 cases h;rfl
theorem zq {x:PV} (hx:aA false [.int .u8] x=true):x.cells[0]?=some x:=by
 obtain⟨n,rfl⟩:=zi hx
 rfl
theorem Ve {e:TypeId} {w:World} {v:Value} {q:Option (Nat × Nat)} {xs:List PV} (hr:yB e w v q (xs.map iE)) (hxs:∀ x∈xs,aA false [.int .u8] x=true):KN P w (fun _=>False) false [.int .u8] xs.length xs v:=by
 rcases hr with ⟨_,h2,rfl⟩ | ⟨b,cap,C,fr,_,rfl,h3,h4,h5,h6,h7,h8⟩
 · have hx:xs=[]:=by simpa using h2
   subst hx
   exact mW none 0
 · rw[List.length_map]
   refine yC (P:=P) (w:=w) (M:=fun _=>False) (a:=false) (ks:=[.int .u8]) (xs:=xs) b 0 cap (fun i _=>C.getD i undef) (fun i x j c h1 h2=>?_) (fun i x j c h1 h2=>?_) hxs
   all_goals
    obtain⟨n,hn⟩:=zi (hxs x (List.mem_of_getElem? h1))
    subst hn
    have hj:j=0∧c=.int .u8 n:=by
     match j,h2 with
     | 0,h2=>cases h2;exact⟨rfl,rfl⟩
     | j+1,h2=>simp[PV.cells]at h2
    obtain⟨rfl,rfl⟩:=hj
   · have hi : i < C.size := by
       have:=(List.getElem?_eq_some_iff.1 h1).1
       simp only[List.length_map]at h3
       omega
     simp only[World.cell?,h5,Option.isSome_none,Bool.false_eq_true,if_false]
     have:0+i*[Kd.int IntKind.u8].length+0=i:=by simp
     rw[this,Array.getElem?_eq_getElem hi]
     simp[Array.getD,hi]
   · rw[h8 i (.int .u8 n) (by rw[List.getElem?_map,h1];rfl)]
     exact .int _ _
theorem zQ {P : Program} {b o : Nat} {e : TypeId} {fr : Nat × Nat} : ∀ (vs : List Value) (i : Nat) (w : World) (C : Array Value),w.heap[b]? = some (.cells C e fr) → Past (o + i) fr → o + i + vs.length ≤ C.size →
    (∀ v∈vs,v.oneCell'=true)→(storeCells ⟨b,o,none⟩ vs i).run P w=.ok () (dM w b (dS C (o+i) vs) e fr)
  | [],i,w,C,hw,_,hl,_=>by
   have:dS C (o+i) []=C:=by simp[dS,patch]
   rw[this,Ic hw];rfl
  | v::r,i,w,C,hw,ho,hl,h1=>by
   simp only[List.length_cons]at hl
   have hcell:w.cell? ⟨b,o+i,none⟩=some (C.getD (o+i) undef):=uj hw (by omega)
   have hfr:w.frozen? ⟨b,o+i,none⟩=false:=by
    simp only[World.frozen?,hw]
    simp only[Bool.and_eq_false_iff,decide_eq_false_iff_not]
    rcases ho with ho | ho<;>omega
   have hb:=(Array.getElem?_eq_some_iff.1 hw).1
   simp only[storeCells,Sem.run_bind,addr_add,run_store P w _ v .plain (h1 v (by simp)),hcell,hfr,Bool.false_eq_true,if_false,Result.andThen_ok,setCell_eq hw]
   rw[zQ r (i+1) _ (C.setIfInBounds (o+i) v) (rY hw) (ho.mono (by omega)) (by simp;omega) (fun u hu=>h1 u (by simp[hu])),Di]
   congr 2
   rw[← Nat.add_assoc]
   exact NY (by simp;omega)
theorem abn {ts : Array TypeId} {ty t t2 e : TypeId} {i : TypeInfo} {v0 : Value} (h0 : ts[0]? = some t) (h1 : ts[1]? = some t2) (hu : P.underlying t = some (.slice e)) (hi : P.info? e = some i) (hz : i.zero = some v0) (hsz : i.size = 1) (hby : i.bytes ≤ 16384) (hzs : v0.cells.size = 1)
    {w:World} {v:Value} {q:Option (Nat × Nat)} {cs:List Value} (hr:yB e w v q cs) (hb:∀ c∈cs,∃ n,c=.int .u8 n) {m:Nat} {ys:List PV} {cy:Value} (hys:∀ y∈ys,aA false [.int .u8] y=true)
    (hB:vJ P w (fun _=>False) t2 v0 false [.int .u8] m ys cy) (hB':vJ P w.drew (fun _=>False) t2 v0 false [.int .u8] m ys cy) (hm:cs.length+m≤2147483648) :
    ∃ v' w',(Builtin.append_ ts ty #[v,cy]).run P w=.ok v' w'∧Vd e w q (cs++ys.map iE) v' w':=by
  have hym:ys.length=m:=hB.1
  let xs:=cs.map Va
  have hxl:xs.length=cs.length:=by simp[xs]
  have hxv:xs.map iE=cs:=aac hb
  have hxs:=Vb hb
  obtain⟨zeros,td,CB,b3,b4,b5,b6,b7,b8⟩:=hB.both hB'
  have one:∀ u∈CB.toList,u.oneCell'=true:=hB.one CB b5 b6
  have hCB:∀ (j:Nat) (y:PV),ys[j]?=some y→CB.getD j undef=iE y:=fun j y hy=>by
   have hs:=hys y (List.mem_of_getElem? hy)
   have:=b6 j y 0 y hy (zq hs)
   have e1:j*[Kd.int IntKind.u8].length+0=j:=by simp
   rw[e1]at this
   exact V7 hs (zq hs) this
  have ae8:CB.size=m:=by simpa using b5
  have grow:∀ (base:Option Addr) (cap:Nat),v=.slice base cs.length cap→cap<cs.length+m→0<cs.length+m→(∀ g o,q=some (g,o)→g<w.heap.size)→∃ v' w',(Builtin.append_ ts ty #[v,cy]).run P w=.ok v' w'∧Vd e w q (cs++ys.map iE) v' w':=by
   intro base cap hv hgr hpos hq
   have hrd:yB e w.drew v q (xs.map iE):=by rw[hxv];exact hr
   have hA:KN P w.drew (fun _=>False) false [.int .u8] xs.length xs v:=Ve hrd hxs
   rw[hv,hxl]at hA
   obtain⟨D,qO,g1,g2,g3,g4,g5,g6⟩:=zh (ty:=ty) (ks:=[.int .u8]) h0 h1 hu hi hz hsz hby hzs hm hA hB hB' hgr
   refine⟨_,_,by rw[hv];exact g1,⟨⟨some (w.heap.size,0),.inr ⟨w.heap.size,qO,D,(0,0),rfl,?_,?_,?_,lZ (w:=w.drew),?_,Or.inl rfl,fun j c hj=>?_⟩,fun g o hg=>by cases hg;exact .inr (Nat.le_refl _)⟩,fun k hk _=>alloc_old (w:=w.drew) hk,by simp,rfl,rfl,rfl,Nat.le_succ _⟩⟩
   · simp[hym]
   · simp[hym];exact g2
   · simp[hym];omega
   · simp at g3;omega
   · have hc:cs++ys.map iE=(xs++ys).map iE:=by rw[List.map_append,hxv]
     rw[hc,List.getElem?_map]at hj
     cases hy:(xs++ys)[j]? with
     | none=>rw[hy]at hj;simp at hj
     | some y =>
      rw[hy]at hj
      simp only[Option.map_some,Option.some.injEq]at hj
      subst hj
      have hs:=g4 y (List.mem_of_getElem? hy)
      have:=g6 j y 0 y hy (zq hs)
      have e1:j*[Kd.int IntKind.u8].length+0=j:=by simp
      rw[e1]at this
      exact V7 hs (zq hs) this
  have fits:∀ (base:Option Addr) (len cap:Nat) (w1:World),len+m≤2147483648→len+m≤cap→Ru P base (len*1) CB w w1→(Builtin.append_ ts ty #[.slice base len cap,cy]).run P w=.ok (.slice base (len+m) cap) w1:=by
   intro base len cap w1 hm hcap hst
   exact DZ (ks:=[.int .u8]) h0 h1 hu hi hz hsz hby b3 b4 hm (C:=CB) b7 b8 (fun _=>⟨rfl,by simpa using hst⟩) (fun h=>by omega)
  rcases hr with ⟨rfl,rfl,rfl⟩ | ⟨b,cap,C,fr,rfl,rfl,h3,h4,h5,h6,h7,h8⟩
  · by_cases hm0:m=0
    · subst hm0
      have hy0:ys=[]:=by simpa using hym
      subst hy0
      have hrun:=fits none 0 0 w (by decide) (Nat.le_refl _) rfl
      exact⟨.slice none 0 0,w,hrun,⟨⟨none,.inl ⟨rfl,rfl,rfl⟩,fun g o h=>by cases h⟩,fun _ _ _=>rfl,Nat.le_refl _,rfl,rfl,rfl,Nat.le_refl _⟩⟩
    · exact grow none 0 rfl (by simp;omega) (by simp;omega) fun g o h=>by cases h
  · by_cases hfit:cs.length+m≤cap
    · have hroom:0+cs.length*1+CB.toList.length≤C.size:=by simp[ae8];omega
      have hst:=zQ (P:=P) (b:=b) (o:=0+cs.length*1) (e:=e) (fr:=fr) CB.toList 0 w C h5 (h7.mono (by omega)) (by simpa using hroom) one
      rw[Nat.add_zero]at hst
      have hrun:=fits (some ⟨b,0,none⟩) cs.length cap (dM w b (dS C (0+cs.length*1) CB.toList) e fr) hm hfit (by simp only[Ru,addr_add];simpa using hst)
      have hlt:b<w.heap.size:=(Array.getElem?_eq_some_iff.1 h5).1
      have hset:=rY (C':=dS C (0+cs.length*1) CB.toList) h5
      have hsz:=eP (vs:=CB.toList) hroom
      have hget:=fun j=>oK (vs:=CB.toList) hroom j
      have hoth:∀ k,k≠b→(dM w b (dS C (0+cs.length*1) CB.toList) e fr).heap[k]?=w.heap[k]?:=fun k hkb=>by simp only[dM];rw[Array.getElem?_setIfInBounds_ne (fun e=>hkb e.symm)]
      have hws:(dM w b (dS C (0+cs.length*1) CB.toList) e fr).heap.size=w.heap.size:=by simp[dM]
      have ho1:(dM w b (dS C (0+cs.length*1) CB.toList) e fr).os=w.os:=rfl
      have ho2:(dM w b (dS C (0+cs.length*1) CB.toList) e fr).tape=w.tape:=rfl
      have ho3:(dM w b (dS C (0+cs.length*1) CB.toList) e fr).output=w.output:=rfl
      have ho4:(dM w b (dS C (0+cs.length*1) CB.toList) e fr).drawn=w.drawn:=rfl
      generalize dM w b (dS C (0+cs.length*1) CB.toList) e fr=w2 at *
      generalize dS C (0+cs.length*1) CB.toList=C2 at *
      refine⟨_,w2,hrun,⟨⟨some (b,0),.inr ⟨b,cap,C2,fr,rfl,?_,?_,?_,hset,?_,h7.mono (by simp),fun j c hj=>?_⟩,fun g o h=>by cases h;exact .inl ⟨0,rfl⟩⟩,fun k hk hne=>?_,?_,ho1,ho2,ho3,?_⟩⟩
      · simp[hym]
      · simp[hym];exact hfit
      · simp;omega
      · rw[hsz];exact h6
      · rw[hget]
        by_cases hjl:j<cs.length
        · rw[if_neg (by omega)]
          rw[List.getElem?_append_left hjl]at hj
          exact h8 j c hj
        · rw[List.getElem?_append_right (by omega),List.getElem?_map]at hj
          cases hy:ys[j-cs.length]? with
          | none=>rw[hy]at hj;simp at hj
          | some y =>
           rw[hy]at hj
           simp only[Option.map_some,Option.some.injEq]at hj
           subst hj
           have hjm:=(List.getElem?_eq_some_iff.1 hy).1
           rw[if_pos (by simp[ae8];omega)]
           have e1:j-(0+cs.length*1)=j-cs.length:=by omega
           rw[e1]
           have:=hCB _ y hy
           simpa using this
      · exact hoth k fun e=>hne 0 (by rw[e])
      · rw[hws];exact Nat.le_refl _
      · rw[ho4];exact Nat.le_refl _
    · exact grow _ cap rfl (by omega) (by omega) fun g o h=>by cases h;exact(Array.getElem?_eq_some_iff.1 h5).1
theorem aad (w:World):Rel ⟨w,0,Nat.zero_le _,none⟩ (fun _=>False) (fun _=>False) (fun _=>False) (fun _=>none) { env:=[],heap:=[] } { tmps:=#[],defers:=[] } w :=
 ⟨Nat.le_refl _,fun t v h=>by simp at h,fun s blk hs=>by simp[look]at hs,fun s b o hs=>by simp[look]at hs,fun s s' b o o' hs=>by simp[look]at hs,fun b h=>h.elim,fun b h=>h.elim,fun b h=>h.elim,fun _ _ _=>rfl,fun b n h=>by simp at h,Nat.le_refl _,rfl,rfl,rfl,fun p hp=>by simp at hp⟩
theorem S9 {t2:TypeId} (h:P.underlying t2=some .string) (v0:Value) (x:ByteArray) (w:World):vJ P w (fun _=>False) t2 v0 false [.int .u8] x.size (yL x) (.string x) :=
 vJ.Us h rfl (yD (P:=P) (aad w) (h':=look []) (fun _ _ h=>h) (y:=.p (.str x)) (c:=.string x) (.p _ _ (.str x)) (s2:=some (false,[.int .u8])) rfl rfl)
theorem Vf {ops : Array Oper} {rest : List Oper} {o : Oper} {a : Act} {w : World} {Q : Exit → Act → World → Prop} (hgd : o.guard = none) (sl x : Operand) (t t2 : TypeId)
    (ho:o.op=.call { callee:=.builtin .append,args:=#[sl,x],argTypes:=#[t,t2] })
    {e:TypeId} {i:TypeInfo} {v0:Value} (hu:P.underlying t=some (.slice e)) (hi:P.info? e=some i) (hz:i.zero=some v0) (hsz:i.size=1) (hby:i.bytes≤16384) (hzs:v0.cells.size=1)
    {v:Value} {q:Option (Nat × Nat)} {cs:List Value} (hs:a.eval sl=v) (hr:yB e w v q cs) (hb:∀ c∈cs,∃ n,c=.int .u8 n) {m:Nat} {ys:List PV} {cy:Value} (hx:a.eval x=cy) (hys:∀ y∈ys,aA false [.int .u8] y=true)
    (hB:vJ P w (fun _=>False) t2 v0 false [.int .u8] m ys cy) (hB':vJ P w.drew (fun _=>False) t2 v0 false [.int .u8] m ys cy) (hm:cs.length+m≤2147483648)
    (h:∀ v' w',Vd e w q (cs++ys.map iE) v' w'→wpList P ops Q rest (a.put o.dst v') w'):wpList P ops Q (o::rest) a w:=by
  refine wpList_plain hgd fun K hK=>?_
  obtain⟨v',w',hr,h2⟩:=abn (P:=P) (ty:=o.type) (ts:=#[t,t2]) rfl rfl hu hi hz hsz hby hzs hr hb hys hB hB' hm
  unfold Oper.wp execOp
  simp only[ho,resolve,invoke,builtin,Sem.run_bind,Sem.run_pure,Result.andThen_ok,List.map_toArray,List.map_cons,List.map_nil,hs,hx,hr]
  exact hK _ _ (h v' w' h2)
theorem OD {w:World} {t:TypeId} {b:Nat} {q:Option (Nat × Nat)} {cs:List Value} {C:Array Value} {fr:Nat × Nat} {e:TypeId} (h:NU e w t b q cs C fr):C=#[C.getD 0 undef,C.getD 1 undef]:=by
 have:=h.hn
 apply Array.ext
 · simpa using this
 · intro i h1 h2
   have:i=0∨i=1:=by simp at h2;omega
   rcases this with rfl | rfl<;>simp[Array.getD,h1]
theorem IQ {w:World} {b:Nat} {C:Array Value} {t:TypeId} {fr:Nat × Nat} (hw:w.heap[b]?=some (.cells C t fr)) (ho:Open C fr) {j:Nat} (hj:j<C.size):w.frozen? ⟨b,j,none⟩=false:=by
 have:=ho.at j hj
 obtain⟨lo,hi⟩:=fr
 simp only[World.frozen?,hw]
 simp only[Bool.and_eq_false_iff,decide_eq_false_iff_not]
 simp only[not_and,Nat.not_lt]at this
 by_cases hlo:lo≤j
 · right;have:=this hlo;omega
 · left;exact hlo
theorem Tc (L : Lays.n240 P ρ) (X : Builder.X72 P ρ) {w : World} {b : Nat} {q : Option (Nat × Nat)} {cs : List Value} {C : Array Value} {fr : Nat × Nat} {e : TypeId} (h : NU e w (ρ.t 72) b q cs C fr) :
    Calls P (ρ.f 240) #[.pointer (some ⟨b,0,none⟩)] w fun e w'=>e=.returned (.tuple #[])∧w'.heap[b]?=some (.cells #[.pointer (some ⟨b,0,none⟩),C.getD 1 undef] (ρ.t 72) fr)∧(∀ k,k≠b→w'.heap[k]?=w.heap[k]?)∧w'.heap.size=w.heap.size∧w'.os=w.os∧w'.tape=w.tape∧w'.output=w.output∧w'.drawn=w.drawn:=by
  have hC:=OD h
  have hlt:b<w.heap.size:=(Array.getElem?_eq_some_iff.1 h.hw).1
  have c0:w.cell? ⟨b,0,none⟩=some (C.getD 0 undef):=by
   simp only[World.cell?,h.hw]
   rw[hC];rfl
  rcases h.h0 with e | e
  · rw[e]at c0
    refine(Any.Builder_copyCheck_fresh L X b w c0 (by simp only[World.shape?,h.hw];rw[h.hn]) (IQ h.hw h.ho (by rw[h.hn];decide))).mono ?_
    rintro e1 w' ⟨rfl,rfl⟩
    refine⟨rfl,?_,fun k hk=>?_,by simp[World.setCell],rfl,rfl,rfl,rfl⟩
    · simp only[World.setCell,Array.getElem?_modify,h.hw,Option.map_some]
      rw[hC];rfl
    · simp only[World.setCell,Array.getElem?_modify]
      rw[if_neg (Ne.symm hk)]
  · rw[e]at c0
    refine(Any.Builder_copyCheck_used L X b w c0).mono ?_
    rintro e1 w' ⟨rfl,rfl⟩
    refine⟨rfl,?_,fun _ _=>rfl,rfl,rfl,rfl,rfl,rfl⟩
    rw[h.hw]
    congr 2
    rw[← e];exact hC
theorem MC {e:TypeId} {w w':World} {v:Value} {q:Option (Nat × Nat)} {cs:List Value} (h:yB e w v q cs) (hk:∀ g o,q=some (g,o)→w'.heap[g]?=w.heap[g]?):yB e w' v q cs:=by
 rcases h with h | ⟨b,cap,C,fr,h1,h2,h3,h4,h5,h6⟩
 · exact .inl h
 · exact .inr ⟨b,cap,C,fr,h1,h2,h3,h4,(hk b 0 h1).trans h5,h6⟩
set_option maxHeartbeats 2000000 in
set_option maxRecDepth 100000 in
theorem aao (L:Lays.n166 P ρ) (X:Builder.Extra P ρ):VN P (ρ.f 166) [ρ.t 72] (ρ.t 5) .Zb:=by
 intro t ht w b q cs C fr x hB hm
 have ht:t=ρ.t 72:=by simpa using ht
 subst ht
 obtain⟨i0,hi,hz0,hz1,hz2⟩:=info_parts X.infoByte
 have mixed:=L.mixed
 have t72:=L.t72;have a72:=L.a72;have z72:=L.z72;have v72:=L.v72;have u72:=run_underlying L.t72
 have t70:=L.t70;have a70:=L.a70;have z70:=L.z70;have v70:=L.v70;have u70:=run_underlying L.t70
 have t37:=L.t37;have a37:=L.a37;have z37:=L.z37;have v37:=L.v37;have u37:=run_underlying L.t37
 have t3:=L.t3;have a3:=L.a3;have z3:=L.z3;have v3:=L.v3;have u3:=run_underlying L.t3
 have t9:=L.t9;have a9:=L.a9;have z9:=L.z9;have v9:=L.v9;have u9:=run_underlying L.t9
 have t4:=L.t4;have a4:=L.a4;have z4:=L.z4;have v4:=L.v4;have u4:=run_underlying L.t4
 have t164:=L.t164;have a164:=L.a164;have z164:=L.z164;have v164:=L.v164;have u164:=run_underlying L.t164
 have t5:=X.t5;have a5:=X.a5;have z5:=X.z5;have v5:=X.v5;have u5:=run_underlying X.t5
 have e240:∀ args w,(callFunc (ρ.f 240) args).run P w=.ok (.enter (ρ.f 240) args) w:=enters_of L.f240 (by kernel_rfl) rfl
 go_enter L.f166,Body.n166_ntmps ρ
 go_wp2_with (go_at_fn (ρ.f 240);refine(Tc { L with } X.toX72 hB).mono ?_)
 rintro e w1 ⟨rfl,hbk,hoth,hsz,hos,htp,hop,hdr⟩
 have hrow:yB (ρ.t 5) w1 (C.getD 1 undef) q cs:=MC hB.h1 fun g o h=>hoth g fun e=>hB.ne o (e▸h)
 generalize C.getD 1 undef=v at hbk hrow
 have c0:w1.cell? ⟨b,0,none⟩=some (.pointer (some ⟨b,0,none⟩)):=by rw[Lib.cell_of_heap hbk];rfl
 have c1:w1.cell? ⟨b,1,none⟩=some v:=by rw[Lib.cell_of_heap hbk];rfl
 go_wp2_with (at_builtin;refine Vf rfl _ _ (ρ.t 37) (ρ.t 9) rfl L.t37 hi hz0 hz1 (by rw[hz2];decide) rfl rfl hrow hB.bytes rfl (Fg x) (S9 L.t9 _ x _) (S9 L.t9 _ x _) hm ?_)
 intro v' w2 hput
 rw[Le]at hput
 obtain⟨q',hq1,hq2⟩:=hput.row
 have hlt:b<w1.heap.size:=(Array.getElem?_eq_some_iff.1 hbk).1
 have hb2:w2.heap[b]?=some (.cells #[.pointer (some ⟨b,0,none⟩),v] (ρ.t 72) fr):=by
  rw[hput.keep b hlt hB.ne];exact hbk
 have hop2:Open #[Value.pointer (some ⟨b,0,none⟩),v] fr:=hB.ho.size (by rw[hB.hn];rfl)
 have d0:w2.cell? ⟨b,0,none⟩=some (.pointer (some ⟨b,0,none⟩)):=by rw[Lib.cell_of_heap hb2];rfl
 have d1:w2.cell? ⟨b,1,none⟩=some v:=by rw[Lib.cell_of_heap hb2];rfl
 have f1:w2.frozen? ⟨b,1,none⟩=false:=IQ hb2 hop2 (by simp)
 obtain⟨ao,n',cap,rfl⟩:∃ ao n' cap,v'=.slice ao n' cap:=by
  obtain⟨base,cap,h⟩:=XB hq1
  exact⟨_,_,_,h⟩
 go_wp2
 go_ret2
 refine⟨rfl,⟨fun k hk hkb hkq=>?_,?_,?_,?_,?_,?_⟩,.slice ao n' cap,q',?_,?_,fun g o hg=>?_⟩
 · simp only[World.setCell,Array.getElem?_modify]
   rw[if_neg (Ne.symm hkb),hput.keep k (by omega) hkq,hoth k hkb]
 · have:=hput.size;simp[World.setCell];omega
 · exact hput.os.trans hos
 · exact hput.tape.trans htp
 · exact hput.output.trans hop
 · have:=hput.drawn;show w.drawn≤w2.drawn;omega
 · simp only[World.setCell,Array.getElem?_modify,hb2,Option.map_some]
   rfl
 · refine MC hq1 fun g o hg=>?_
   have hgb:g≠b:=by
    rintro rfl
    rcases hq2 g o hg with ⟨o',h⟩ | h
    · exact hB.ne o' h
    · omega
   simp only[World.setCell,Array.getElem?_modify]
   rw[if_neg (Ne.symm hgb)]
 · have hgb : g ≠ b := by
     rintro rfl
     rcases hq2 g o hg with ⟨o',h⟩ | h
     · exact hB.ne o' h
     · omega
   refine⟨hgb,(hq2 g o hg).imp id fun h=>by omega⟩
set_option maxHeartbeats 1000000 in
set_option maxRecDepth 100000 in
theorem acf (L:Lays.n169 P ρ) (X:Builder.Extra P ρ):VN P (ρ.f 169) [ρ.t 72] (ρ.t 5) .str:=by
 intro t ht w b q l C fr hB hLen
 have ht:t=ρ.t 72:=by simpa using ht
 subst ht
 have hC:=OD hB
 have c1:w.drew.cell? ⟨b,1,none⟩=some (C.getD 1 undef):=by
  have hb2:w.drew.heap[b]?=some (.cells #[C.getD 0 undef,C.getD 1 undef] (ρ.t 72) fr):=by rw[← hC];exact hB.hw
  rw[Lib.cell_of_heap hb2];rfl
 have mixed:=L.mixed
 have t72:=L.t72;have a72:=L.a72;have z72:=L.z72;have v72:=L.v72;have u72:=run_underlying L.t72
 have t70:=L.t70;have a70:=L.a70;have z70:=L.z70;have v70:=L.v70;have u70:=run_underlying L.t70
 have t37:=L.t37;have a37:=L.a37;have z37:=L.z37;have v37:=L.v37;have u37:=run_underlying L.t37
 have t127:=L.t127;have a127:=L.a127;have z127:=L.z127;have v127:=L.v127;have u127:=run_underlying L.t127
 have t3:=L.t3;have a3:=L.a3;have z3:=L.z3;have v3:=L.v3;have u3:=run_underlying L.t3
 have t9:=L.t9;have a9:=L.a9;have z9:=L.z9;have v9:=L.v9;have u9:=run_underlying L.t9
 have t5:=X.t5;have a5:=X.a5;have z5:=X.z5;have v5:=X.v5;have u5:=run_underlying X.t5
 have aae:EZ w b q w.drew:=⟨fun _ _ _ _=>rfl,Nat.le_refl _,rfl,rfl,rfl,Nat.le_succ _⟩
 have am1:=Any.unsafeString_none L X
 have hb1:=hB.h1
 have hbne:=hB.ne
 clear hB hC
 generalize C.getD 1 undef=v at c1 hb1
 rcases hb1 with ⟨rfl,h2,rfl⟩ | ⟨g,cap,D,fz,rfl,rfl,h4,h5,h6,h7,h8,h9⟩
 · have hl:l=[]:=by simpa [zJ] using h2
   subst hl
   have hSD:(Builtin.unsafeSliceData_ #[(ρ.t 37)] (ρ.t 127) #[.slice none 0 0]).run P w.drew=.ok (.pointer none) w.drew:=rfl
   go_enter L.f169,Body.n169_ntmps ρ
   go_wp2
   go_region_o
   all_goals (go_wp2;go_ret;exact⟨rfl,aae,rfl,fun g o h=>by cases h⟩)
 · have hlen:(zJ l).length=l.length:=by simp[zJ]
   rw[hlen]at c1 h4 h5
   have h0:l≠[]:=fun e=>by subst e;simp at h5
   have hSD:(Builtin.unsafeSliceData_ #[(ρ.t 37)] (ρ.t 127) #[.slice (some ⟨g,0,none⟩) l.length cap]).run P w.drew=.ok (.pointer (some ⟨g,0,none⟩)) w.drew :=
    Lib.run_unsafeSliceData_row _ _ _ _ _ _ (by omega)
   have hUS:(Builtin.unsafeString_ #[(ρ.t 127),(ρ.t 3)] (ρ.t 9) #[.pointer (some ⟨g,0,none⟩),.int .i64 l.length]).run P w.drew=.ok (.string ⟨l.toArray⟩) (w.drew.freeze ⟨g,0,none⟩ l.length):=by
    refine Lib.run_unsafeString_row w.drew (ρ.t 127) (ρ.t 3) (ρ.t 9) (ρ.t 5) L.t127 X.cellsByte g D.size (by have hg':w.drew.heap[g]?=some (.cells D (ρ.t 5) fz):=h6;simp[World.shape?,hg']) l h0 (by omega) (by omega) ?_
    intro j x hx
    have hj:j<l.length:=(List.getElem?_eq_some_iff.1 hx).1
    have hD:=h9 j (.int .u8 x.toNat) (by simp[zJ,hx])
    have hg':w.drew.heap[g]?=some (.cells D (ρ.t 5) fz):=h6
    have hjD:j<D.size:=by omega
    have e1:((⟨g,0,none⟩:Addr).add j)=⟨g,j,none⟩:=by simp[Addr.add];intro h;exact h.symm
    rw[e1]
    simp only[World.cell?,hg',Option.isSome_none,Bool.false_eq_true,if_false]
    rw[Array.getElem?_eq_getElem hjD]
    have:D.getD j undef=D[j]:=by simp[Array.getD,hjD]
    rw[← this,hD]
   have ae9:EZ w b (some (g,0)) (w.drew.freeze ⟨g,0,none⟩ l.length):=by
    have hf:∀ k,k≠g→(w.drew.freeze ⟨g,0,none⟩ l.length).heap[k]?=w.heap[k]?:=fun k hk=>by
     unfold World.freeze
     split
     · rfl
     · simp only[Array.getElem?_modify]
       rw[if_neg (Ne.symm hk)];rfl
    have hs:(w.drew.freeze ⟨g,0,none⟩ l.length).heap.size=w.heap.size:=by
     unfold World.freeze
     split
     · rfl
     · simp
    have hd:(w.drew.freeze ⟨g,0,none⟩ l.length).drawn=w.drawn+1:=by unfold World.freeze;split<;>rfl
    have ho:(w.drew.freeze ⟨g,0,none⟩ l.length).os=w.os:=by unfold World.freeze;split<;>rfl
    have ht:(w.drew.freeze ⟨g,0,none⟩ l.length).tape=w.tape:=by unfold World.freeze;split<;>rfl
    have hp:(w.drew.freeze ⟨g,0,none⟩ l.length).output=w.output:=by unfold World.freeze;split<;>rfl
    exact⟨fun k hk hkb hkq=>hf k fun e=>hkq 0 (by rw[e]),by rw[hs];exact Nat.le_refl _,ho,ht,hp,by rw[hd];exact Nat.le_succ _⟩
   have afa:(w.drew.freeze ⟨g,0,none⟩ l.length).heap[b]?=w.heap[b]?:=by
    have hbg:b≠g:=fun e=>hbne 0 (by rw[e])
    unfold World.freeze
    split
    · rfl
    · simp only[Array.getElem?_modify]
      rw[if_neg (Ne.symm hbg)];rfl
   have afb:∀ g' o,some (g,0)=some (g',o)→∃ C e fr fr',w.heap[g']?=some (.cells C e fr)∧(w.drew.freeze ⟨g,0,none⟩ l.length).heap[g']?=some (.cells C e fr')∧Past l.length fr':=by
    intro g' o h
    cases h
    have h8':Past l.length fz:=by simpa [zJ] using h8
    refine⟨D,ρ.t 5,fz,(if fz.1==fz.2 then(0,0+l.length) else(min fz.1 0,max fz.2 (0+l.length))),h6,?_,?_⟩
    · unfold World.freeze
      rw[if_neg (by omega)]
      simp only[Array.getElem?_modify]
      rw[show w.drew.heap[g]?=some (.cells D (ρ.t 5) fz) from h6]
      rfl
    · split
      · exact .inr (by simp)
      · next hne =>
        rcases h8' with h | h
        · exact absurd (by simpa using h) hne
        · exact .inr (by simp;omega)
   clear h9 h8 h7 h6 h5 h4
   go_enter L.f169,Body.n169_ntmps ρ
   go_wp2
   go_region_o
   all_goals (go_wp2;go_ret;exact⟨rfl,ae9,afa,afb⟩)
end Go.Skm
