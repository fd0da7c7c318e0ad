import Derived.Test.YtoheflpoanjihaaGreatSkmC
import Derived.LoopNIn
import Derived.Scope
import Derived.RangeFuncNested
import Derived.RangeFuncLeaves
namespace Go.Skm
section
variable {T:Tab} {C:aS} {hd:List (List Nat)} {all:List Oper}
def La (T:Tab) (C:aS) (hd:List (List Nat)) (all:List Oper):List (Nat × Oper)→St→St→Prop
 | [],st,fin=>Same st fin
 | (j,o)::r,st,fin=>∃ st1,step1 T C true (hd.getD j []) all o st=some st1∧La T C hd all r st1 fin
def num:Nat→List Oper→List (Nat × Oper)
 | _,[]=>[]
 | k,o::r=>(k,o)::num (k+1) r
theorem N8:∀ {l:List (Nat × Oper)} {s t fin:St},Same s t→La T C hd all l s fin→La T C hd all l t fin
 | [],s,t,fin,h,h1=>h.symm.trans h1
 | (j,o)::r,s,t,fin,h,h1=>by obtain⟨s1,h2,h3⟩:=h1;obtain⟨t1,h4,h5⟩:=Yu h h2;exact⟨t1,h4,N8 h5 h3⟩
theorem GK {α:Type} {k:St→Option α} {x:α}:∀ {l:List Oper} {j:Nat} {st:St},fP T C true hd all l j st k=some x→∃ fin,La T C hd all (num j l) st fin∧k fin=some x
 | [],j,st,h=>⟨st,Same.refl st,h⟩
 | o::r,j,st,h=>by
  rw[qN _ _ rfl]at h;cases h1:step1 T C true (hd.getD j []) all o st with
  | none=>rw[h1]at h;cases h
  | some st1 =>rw[h1]at h;obtain⟨fin,h2,h3⟩:=GK (l:=r) (j:=j+1) (st:=st1) h;exact⟨fin,⟨st1,h1,h2⟩,h3⟩
theorem front {i : Nat} {o : Oper} {R2 : List (Nat × Oper)} : ∀ {R1 : List (Nat × Oper)} {st fin : St},La T C hd all (R1 ++ (i,o)::R2) st fin →
    (∀ p∈R1,zM T all (hd.getD p.1 []) (hd.getD i []) p.2 o=true∧(∀ s∈iK all p.2,s∈hd.getD i [])∧(∀ s∈iK all o,s∈hd.getD p.1 [])) →
    ∃ st1,step1 T C true (hd.getD i []) all o st=some st1∧La T C hd all (R1++R2) st1 fin
  | [],st,fin,h,_=>h
  | (j,x)::R1,st,fin,h,hp=>by obtain⟨s1,h1,h2⟩:=h;obtain⟨s2,h3,h4⟩:=front (R1:=R1) h2 fun p hp'=>hp p (by simp[hp']);obtain⟨c1,c2,c3⟩:=hp (j,x) (by simp);obtain⟨t1,t2,h5,h6,h7⟩:=swap h1 h3 c1 c2 c3;exact⟨t1,h5,t2,h6,N8 h7.symm h4⟩
def tH (listed:Array Bool) (l:List (Nat × Oper)):List (Nat × Oper):=l.filter fun p=>!listed.getD p.1 true
theorem abm {listed:Array Bool} {i:Nat}:∀ {l:List Oper} {k:Nat},i<k→tH (listed.setIfInBounds i true) (num k l)=tH listed (num k l)
 | [],_,_=>rfl
 | o::r,k,h=>by have h1:=abm (listed:=listed) (l:=r) (k:=k+1) (i:=i) (by omega);unfold tH at h1 ⊢;simp only[num,List.filter_cons,h1,getD_set_ne true (show i≠k by omega)]
theorem AB {listed : Array Bool} {i : Nat} {o : Oper} (hi : listed.getD i true = false) : ∀ {l : List Oper} {k : Nat},k ≤ i → l[i - k]? = some o →
    ∃ R1 R2,tH listed (num k l)=R1++(i,o)::R2∧tH (listed.setIfInBounds i true) (num k l)=R1++R2∧∀ p∈R1,k≤p.1∧p.1<i∧l[p.1-k]?=some p.2∧listed.getD p.1 true=false
  | [],k,_,h=>by simp at h
  | x::r,k,hk,h=>by
   by_cases he:k=i
   · subst he;simp at h;subst h;refine⟨[],tH listed (num (k+1) r),?_,?_,by simp⟩
     · simp only[tH,num,List.filter_cons,hi];simp
     · have:=abm (listed:=listed) (l:=r) (k:=k+1) (i:=k) (by omega);have h2:(listed.setIfInBounds k true).getD k true=true:=by
        have hlt:k<listed.size:=by
         rcases Nat.lt_or_ge k listed.size with h' | h'
         · exact h'
         · simp[Array.getElem?_eq_none h']at hi
        simp[hlt]
       unfold tH at this ⊢;simp only[num,List.filter_cons,h2,this];simp
   · have h' : r[i - (k + 1)]? = some o := by
       have:i-k=(i-(k+1))+1:=by omega
       rw[this]at h;simpa using h
     obtain⟨R1,R2,g1,g2,g3⟩:=AB hi (l:=r) (k:=k+1) (by omega) h';have hne:(listed.setIfInBounds i true).getD k true=listed.getD k true:=getD_set_ne true (Ne.symm he);have up:∀ p∈R1,k≤p.1∧p.1<i∧(x::r)[p.1-k]?=some p.2∧listed.getD p.1 true=false:=fun p hp=>by
      obtain⟨q1,q2,q3,q4⟩:=g3 p hp;refine⟨by omega,q2,?_,q4⟩;have:p.1-k=(p.1-(k+1))+1:=by omega
      rw[this];simpa using q3
     cases hl:listed.getD k true with
     | true =>
      refine⟨R1,R2,?_,?_,up⟩
      · rw[← g1];simp only[tH,num,List.filter_cons,hl];simp
      · rw[← g2];simp only[tH,num,List.filter_cons,hne,hl];simp
     | false =>
      refine⟨(k,x)::R1,R2,?_,?_,fun p hp=>?_⟩
      · rw[List.cons_append,← g1];simp only[tH,num,List.filter_cons,hl];simp
      · rw[List.cons_append,← g2];simp only[tH,num,List.filter_cons,hne,hl];simp
      · rcases List.mem_cons.1 hp with rfl | hp
        · exact⟨Nat.le_refl _,by simp only;omega,by simp,hl⟩
        · exact up p hp
theorem JH {x:Nat}:∀ {l acc:List Nat},x∈CJ acc l↔x∈acc∨x∈l
 | [],acc=>by simp[CJ]
 | y::r,acc=>by
  simp only[CJ,JH (l:=r),List.mem_cons];cases h:jC y acc with
  | true =>
   have:=mW.1 h;simp only[cond_true];constructor
   · rintro (h | h)<;>simp[h]
   · rintro (h | rfl | h)<;>simp[*]
  | false =>
   simp only[cond_false,List.mem_cons];constructor
   · rintro ((h | h) | h)<;>simp[h]
   · rintro (h | h | h)<;>simp[h]
theorem UC {done : List (List Nat)} {x : Nat} : ∀ {l : List Edge} {acc : List Nat},x ∈ l.foldl (fun acc e => match e.ground with
    | .textOnly _=>acc
    | .gcOnly _=>acc
    | _=>CJ (CJ acc [e.on]) (done.getD e.on [])) acc→x∈acc∨∃ e∈l,Region.binds .any e=true∧(x=e.on∨x∈done.getD e.on [])
  | [],acc,h=>.inl h
  | e::r,acc,h=>by
   simp only[List.foldl_cons]at h;rcases UC h with h | ⟨e',h1,h2⟩
   · have hb : (∀ d,e.ground ≠ .textOnly d) → (∀ d,e.ground ≠ .gcOnly d) → Region.binds .any e = true := by intro g1 g2;unfold Region.binds;cases hg:e.ground<;>simp_all
     have sub:x∈CJ (CJ acc [e.on]) (done.getD e.on [])→x∈acc∨(x=e.on∨x∈done.getD e.on []):=by
      intro h;rw[JH,JH]at h;simp only[List.mem_singleton]at h;rcases h with (h | h) | h
      · exact .inl h
      · exact .inr (.inl h)
      · exact .inr (.inr h)
     cases hg:e.ground with
     | textOnly d=>rw[hg]at h;exact .inl h
     | gcOnly d=>rw[hg]at h;exact .inl h
     | _ =>
      rw[hg]at h;rcases sub h with h | h
      · exact .inl h
      · exact .inr ⟨e,by simp,hb (by simp[hg]) (by simp[hg]),h⟩
   · exact .inr ⟨e',by simp[h1],h2⟩
theorem Ja : ∀ {l : List Oper} {acc : List (List Nat)},(∀ n,n < acc.length → (dU l acc)[n]? = acc[n]?) ∧
    ∀ n o,l[n]?=some o→∃ done,(dU l acc)[acc.length+n]?=some (Ie done o)∧∀ m,done.getD m []=[]∨done.getD m []=(dU l acc).getD m []
  | [],acc=>⟨fun n _=>rfl,fun n o h=>by simp at h⟩
  | x::r,acc=>by
   obtain⟨h1,h2⟩:=Ja (l:=r) (acc:=acc++[Ie acc x]);have e:dU (x::r) acc=dU r (acc++[Ie acc x]):=rfl;rw[e];have pre:∀ n,n<acc.length→(dU r (acc++[Ie acc x]))[n]?=acc[n]?:=fun n hn=>by rw[h1 n (by simp;omega),List.getElem?_append_left hn]
   refine⟨pre,fun n o hn=>?_⟩;cases n with
   | zero =>
    simp at hn;subst hn;refine⟨acc,?_,fun m=>?_⟩
    · rw[Nat.add_zero,h1 acc.length (by simp)];simp
    · by_cases hm:m<acc.length
      · right;rw[qLb,qLb,pre m hm]
      · left;rw[qLb,List.getElem?_eq_none (by omega)];rfl
   | succ n =>simp at hn;obtain⟨done,h3,h4⟩:=h2 n o hn;refine⟨done,?_,h4⟩;rw[← h3];congr 1;simp only[List.length_append,List.length_singleton];omega
theorem Lc {i x:Nat} {o:Oper} (ho:all[i]?=some o) (hx:x∈(dU all []).getD i []):∃ e∈o.after,Region.binds .any e=true∧(x=e.on∨x∈(dU all []).getD e.on []):=by
 obtain⟨_,h⟩:=Ja (l:=all) (acc:=[]);obtain⟨done,h1,h2⟩:=h i o ho;simp only[List.length_nil,Nat.zero_add]at h1;rw[qLb,h1]at hx;simp only[Option.getD_some]at hx;unfold Ie at hx;rcases UC hx with h3 | ⟨e,h3,h4,h5⟩
 · simp at h3
 · refine⟨e,by simpa using h3,h4,h5.imp id fun h5=>?_⟩;rcases h2 e.on with h6 | h6
   · rw[h6]at h5;simp at h5
   · rw[h6]at h5;exact h5
theorem uw {tab:List (List Nat)}:∀ {l:List Oper} {k:Nat},CO T all tab hd k l=true→∀ n o,l[n]?=some o→Ig (k+n) o=true∧QF T all hd (tab.getD (k+n) []) (k+n) o 0 all=true
 | [],k,_,n,o,h=>by simp at h
 | x::r,k,h,n,o,ho=>by
  simp only[CO,qBa]at h;cases n with
  | zero=>simp at ho;subst ho;exact⟨h.1.1,h.1.2⟩
  | succ n =>simp at ho;have:=uw h.2 n o ho;rw[show k+1+n=k+(n+1) from by omega]at this;exact this
theorem RP {XZ:List Nat} {j:Nat} {o:Oper}:∀ {l:List Oper} {k:Nat},QF T all hd XZ j o k l=true→∀ n x,l[n]?=some x→k+n<j→k+n ∉ XZ→zM T all (hd.getD (k+n) []) (hd.getD j []) x o=true
 | [],k,_,n,x,h=>by simp at h
 | y::r,k,h,n,x,hx=>by
  intro hlt hp;have hkj:Nat.ble j k=false:=by
   cases hb:Nat.ble j k with
   | false=>rfl
   | true=>have:=Nat.le_of_ble_eq_true hb;omega
  simp only[QF,hkj,cond_false,qBa]at h;cases n with
  | zero =>simp at hx;subst hx;have h1:=h.1;rw[gG.2 (by simpa using hp)]at h1;simpa using h1
  | succ n =>
   simp at hx;have e:k+(n+1)=k+1+n:=by omega
   rw[e]at hlt hp ⊢;exact RP h.2 n x hx hlt hp
theorem Ld {j:Nat} {o:Oper} (h:Ig j o=true) {e:Edge} (he:e∈o.after) (hb:Region.binds .any e=true):e.on<j:=by
 unfold Ig at h;have:=List.all_eq_true.1 h e (by simpa using he);unfold Region.binds at hb;split at this
 · rename_i hg;rw[hg]at hb;simp at hb
 · rename_i hg;rw[hg]at hb;simp at hb
 · exact Nat.le_of_ble_eq_true this
theorem CY {all:List Oper} {tab:List (List Nat)} {j s:Nat} {x:Oper}:∀ {l:List Oper} {k n:Nat},l[n]?=some x→k+n≠j→k+n ∉ tab.getD j []→j ∉ tab.getD (k+n) []→s∈iK all x→s∈zN T all tab j k l
 | [],k,n,h=>by simp at h
 | y::r,k,n,h=>by
  intro h1 h2 h3 h4;simp only[zN];cases n with
  | zero =>
   simp at h;subst h;have:(k==j||jC k (tab.getD j [])||jC j (tab.getD k []))=false:=by
    have e1:(k==j)=false:=by simpa using h1
    rw[e1,gG.2 (by simpa using h2),gG.2 (by simpa using h3)];rfl
   rw[this];simp[h4]
  | succ n =>
   simp at h;have e:k+(n+1)=k+1+n:=by omega
   rw[e]at h1 h2 h3;have:=CY (k:=k+1) h h1 h2 h3 h4;cases (k==j||jC k (tab.getD j [])||jC j (tab.getD k []))<;>simp[this]
theorem N9:∀ {a b:List (List Nat)},qJ a b=true→a=b
 | [],[],_=>rfl
 | x::xs,y::ys,h=>by simp only[qJ,qBa,beq_iff_eq]at h;rw[h.1,N9 h.2]
 | [],_::_,h=>by simp[qJ]at h
 | _::_,[],h=>by simp[qJ]at h
section
variable (hok:CO T all (dU all []) hd 0 all=true)
include hok
theorem pred_lt:∀ {i x:Nat} {o:Oper},all[i]?=some o→x∈(dU all []).getD i []→x<i:=by
 intro i;induction i using Nat.strongRecOn with
 | _ i ih =>
  intro x o ho hx;obtain⟨e,h1,h2,h3⟩:=Lc ho hx;have hb:=(uw hok i o ho).1;rw[Nat.zero_add]at hb;have hlt:=Ld hb h1 h2;rcases h3 with rfl | h3
  · exact hlt
  · have hl : e.on < all.length := by have:=(qLa.1 ho).1;omega
    have:=ih e.on hlt (x:=x) (o:=all[e.on]) (by simp) h3;omega
theorem open_pair (hhd : qJ hd (EJ T all) = true) {i j : Nat} {o x : Oper} (hi : all[i]? = some o) (hj : all[j]? = some x) (hlt : j < i) (hp : j ∉ (dU all []).getD i []) :
    zM T all (hd.getD j []) (hd.getD i []) x o=true∧(∀ s∈iK all x,s∈hd.getD i [])∧(∀ s∈iK all o,s∈hd.getD j []):=by
  have hh:=N9 hhd;have hget:∀ n,n<all.length→hd.getD n []=zN T all (dU all []) n 0 all:=by intro n hn;rw[hh];simp[EJ,hn]
  have hil:=(qLa.1 hi).1;have hjl:=(qLa.1 hj).1;have hij:i ∉ (dU all []).getD j []:=fun h=>by have:=pred_lt hok hj h;omega
  refine⟨?_,fun s hs=>?_,fun s hs=>?_⟩
  · have:=RP (uw hok i o hi).2 j x hj (by omega) (by simpa using hp);simpa using this
  · rw[hget i hil];exact CY (k:=0) (n:=j) hj (by omega) (by simpa using hp) (by simpa using hij) hs
  · rw[hget j hjl];exact CY (k:=0) (n:=i) hi (by omega) (by simpa using hij) (by simpa using hp) hs
end
end
end Go.Skm
namespace Go.Skm
section
variable {P:Program} {T:Tab} {C:aS} {cx:Cx} {st st':St} {a:Act} {w:World}
theorem Inv.same (i:Inv cx st a w) (h:Same st st'):Inv cx st' a w:=by
 obtain⟨M,β,L,ds,r,i1,i2,i3,fx⟩:=i;have r':=r.congr (hp:=st'.heap) fun s=>by rw[h.2]
 have e:({ st with heap:=st'.heap }:St)=st':=by cases st;cases st';simp only[St.mk.injEq,and_true];exact h.1
 rw[e]at r';refine⟨M,β,L,ds,r',i1,fun s hs b hb=>i2 s hs b ?_,i3,fx.less (fun p hp=>rfl) fun b ho=>?_⟩
 · rw[h.2];exact hb
 · obtain⟨s,o,hs,hb⟩:=ho;exact⟨s,o,by rw[h.2];exact hs,hb⟩
theorem Inv.drew (i:Inv cx st a w):Inv cx st a { w with drawn:=w.drawn+1 }:=by obtain⟨M,β,L,ds,r,i1,i2,i3,fx⟩:=i;exact⟨M,β,L,ds,r.world (w':={ w with drawn:=w.drawn+1 }) (Nat.le_refl _) rfl rfl rfl (fun _ _ _=>rfl) (fun b n _ _ _ h=>h) (fun b h=>h) (fun b h=>.inl h),i1,i2,i3.trans fun _=>Nat.le_succ _,fx.less (fun p hp=>rfl) fun _ h=>h⟩
theorem Le {β:Nat→Option (Nat × Nat)} {ss:List Nat} {b:Nat} (h:mQ β (st.strike ss).heap b):mQ β st.heap b:=by
 obtain⟨s,o,hs,hb⟩:=h;refine⟨s,o,?_,hb⟩;rw[fQ]at hs;by_cases hm:s∈ss
 · rw[if_pos hm]at hs;cases hs
 · rw[if_neg hm]at hs;simpa using hs
theorem Inv.strike (i:Inv cx st a w) (ss:List Nat):Inv cx (st.strike ss) a w:=by obtain⟨M,β,L,ds,r,i1,i2,i3,fx⟩:=i;exact⟨M,β,L,ds,r.strike ss (fun b h=>h) fun b h=>.inl h,i1,i2.trans (BG st ss),i3,fx.less (fun p hp=>rfl) fun _ ho=>Le ho⟩
theorem abn (ok : dZ P T) (hC : jl P T cx.w0.gl C) {ops : Array Oper} {hd : List (List Nat)} (hok : CO T ops.toList (dU ops.toList []) hd 0 ops.toList = true) (hhd : qJ hd (EJ T ops.toList) = true)
    {Q:Exit→Act→World→Prop} {fin:St} (hQ:∀ a w,Inv cx fin a w→Q .normal a w) (hw:∀ o∈ops.toList,BI cx o) {rd:Option Nat} {n:Nat} :
    ∀ (fuel:Nat) (listed:Array Bool) (st:St) (a:Act) (w:World),fuel=(tH listed (num 0 ops.toList)).length →
     (∀ q,listed.getD q false=true→∀ p∈(dU ops.toList []).getD q [],listed.getD p false=true)→listed.size=ops.size →
     La T C hd ops.toList (tH listed (num 0 ops.toList)) st fin→Inv cx st a w→wpAnyIn (FW rd) n P .any ops Q fuel listed a w:=by
  intro fuel;induction fuel with
  | zero =>intro listed st a w hf hcl hsz hr i;have h0:tH listed (num 0 ops.toList)=[]:=List.length_eq_zero_iff.1 hf.symm;rw[h0]at hr;refine⟨?_,hQ a w (i.same hr)⟩;rw[List.eq_nil_iff_forall_not_mem];intro j hj;obtain⟨h1,o,h2,_⟩:=mem_ready.1 hj;obtain⟨R1,R2,g1,_⟩:=AB h1 (l:=ops.toList) (k:=0) (o:=o) (by omega) (by simpa using h2);rw[h0]at g1;simp at g1
  | succ fuel ih =>
   intro listed st a w hf hcl hsz hr i;refine⟨fun hnil=>?_,fun j hj=>?_⟩
   · -- the first that is not listed is ready
     exfalso;cases hL:tH listed (num 0 ops.toList) with
     | nil=>rw[hL]at hf;simp at hf
     | cons p r =>
      have hex:∃ n,n<ops.size∧listed.getD n true=false:=by
       have hp:p∈tH listed (num 0 ops.toList):=by rw[hL];simp
       unfold tH at hp;rw[List.mem_filter]at hp;have h1:listed.getD p.1 true=false:=by simpa using hp.2
       refine⟨p.1,?_,h1⟩;rcases Nat.lt_or_ge p.1 listed.size with h' | h'
       · omega
       · simp[Array.getElem?_eq_none h']at h1
      have hmin:∃ n,(n<ops.size∧listed.getD n true=false)∧∀ m,m<n→¬ (m<ops.size∧listed.getD m true=false):=by
       obtain⟨n,hn⟩:=hex;induction n using Nat.strongRecOn with
       | _ n ihn =>
        by_cases hm:∃ m,m<n∧(m<ops.size∧listed.getD m true=false)
        · obtain⟨m,h1,h2⟩:=hm;exact ihn m h1 h2
        · exact⟨n,hn,fun m h1 h2=>hm ⟨m,h1,h2⟩⟩
      obtain⟨n,⟨h1,h2⟩,h3⟩:=hmin;have:n∈Region.ready .any ops listed:=by
       rw[mem_ready];refine⟨h2,ops[n],by simp,fun e he hb=>?_⟩;have hlt:=Ld (uw hok n ops[n] (by simp)).1 he hb;rw[Nat.zero_add]at hlt;have:=h3 e.on hlt;have hl:e.on<ops.size:=by omega
       have hl':e.on<listed.size:=by omega
       cases hb':listed.getD e.on true with
       | false=>exact absurd ⟨hl,hb'⟩ this
       | true=>simpa [hl'] using hb'
      rw[hnil]at this;simp at this
   · obtain⟨h1,o,h2,h3⟩:=mem_ready.1 hj;have h2':ops.toList[j]?=some o:=by simpa using h2
     obtain⟨R1,R2,g1,g2,g3⟩:=AB h1 (l:=ops.toList) (k:=0) (o:=o) (by omega) (by simpa using h2);have hpre:∀ p∈(dU ops.toList []).getD j [],listed.getD p false=true:=by
      intro p hp;obtain⟨e,q1,q2,q3⟩:=Lc h2' hp;rcases q3 with rfl | q3
      · exact h3 e q1 q2
      · exact hcl e.on (h3 e q1 q2) p q3
     rw[g1]at hr hf;obtain⟨st1,k1,k2⟩:=front hr fun p hp=>by
      obtain⟨q1,q2,q3,q4⟩:=g3 p hp;refine open_pair hok hhd h2' (by simpa using q3) q2 fun hm=>?_;have:=hpre p.1 hm;have hl:p.1<listed.size:=by have:=(qLa.1 q3).1;simp at this;omega
      simp[hl]at q4 this;rw[q4]at this;cases this
     have hs:=agb ok hC rfl (hw o (qLe h2')) i k1 (rd:=rd) (n:=n) (K:=wpAnyIn (FW rd) n P .any ops Q fuel (listed.setIfInBounds j true)) (fun a' w' i'=>ih (listed.setIfInBounds j true) st1 a' w' (by
      rw[g2];simp only[List.length_append,List.length_cons]at hf ⊢;omega) (fun q hq p hp=>by
      by_cases hjq:j=q
      · subst hjq;exact getD_set_true (hpre p hp)
      · rw[getD_set_ne false hjq]at hq;exact getD_set_true (hcl q hq p hp)) (by simpa using hsz) (by rw[g2];exact k2) i') (Q:=Q)
     unfold wpOpIn;rw[h2];simp only;split
     · rename_i hw;rw[if_pos hw]at hs;exact hs
     · rename_i hw;rw[if_neg hw]at hs;exact⟨fun _ _=>trivial,hs⟩
theorem Lh {l:List Nat}:∀ {n m:Nat},KR l n=true→m<n→m∈l
 | 0,m,_,h=>by omega
 | n+1,m,ha,h=>by
  simp only[KR,qBa]at ha;by_cases e:m=n
  · subst e;exact mW.1 ha.1
  · exact Lh ha.2 (by omega)
theorem Na {tab:List (List Nat)} {j:Nat}:∀ {l:List Oper} {k n:Nat} {o:Oper},pI tab j k l=true→l[n]?=some o→j≤k+n→∀ m,m<k+n→m∈tab.getD (k+n) []
 | [],k,n,o,_,h=>by simp at h
 | x::r,k,0,o,hc,h=>by
  intro hj m hm;simp only[pI,qBa,Bool.or_eq_true]at hc;rcases hc.1 with h1 | h1
  · have:k<j:=by simpa [Nat.blt_eq] using h1
    omega
  · exact Lh h1 hm
 | x::r,k,n+1,o,hc,h=>by intro hj m hm;simp only[pI,qBa]at hc;simp at h;have:=Na (n:=n) hc.2 h (by omega) m (by omega);rw[show k+1+n=k+(n+1) from by omega]at this;exact this
theorem Z8 {ops : Array Oper} {hd : List (List Nat)} (hok : CO T ops.toList (dU ops.toList []) hd 0 ops.toList = true) {j : Nat} (hch : pI (dU ops.toList []) j 0 ops.toList = true) {F : Fence} {n : Nat} {Q : Exit → Act → World → Prop} :
    ∀ (l:List Oper) (i:Nat) (listed:Array Bool) (a:Act) (w:World),j≤i→ops.toList.drop i=l→listed.size=ops.size→(∀ q,q<ops.size→listed.getD q false=decide (q<i))→wpListIn F n P ops Q l a w→wpAnyIn F n P .any ops Q l.length listed a w:=by
  have gd:∀ (listed:Array Bool) (q:Nat),q<listed.size→listed.getD q true=listed.getD q false:=fun listed q h=>by simp[h]
  intro l;induction l with
  | nil =>intro i listed a w hji hdr hsz hls h;refine⟨?_,h⟩;rw[List.eq_nil_iff_forall_not_mem];intro q hq;obtain⟨h1,o,h2,_⟩:=mem_ready.1 hq;have hlt:q<ops.size:=(qAa.1 h2).1;rw[gd listed q (by omega),hls q hlt]at h1;have:ops.toList.length≤i:=List.drop_eq_nil_iff.1 hdr;simp at this h1;omega
  | cons o r ih =>
   intro i listed a w hji hdr hsz hls h;have hi:ops.toList[i]?=some o:=by
    have:(ops.toList.drop i)[0]?=some o:=by rw[hdr];rfl
    simpa using this
   have hr:ops.toList.drop (i+1)=r:=by rw[← List.drop_drop,hdr];rfl
   have hi':ops[i]?=some o:=by simpa using hi
   have hil:i<ops.size:=(qAa.1 hi').1;have hrd:i∈Region.ready .any ops listed:=by rw[mem_ready];refine⟨by rw[gd listed i (by omega),hls i hil];simp,o,hi',fun e he hb=>?_⟩;have hlt:=Ld (uw hok i o hi).1 he hb;rw[Nat.zero_add]at hlt;rw[hls e.on (by omega)];simpa using hlt
   refine⟨fun h0=>by rw[h0]at hrd;simp at hrd,fun q hq=>?_⟩;obtain⟨h1,oq,h2,h3⟩:=mem_ready.1 hq;have hql:q<ops.size:=(qAa.1 h2).1;have hqi:i≤q:=by rw[gd listed q (by omega),hls q hql]at h1;simpa using h1
   have hqe:q=i:=by
    by_cases e:q=i
    · exact e
    · exfalso;have hm:i∈(dU ops.toList []).getD q []:=by have:=Na (k:=0) (n:=q) (o:=oq) hch (by simpa using h2) (by omega) i (by omega);simpa using this
      obtain⟨e',q1,q2,q3⟩:=Lc (by simpa using h2) hm;have he:=h3 e' q1 q2;have hel:=Ld (uw hok q oq (by simpa using h2)).1 q1 q2;rw[Nat.zero_add]at hel;rw[hls e'.on (by omega)]at he;have he:e'.on<i:=by simpa using he
      rcases q3 with q3 | q3
      · omega
      · have:=pred_lt hok (i:=e'.on) (x:=i) (o:=ops.toList[e'.on]'(by simp;omega)) (by simp) q3;omega
   subst hqe;rw[hi']at h2;cases h2;unfold wpListIn at h;unfold wpOpIn;rw[hi'];simp only;have aoy:∀ k,k<ops.size→(listed.setIfInBounds q true).getD k false=decide (k<q+1):=fun k hk=>by
    by_cases e:q=k
    · subst e;have:q<listed.size:=by omega
      simp[this]
    · rw[getD_set_ne false e,hls k hk];by_cases h':k<q
      · simp[h',show k<q+1 by omega]
      · simp[h',show ¬ k<q+1 by omega]
   have next:∀ a w,wpListIn F n P ops Q r a w→wpAnyIn F n P .any ops Q r.length (listed.setIfInBounds q true) a w:=fun a w h=>ih (q+1) (listed.setIfInBounds q true) a w (by omega) hr (by simpa using hsz) aoy h
   split
   · rename_i hw;rw[if_pos hw]at h;exact Oper.wpIn_mono next h
   · rename_i hw;rw[if_neg hw]at h;exact⟨h.1,next _ _ h.2⟩
theorem UD {p:Nat × Oper}:∀ {l:List Oper} {k:Nat},p∈num k l→k≤p.1∧p.1<k+l.length
 | [],k,h=>by simp[num]at h
 | o::r,k,h=>by
  simp only[num,List.mem_cons]at h;rcases h with rfl | h
  · simp
  · have:=UD h;simp only[List.length_cons];omega
theorem aeN (ok : dZ P T) (hC : jl P T cx.w0.gl C) {ops : Array Oper} {hd : List (List Nat)} (hok : CO T ops.toList (dU ops.toList []) hd 0 ops.toList = true) (hhd : qJ hd (EJ T ops.toList) = true)
    {jc:Nat} (hjc:jc≤ops.size) (hch:pI (dU ops.toList []) jc 0 ops.toList=true) {rd:Option Nat} {n:Nat}
    {Q:Exit→Act→World→Prop} {fin:St} (hQ:∀ a w,Inv cx fin a w→wpListIn (FW rd) n P ops Q (ops.toList.drop jc) a w) (hw:∀ o∈ops.toList,BI cx o) :
    ∀ (fuel:Nat) (listed:Array Bool) (st:St) (a:Act) (w:World),fuel=(tH listed (num 0 (ops.toList.take jc))).length→(∀ q,jc≤q→q<ops.size→listed.getD q false=false) →
     (∀ q,listed.getD q false=true→∀ p∈(dU ops.toList []).getD q [],listed.getD p false=true)→listed.size=ops.size →
     La T C hd ops.toList (tH listed (num 0 (ops.toList.take jc))) st fin→Inv cx st a w→wpAnyIn (FW rd) n P .any ops Q (fuel+(ops.size-jc)) listed a w:=by
  intro fuel;induction fuel with
  | zero =>
   intro listed st a w hf hun hcl hsz hr i;have h0:tH listed (num 0 (ops.toList.take jc))=[]:=List.length_eq_zero_iff.1 hf.symm;rw[h0]at hr;have hls:∀ q,q<ops.size→listed.getD q false=decide (q<jc):=fun q hq=>by
    by_cases e:q<jc
    · have hlt:q<listed.size:=by omega
      cases hb:listed.getD q false with
      | true=>simp[e]
      | false =>
       exfalso;have h1:listed.getD q true=false:=by simpa [hlt] using hb
       obtain⟨R1,R2,g1,_⟩:=AB h1 (l:=ops.toList.take jc) (k:=0) (o:=ops.toList[q]'(by simpa using hq)) (by omega) (by rw[Nat.sub_zero,List.getElem?_take_of_lt e];simp);rw[h0]at g1;simp at g1
    · rw[hun q (by omega) hq];simp[e]
   have hlen:(ops.toList.drop jc).length=ops.size-jc:=by simp
   rw[Nat.zero_add,← hlen];exact Z8 hok hch (ops.toList.drop jc) jc listed a w (Nat.le_refl _) rfl hsz hls (hQ a w (i.same hr))
  | succ fuel ih =>
   intro listed st a w hf hun hcl hsz hr i;rw[show fuel+1+(ops.size-jc)=(fuel+(ops.size-jc))+1 from by omega];refine⟨fun hnil=>?_,fun j hj=>?_⟩
   · -- the first that is not listed is ready
     exfalso;cases hL:tH listed (num 0 (ops.toList.take jc)) with
     | nil=>rw[hL]at hf;simp at hf
     | cons p r =>
      have hex:∃ n,n<ops.size∧listed.getD n true=false:=by
       have hp:p∈tH listed (num 0 (ops.toList.take jc)):=by rw[hL];simp
       unfold tH at hp;rw[List.mem_filter]at hp;have h1:listed.getD p.1 true=false:=by simpa using hp.2
       refine⟨p.1,?_,h1⟩;rcases Nat.lt_or_ge p.1 listed.size with h' | h'
       · omega
       · simp[Array.getElem?_eq_none h']at h1
      have hmin:∃ n,(n<ops.size∧listed.getD n true=false)∧∀ m,m<n→¬ (m<ops.size∧listed.getD m true=false):=by
       obtain⟨n,hn⟩:=hex;induction n using Nat.strongRecOn with
       | _ n ihn =>
        by_cases hm:∃ m,m<n∧(m<ops.size∧listed.getD m true=false)
        · obtain⟨m,h1,h2⟩:=hm;exact ihn m h1 h2
        · exact⟨n,hn,fun m h1 h2=>hm ⟨m,h1,h2⟩⟩
      obtain⟨n,⟨h1,h2⟩,h3⟩:=hmin;have:n∈Region.ready .any ops listed:=by
       rw[mem_ready];refine⟨h2,ops[n],by simp,fun e he hb=>?_⟩;have hlt:=Ld (uw hok n ops[n] (by simp)).1 he hb;rw[Nat.zero_add]at hlt;have:=h3 e.on hlt;have hl:e.on<ops.size:=by omega
       have hl':e.on<listed.size:=by omega
       cases hb':listed.getD e.on true with
       | false=>exact absurd ⟨hl,hb'⟩ this
       | true=>simpa [hl'] using hb'
      rw[hnil]at this;simp at this
   · obtain⟨h1,o,h2,h3⟩:=mem_ready.1 hj;have h2':ops.toList[j]?=some o:=by simpa using h2
     have hjl:j<ops.size:=(qAa.1 h2).1;have hpre0:∀ p∈(dU ops.toList []).getD j [],listed.getD p false=true:=by
      intro p hp;obtain⟨e,q1,q2,q3⟩:=Lc h2' hp;rcases q3 with rfl | q3
      · exact h3 e q1 q2
      · exact hcl e.on (h3 e q1 q2) p q3
     have hjj:j<jc:=by
      by_cases e:j<jc
      · exact e
      · exfalso;have hp0:∃ p,p∈tH listed (num 0 (ops.toList.take jc)):=by
         cases hL:tH listed (num 0 (ops.toList.take jc)) with
         | nil=>rw[hL]at hf;simp at hf
         | cons p r=>exact⟨p,by simp⟩
        obtain⟨p,hp⟩:=hp0;unfold tH at hp;rw[List.mem_filter]at hp;have hb:=UD hp.1;have hpl:p.1<jc:=by have:=hb.2;simp at this;omega
        have h1:listed.getD p.1 true=false:=by simpa using hp.2
        have hm:p.1∈(dU ops.toList []).getD j []:=by have:=Na (k:=0) (n:=j) (o:=o) hch h2' (by omega) p.1 (by omega);simpa using this
        have:=hpre0 p.1 hm;have hps:p.1<listed.size:=by omega
        simp[hps]at h1 this;rw[h1]at this;cases this
     obtain⟨R1,R2,g1,g2,g3⟩:=AB h1 (l:=ops.toList.take jc) (k:=0) (o:=o) (by omega) (by rw[Nat.sub_zero,List.getElem?_take_of_lt hjj];exact h2');have hpre:∀ p∈(dU ops.toList []).getD j [],listed.getD p false=true:=by
      intro p hp;obtain⟨e,q1,q2,q3⟩:=Lc h2' hp;rcases q3 with rfl | q3
      · exact h3 e q1 q2
      · exact hcl e.on (h3 e q1 q2) p q3
     rw[g1]at hr hf;obtain⟨st1,k1,k2⟩:=front hr fun p hp=>by
      obtain⟨q1,q2,q3,q4⟩:=g3 p hp;have q3':ops.toList[p.1]?=some p.2:=by
       have:p.1<jc:=by omega
       rw[Nat.sub_zero,List.getElem?_take_of_lt this]at q3;exact q3
      refine open_pair hok hhd h2' q3' q2 fun hm=>?_;have:=hpre p.1 hm;have hl:p.1<listed.size:=by have:=(qLa.1 q3').1;simp at this;omega
      simp[hl]at q4 this;rw[q4]at this;cases this
     have hs:=agb ok hC rfl (hw o (qLe h2')) i k1 (rd:=rd) (n:=n) (K:=wpAnyIn (FW rd) n P .any ops Q (fuel+(ops.size-jc)) (listed.setIfInBounds j true)) (fun a' w' i'=>ih (listed.setIfInBounds j true) st1 a' w' (by
      rw[g2];simp only[List.length_append,List.length_cons]at hf ⊢;omega) (fun q hq1 hq2=>by
      rw[getD_set_ne false (show j≠q by omega)];exact hun q hq1 hq2) (fun q hq p hp=>by
      by_cases hjq:j=q
      · subst hjq;exact getD_set_true (hpre p hp)
      · rw[getD_set_ne false hjq]at hq;exact getD_set_true (hcl q hq p hp)) (by simpa using hsz) (by rw[g2];exact k2) i') (Q:=Q)
     unfold wpOpIn;rw[h2];simp only;split
     · rename_i hw;rw[if_pos hw]at hs;exact hs
     · rename_i hw;rw[if_neg hw]at hs;exact⟨fun _ _=>trivial,hs⟩
theorem EO:∀ (l:List Oper) (k:Nat),(num k l).length=l.length
 | [],_=>rfl
 | o::r,k=>by simp[num,EO r]
theorem Iz {n:Nat}:∀ {l:List Oper} {k:Nat},k+l.length≤n→tH (Array.replicate n false) (num k l)=num k l
 | [],_,_=>rfl
 | o::r,k,h=>by
  simp only[List.length_cons]at h;have:=Iz (n:=n) (l:=r) (k:=k+1) (by omega);unfold tH at this ⊢;have hk:(Array.replicate n false).getD k true=false:=by
   have:k<n:=by omega
   simp[this]
  simp only[num,List.filter_cons,hk,this];simp
theorem Yz (ok : dZ P T) (hC : jl P T cx.w0.gl C) {α : Type} {id : Nat} {ops : Array Oper} {hd : List (List Nat)} (hok : CO T ops.toList (dU ops.toList []) hd 0 ops.toList = true) (hhd : qJ hd (EJ T ops.toList) = true)
    {rd:Option Nat} {n:Nat} {Q:Exit→Act→World→Prop} {k:St→Option α} {x:α} (hr:fP T C true hd ops.toList ops.toList 0 st k=some x) (hw:∀ o∈ops.toList,BI cx o) (i:Inv cx st a w)
    (hQ:∀ st' a' w',k st'=some x→Inv cx st' a' w'→Q .normal a' w'):(Code.region id ops true).wpIn (FW rd) n P Q a w:=by
  obtain⟨fin,h1,h2⟩:=GK hr;have e:tH (Array.replicate ops.size false) (num 0 ops.toList)=num 0 ops.toList:=Iz (by simp);refine wpIn_region_any ok.mixed (abn ok hC hok hhd (fun a w i=>hQ fin a w h2 i) hw ops.size (Array.replicate ops.size false) st a _ ?_ ?_ (by simp) (by rw[e];exact h1) i.drew)
  · rw[e,EO];simp
  · intro q hq;by_cases hl:q<ops.size<;>simp[hl]at hq
theorem abo (ok : dZ P T) (hC : jl P T cx.w0.gl C) {α : Type} {id : Nat} {ops : Array Oper} {hd : List (List Nat)} (hok : CO T ops.toList (dU ops.toList []) hd 0 ops.toList = true) (hhd : qJ hd (EJ T ops.toList) = true)
    {jc:Nat} (hch:pI (dU ops.toList []) jc 0 ops.toList=true) {rd:Option Nat} {n:Nat} {Q:Exit→Act→World→Prop} {k:St→Option α} {x:α} (hr:fP T C true hd ops.toList (ops.toList.take jc) 0 st k=some x) (hw:∀ o∈ops.toList,BI cx o) (i:Inv cx st a w)
    (hQ:∀ st' a' w',k st'=some x→Inv cx st' a' w'→(∃ l,La T C hd ops.toList l st st')→wpListIn (FW rd) n P ops Q (ops.toList.drop jc) a' w'):(Code.region id ops true).wpIn (FW rd) n P Q a w:=by
  obtain⟨fin,h1,h2⟩:=GK hr;by_cases hjc:jc≤ops.size
  · have e:tH (Array.replicate ops.size false) (num 0 (ops.toList.take jc))=num 0 (ops.toList.take jc):=Iz (by simp;omega);have hlen:(num 0 (ops.toList.take jc)).length=jc:=by rw[EO];simp;omega
    have main:=aeN ok hC hok hhd hjc hch (rd:=rd) (n:=n) (Q:=Q) (fun a w i=>hQ fin a w h2 i ⟨_,h1⟩) hw jc (Array.replicate ops.size false) st a { w with drawn:=w.drawn+1 } (by rw[e,hlen]) (fun q _ hq=>by simp[hq]) (by intro q hq;by_cases hl:q<ops.size<;>simp[hl]at hq) (by simp) (by rw[e];exact h1) i.drew;rw[show jc+(ops.size-jc)=ops.size from by omega]at main;exact wpIn_region_any ok.mixed main
  · have et:ops.toList.take jc=ops.toList:=List.take_of_length_le (by simp;omega);have ed:ops.toList.drop jc=[]:=List.drop_eq_nil_iff.2 (by simp;omega);have e:tH (Array.replicate ops.size false) (num 0 ops.toList)=num 0 ops.toList:=Iz (by simp);rw[et]at h1;refine wpIn_region_any ok.mixed (abn ok hC hok hhd (fun a w i=>by have:=hQ fin a w h2 i ⟨_,h1⟩;rw[ed]at this;exact this) hw ops.size (Array.replicate ops.size false) st a _ ?_ ?_ (by simp) (by rw[e];exact h1) i.drew)
    · rw[e,EO];simp
    · intro q hq;by_cases hl:q<ops.size<;>simp[hl]at hq
theorem RQ {ys:List Nat} {ops:List Oper} {j:Nat} (h:ZH ys ops=some j):pI (dU ops []) j 0 ops=true:=by
 unfold ZH at h;split at h
 · cases h
 · split at h
   · rename_i j' _;cases hc:pI (dU ops []) j' 0 ops with
     | false=>rw[hc]at h;cases h
     | true=>rw[hc]at h;cases h;exact hc
   · cases h
theorem YA (ok : dZ P T) (hC : jl P T cx.w0.gl C) {α : Type} {id : Nat} {ops : Array Oper} {hd : List (List Nat)} (hn : Ai cx.hp0) {rd : Option Nat} {n : Nat} {Q : Exit → Act → World → Prop} {k : St → Option α} {x : α} (hr : fP T C false hd ops.toList ops.toList 0 st k = some x)
    (hw:∀ o∈ops.toList,BI cx o) (i:Inv cx st a w)
    (hQ:∀ st' a' w',k st'=some x→Inv cx st' a' w'→Q .normal a' w'):(Code.region id ops false).wpIn (FW rd) n P Q a w :=
  wpIn_region_list (RG ok hC hn hQ ops.toList 0 st a w hw hr i)
end
end Go.Skm
namespace Go.Skm
theorem yE (s d:Nat):∀ (l:List AV) (i:Nat),(AV.IV s d l)[i]?=(l[i]?).map (AV.ren s d)
 | [],i=>by simp[AV.IV]
 | v::r,0=>by simp[AV.IV]
 | v::r,i+1=>by simp[AV.IV,yE s d r i]
theorem mZ (s d:Nat):∀ (l:List AV),(AV.IV s d l).length=l.length
 | []=>rfl
 | v::r=>by simp[AV.IV,mZ s d r]
theorem YB (s d:Nat) (v:AV):(AV.ren s d v).leaf=v.leaf:=by cases v<;>simp[AV.ren,AV.leaf]
theorem OZ {s d x:Nat} (h:x≠s):DL s d x=x:=by
 have:(x==s)=false:=by simpa using h
 simp[DL,this]
theorem vM {s d:Nat} (hne:s≠d) (x:Nat):∀ {hp:Heap},look hp d=none→look (tK s d hp) x=if x=d then(look hp s).map (cu.ren s d) else if x=s then none else(look hp x).map (cu.ren s d)
 | [],_=>by simp[tK,look]
 | (k,b)::r,h=>by
  have hk:k≠d:=by rintro rfl;simp[look]at h
  have hk':(k==d)=false:=by simpa using hk
  have hr:look r d=none:=by simpa [look,hk'] using h
  have ih:=vM hne x hr;simp only[tK,look];by_cases hks:k=s
  · subst hks;have e1:DL k d k=d:=by simp[DL]
    rw[e1];by_cases hx:x=d
    · subst hx;simp
    · have e2:(d==x)=false:=by simpa using fun e=>hx e.symm
      rw[e2,if_neg hx];simp only[cond_false];rw[ih,if_neg hx];by_cases hxs:x=k
      · rw[if_pos hxs,if_pos hxs]
      · rw[if_neg hxs,if_neg hxs];have e3:(k==x)=false:=by simpa using fun e=>hxs e.symm
        rw[e3];rfl
  · have e1:DL s d k=k:=OZ hks;rw[e1];by_cases hx:x=k
    · subst hx;simp[hk,hks]
    · have e2:(k==x)=false:=by simpa using fun e=>hx e.symm
      rw[e2];simp only[cond_false];rw[ih];have e3:(k==s)=false:=by simpa using hks
      rw[e3];rfl
theorem AR.renamed {w : World} {M : Nat → Prop} {β β' : Nat → Option (Nat × Nat)} {h h' : Nat → Option cu} {s d : Nat} (hh : ∀ x blk,h x = some blk → h' (DL s d x) = some (blk.ren s d) ∧ β' (DL s d x) = β x)
    {v:AV} {c:Value} (hv:AR w M β h v c):AR w M β' h' (v.ren s d) c:=by
  induction hv with
  | undef c=>exact .undef c
  | p v c hv=>exact .p v c hv
  | slice x off len a ks xs b o cap h1 hl hb hcap hr=>exact .slice _ off len a ks xs b o cap (hh x _ h1).1 hl ((hh x _ h1).2.trans hb) hcap hr
  | sliceE x off a ks xs base h1 hl=>exact .sliceE _ off a ks xs base (hh x _ h1).1 hl
  | bslice x off len cs b o cap h1 hl hb hcap=>exact .bslice _ off len (AV.IV s d cs) b o cap (hh x _ h1).1 (by rw[mZ];exact hl) ((hh x _ h1).2.trans hb) hcap
  | bsliceE x off cs base h1 hl=>exact .bsliceE _ off (AV.IV s d cs) base (hh x _ h1).1 (by rw[mZ];exact hl)
  | ptrB x off cs b o h1 hb=>exact .ptrB _ off (AV.IV s d cs) b o (hh x _ h1).1 ((hh x _ h1).2.trans hb)
  | ptrA x idx off a ks xs b o h1 hi hb=>exact .ptrA _ idx off a ks xs b o (hh x _ h1).1 hi ((hh x _ h1).2.trans hb)
  | pq a ks x off b o f hM hx hc hv=>exact .pq a ks x off b o f hM hx hc hv
  | fn f cs vs hn _ ih =>
   refine .fn f _ vs (by rw[mZ];exact hn) fun i c hi=>?_;rw[yE]at hi;cases hx:cs[i]? with
   | none=>rw[hx]at hi;cases hi
   | some x=>rw[hx]at hi;cases hi;exact ih i x hx
  | agg cs vs hn hl _ ih =>
   refine .agg _ vs (by rw[mZ];exact hn) (fun c hc=>?_) fun i c hi=>?_
   · obtain⟨i,hi⟩:=List.mem_iff_getElem?.1 hc;rw[yE]at hi;cases hx:cs[i]? with
     | none=>rw[hx]at hi;cases hi
     | some x=>rw[hx]at hi;cases hi;rw[YB];exact hl x (qLe hx)
   · rw[yE]at hi;cases hx:cs[i]? with
     | none=>rw[hx]at hi;cases hi
     | some x=>rw[hx]at hi;cases hi;exact ih i x hx
  | qY cs vs hn _ ih =>
   refine .qY _ vs (by rw[mZ];exact hn) fun i c hi=>?_;rw[yE]at hi;cases hx:cs[i]? with
   | none=>rw[hx]at hi;cases hi
   | some x=>rw[hx]at hi;cases hi;exact ih i x hx
  | vN l=>exact .vN l
section
variable {P:Program} {T:Tab} {w0:Base} {Pr M0 M:Nat→Prop} {β OQ:Nat→Option (Nat × Nat)} {hp0:Heap} {st st':St} {a:Act} {w:World}
theorem Rel.rename (r : Rel w0 Pr M0 M β st a w) {s d : Nat} (hne : s ≠ d) (hd : look st.heap d = none) (hs : s < ah) :
    Rel w0 Pr M0 M (fun x=>if x=d then β s else β x) { env:=AV.IV s d st.env,heap:=tK s d st.heap } a w:=by
  have hlk:=fun x=>vM (s:=s) (d:=d) hne x hd;have hh:∀ x blk,look st.heap x=some blk→look (tK s d st.heap) (DL s d x)=some (blk.ren s d)∧(if DL s d x=d then β s else β (DL s d x))=β x:=by
   intro x blk hx;have hxd:x≠d:=by rintro rfl;rw[hd]at hx;cases hx
   by_cases hxs:x=s
   · subst hxs;have e:DL x d x=d:=by simp[DL]
     rw[e,hlk,if_pos rfl,hx];exact⟨rfl,by simp⟩
   · have e:DL s d x=x:=OZ hxs;rw[e,hlk,if_neg hxd,if_neg hxs,hx];exact⟨rfl,by simp[hxd]⟩
  have key:∀ {v:AV} {c:Value},AR w M β (look st.heap) v c→AR w M (fun x=>if x=d then β s else β x) (look (tK s d st.heap)) (v.ren s d) c:=fun h=>h.renamed hh;have from_:∀ x blk',look (tK s d st.heap) x=some blk'→∃ y blk,look st.heap y=some blk∧blk'=blk.ren s d∧x=DL s d y∧(if x=d then β s else β x)=β y:=by
   intro x blk' hx;rw[hlk]at hx;by_cases hxd:x=d
   · rw[if_pos hxd]at hx;cases hy:look st.heap s with
     | none=>rw[hy]at hx;cases hx
     | some b=>rw[hy]at hx;cases hx;exact⟨s,b,hy,rfl,by simp[DL,hxd],by simp[hxd]⟩
   · rw[if_neg hxd]at hx;by_cases hxs:x=s
     · rw[if_pos hxs]at hx;cases hx
     · rw[if_neg hxs]at hx;cases hy:look st.heap x with
       | none=>rw[hy]at hx;cases hx
       | some b=>rw[hy]at hx;cases hx;exact⟨x,b,hy,rfl,(OZ hxs).symm,by simp[hxd]⟩
  refine⟨by simp only[mZ];exact r.oK,fun t v hv=>?_,fun x blk' hx=>?_,fun x b o hx hb=>?_,fun x x' b o o' hx hx' hb hb'=>?_,r.gU,r.lY,r.tu,r.keep,r.room,r.size,r.os,r.tape,r.output,r.glob⟩
  · simp only[yE]at hv;cases he:st.env[t]? with
    | none=>rw[he]at hv;cases hv
    | some u=>rw[he]at hv;cases hv;exact key (r.env t u he)
  · obtain⟨y,blk,g1,rfl,rfl,g4⟩:=from_ x blk' hx;cases r.heap y blk g1 with
    | box cs b o C e fr k1 k2 k3 k4 k5 k6 =>
     refine .box _ b o C e fr (g4.trans k1) k2 (by rw[mZ];exact k3) k4 (fun c hc=>?_) fun j c hj=>?_
     · obtain⟨i,hi⟩:=List.mem_iff_getElem?.1 hc;rw[yE]at hi;cases hx:cs[i]? with
       | none=>rw[hx]at hi;cases hi
       | some x=>rw[hx]at hi;cases hi;rw[YB];exact k5 x (qLe hx)
     · rw[yE]at hj;cases hx:cs[j]? with
       | none=>rw[hx]at hj;cases hj
       | some x=>rw[hx]at hj;cases hj;exact key (k6 j x hx)
    | jS a ks=>exact .jS a ks
    | log on ys=>exact .log on ys
    | arr a ks xs b o C e fr k1 k2 k3 k4 k5 k6=>exact .arr a ks xs b o C e fr (g4.trans k1) k2 k3 k4 k5 k6
  · obtain⟨blk',hx⟩:=Option.isSome_iff_exists.1 hx;obtain⟨y,blk,g1,_,g3,g4⟩:=from_ x blk' hx;have hb:(if x=d then β s else β x)=some (b,o):=hb;rw[g4]at hb;obtain⟨o1,o2,o3⟩:=r.own y b o (by rw[g1];rfl) hb;refine⟨o1,o2,o3.1,o3.2.imp id fun o3=>?_⟩;have hys:y≠s:=by omega
    have:DL s d y=y:=OZ hys;rw[g3,this];exact o3
  · obtain⟨aoz,hx⟩:=Option.isSome_iff_exists.1 hx;obtain⟨aoA,hx'⟩:=Option.isSome_iff_exists.1 hx';obtain⟨y,b1,g1,_,g3,g4⟩:=from_ x aoz hx;obtain⟨y',b2,g1',_,g3',g4'⟩:=from_ x' aoA hx';have hb:(if x=d then β s else β x)=some (b,o):=hb;have hb':(if x'=d then β s else β x')=some (b,o'):=hb';rw[g4]at hb;rw[g4']at hb';rw[g3,g3',r.inj y y' b o o' (by rw[g1];rfl) (by rw[g1'];rfl) hb hb']
theorem cu.aeO (s d:Nat) (b:cu):Like b (b.ren s d):=by
 cases b with
 | box cs=>simp[cu.ren,Like,mZ]
 | arr=>exact Like.refl _
 | log=>exact Like.refl _
theorem Wx {β:Nat→Option (Nat × Nat)} {hp:Heap} {s d:Nat} (hne:s≠d) (hd:look hp d=none) {b:Nat} (h:mQ (fun x=>if x=d then β s else β x) (tK s d hp) b):mQ β hp b:=by
 obtain⟨x,o,hx,hb⟩:=h;rw[vM hne x hd]at hx;by_cases hxd:x=d
 · rw[if_pos hxd]at hx;simp only[hxd,if_true]at hb;exact⟨s,o,by simpa using hx,hb⟩
 · rw[if_neg hxd]at hx;simp only[if_neg hxd]at hb;by_cases hxs:x=s
   · rw[if_pos hxs]at hx;cases hx
   · rw[if_neg hxs]at hx;exact⟨x,o,by simpa using hx,hb⟩
theorem Inv.MG {cx:Cx} (i:Inv cx st a w) {s d:Nat} (hne:s≠d) (hs:s<ah) (hd:d<ah):Inv cx (st.MG s d) a w:=by
 have i1:=i.strike [d];have hn:look (st.strike [d]).heap d=none:=by rw[fQ];simp
 unfold St.MG;generalize st.strike [d]=st1 at i1 hn;obtain⟨M,β,L,ds,r,e1,e2,e3,fx⟩:=i1;refine⟨M,_,L,ds,r.rename hne hn hs,fun x hx=>?_,fun x hx blk' hb=>?_,e3,fx.less (fun p hp=>rfl) fun _ ho=>Wx hne hn ho⟩
 · have:x≠d:=by omega
   simp only[if_neg this];exact e1 x hx
 · have h1:x≠d:=by omega
   have h2:x≠s:=by omega
   have hb':look (tK s d st1.heap) x=some blk':=hb;rw[vM hne x hn,if_neg h1,if_neg h2]at hb';cases hy:look st1.heap x with
   | none=>rw[hy]at hb';cases hb'
   | some b =>rw[hy]at hb';cases hb';obtain⟨b0,g1,g2⟩:=e2 x hx b hy;exact⟨b0,g1,g2.trans (cu.aeO s d b)⟩
theorem Inv.o9 {cx:Cx} (nv:Nat) (zF:nv≤ah):∀ (l:List Oper) {st:St},Inv cx st a w→Inv cx (Skm.o9 nv l st) a w
 | [],st,i=>i
 | o::r,st,i=>by
  simp only[Skm.o9];split
  · rename_i d _ _;split
    · rename_i s _ _ _ _;cases hc:Nat.ble nv s&&(Nat.blt d nv&&Nat.blt s 100000) with
      | false=>exact Inv.o9 nv zF r i
      | true =>
       simp only[qBa]at hc;have h2:d<nv:=Nat.le_of_ble_eq_true hc.2.1;have h1:s≠d:=by intro e;exact absurd (Nat.le_of_ble_eq_true hc.1) (Nat.not_le_of_lt (by rw[e];exact h2))
       have h3:s<100000:=Nat.le_of_ble_eq_true hc.2.2;have ea:ah=100000:=rfl;exact Inv.o9 nv zF r (i.MG h1 h3 (Nat.lt_of_lt_of_le h2 zF))
    · exact Inv.o9 nv zF r i
  · exact Inv.o9 nv zF r i
theorem Inv.agf {cx : Cx} (i : Inv cx st a w) {d : Nat} {x : PV} {ss : List Nat} (hd : deep (look st.heap) (st.env.getD d .undef) = some (x,ss)) (hf : jq ss = true) :
    Inv cx { (st.strike ss) with env:=(st.strike ss).env.set d (.p x) } a w:=by
  by_cases hlt:d<st.env.length
  · obtain⟨M,β,L,ds,r,i1,i2,i3,fx⟩:=i;have hv:st.env[d]?=some (st.env.getD d .undef):=by rw[qLb,qLd hlt];rfl
    obtain⟨g1,g2⟩:=Ii (fun s b h=>r.heap s b h) (fun s b h=>h) hd (r.env d _ hv);have r1:=r.aeI.freeze [] ss hf g2;rw[List.nil_append]at r1
    have r2:Rel _ _ _ (dR M β ss) β { (st.strike ss) with env:=(st.strike ss).env.set d (.p x) } a w :=
     ⟨by simpa using r1.oK,fun t v h=>by
       simp only at h;rw[List.getElem?_set]at h;split at h
       · rename_i he;split at h
         · cases h;subst he;exact .p _ _ g1
         · cases h
       · exact r1.env t v h,r1.heap,r1.own,r1.inj,r1.gU,r1.lY,r1.tu,r1.keep,r1.room,r1.size,r1.os,r1.tape,r1.output,r1.glob⟩
    refine⟨dR M β ss,β,L,ds,r.ZX r2,i1,i2.trans (BG st ss),i3,fx.step r r2⟩
  · have e:st.env.getD d .undef=.undef:=by simp[List.getD,List.getElem?_eq_none (by omega:st.env.length≤d)]
    rw[e]at hd;simp[deep,KF,NQ]at hd
theorem Inv.rH {cx:Cx}:∀ (xs:List Nat) {st:St},Inv cx st a w→Inv cx (Skm.rH xs st) a w
 | [],st,i=>i
 | x::r,st,i=>by
  simp only[Skm.rH];split
  · rename_i v ss hd;cases hf:jq ss with
    | false=>exact Inv.rH r i
    | true=>exact Inv.rH r (i.agf hd hf)
  · exact Inv.rH r i
theorem Inv.freezes {cx:Cx} (ts:List Nat):∀ (l:List Oper) {st:St},Inv cx st a w→Inv cx (Skm.freezes ts l st) a w
 | [],st,i=>i
 | o::r,st,i=>by
  simp only[Skm.freezes];split
  · exact Inv.freezes ts r (i.rH _)
  · exact Inv.freezes ts r i
theorem Inv.settle {cx:Cx} {F:Fp} (i:Inv cx st a w) (zF:F.nvars≤ah) (l:List Oper):Inv cx (Skm.settle F l st) a w:=by exact(i.o9 _ zF l).freezes _ l
theorem GL {live:List Nat}:∀ (l:List AV) (k i:Nat) (v:AV),(xq live k l)[i]?=some v→v=.undef∨l[i]?=some v
 | [],k,i,v,h=>by simp[xq]at h
 | u::r,k,0,v,h=>by
  simp only[xq,List.getElem?_cons_zero,qOa]at h;cases hm:jC k live with
  | true=>rw[hm]at h;right;simpa using h
  | false=>rw[hm]at h;left;simpa using h.symm
 | u::r,k,i+1,v,h=>by simp only[xq,List.getElem?_cons_succ]at h;simpa using GL r (k+1) i v h
theorem AL {live:List Nat}:∀ (l:List AV) (k:Nat),(xq live k l).length=l.length
 | [],_=>rfl
 | u::r,k=>by simp[xq,AL r]
theorem Inv.forget {cx:Cx} (i:Inv cx st a w) (live sites:List Nat):Inv cx (st.forget live sites) a w:=by obtain⟨M,β,L,ds,r,e1,e2,e3,fx⟩:=i;exact Inv.strike ⟨M,β,L,ds,r.abd (AL _ _) (fun t v h=>GL _ _ _ _ h),e1,e2,e3,fx⟩ _
theorem Inv.bQ {cx:Cx} (i:Inv cx st a w) (F:Fp) (c:Code):Inv cx (Skm.bQ F c st) a w:=by
 unfold Skm.bQ;split
 · exact i
 · split
   · exact i
   · exact i.forget _ _
theorem Inv.sW {cx : Cx} (i : Inv cx st a w) {α : Type} {b : Option cu} (hb : ∀ on xs,b = some (.log on xs) → ∃ ys,look cx.hp0 ah = some (.log on ys)) {k : St → Option α} {x : α} (h : Skm.sW b st k = some x) : ∃ st',k st' = some x ∧ Inv cx st' a w ∧
    ∀ on xs,look st'.heap ah=some (.log on xs)→b=some (.log on xs):=by
  unfold Skm.sW at h;split at h
  · rename_i on0 xs0 h0;split at h
    · rename_i on xs;refine⟨_,h,?_,fun on' xs' he=>?_⟩
      · obtain⟨ys,hy⟩:=hb on xs rfl;obtain⟨M,β,L,ds,r,e1,e2,e3,fx⟩:=i;have hlk:∀ s,look (put st.heap ah (.log on xs)) s=if s=ah then some (.log on xs) else look st.heap s:=fun s=>dS _ _ _ _
        have hon:on=on0:=by obtain⟨b0,g1,g2⟩:=e2 ah (Nat.le_refl _) _ h0;rw[hy]at g1;cases g1;exact g2
        have key:∀ {v:AV} {c:Value},AR w M β (look st.heap) v c→AR w M β (look (put st.heap ah (.log on xs))) v c:=by
         intro v c hv;refine hv.mono (fun b hb=>⟨hb,rfl⟩) fun s blk _ hs=>?_;by_cases e:s=ah
         · subst e;rw[h0]at hs;cases hs;exact⟨.log on xs,by rw[hlk,if_pos rfl],hon.symm,rfl,fun _ _ _ _ h=>h⟩
         · exact⟨blk,by rw[hlk,if_neg e];exact hs,Like.refl _,rfl,fun _ _ _ _ h=>h⟩
        have live:∀ s,(look (put st.heap ah (.log on xs)) s).isSome=true→(look st.heap s).isSome=true:=by
         intro s hs;rw[hlk]at hs;by_cases e:s=ah
         · subst e;rw[h0];rfl
         · rw[if_neg e]at hs;exact hs
        refine⟨M,β,L,ds,⟨r.oK,fun t v hv=>key (r.env t v hv),fun s blk hs=>?_,fun s b o hs hb=>r.own s b o (live s hs) hb,fun s s' b o o' hs hs'=>r.inj s s' b o o' (live s hs) (live s' hs'),r.gU,r.lY,r.tu,r.keep,r.room,r.size,r.os,r.tape,r.output,r.glob⟩,e1,fun s hs blk hb=>?_,e3,fx.less (fun p hp=>rfl) fun _ ⟨s,o,hs,hb⟩=>⟨s,o,live s hs,hb⟩⟩
        · have hs:look (put st.heap ah (.log on xs)) s=some blk:=hs;rw[hlk]at hs;by_cases e:s=ah
          · rw[if_pos e]at hs;cases hs;exact .log _ _
          · rw[if_neg e]at hs;cases r.heap s blk hs with
            | box cs b o C e fr k1 k2 k3 k4 k5 k6=>exact .box cs b o C e fr k1 k2 k3 k4 k5 fun j c hj=>key (k6 j c hj)
            | jS a ks=>exact .jS a ks
            | log on ys=>exact .log on ys
            | arr a ks xs b o C e fr k1 k2 k3 k4 k5 k6=>exact .arr a ks xs b o C e fr k1 k2 k3 k4 k5 k6
        · have hb:look (put st.heap ah (.log on xs)) s=some blk:=hb;rw[hlk]at hb;by_cases e:s=ah
          · rw[if_pos e]at hb;cases hb;subst e;exact⟨_,hy,rfl⟩
          · rw[if_neg e]at hb;exact e2 s hs blk hb
      · have he:look (put st.heap ah (.log on xs)) ah=_:=he;rw[dS,if_pos rfl]at he;cases he;rfl
    · cases h
  · rename_i hno;exact⟨st,h,i,fun on xs he=>absurd he (hno on xs)⟩
def Ex.Vj:Ex→Exit
 | .normal=>.normal
 | .exit id=>.exit id
 | .ret=>.ret
end
end Go.Skm
namespace Go.Skm
section scopes
variable {E:Fence} {n:Nat} {P:Program} {Q:Exit→Act→World→Prop} {b:Frame} {a:Act} {k:List Item} {cs:List Frame} {w:World}
theorem uU {c:Code}:step P (lone (b.atR a (.code (.scope c)::k)) cs w)=.next (lone (b.atR a (.code c::.inScope c::k)) cs w) :=
 step_lone_go (by simp[stepG,stepG.exec,Frame.atR])
theorem Tv {c:Code}:step P (lone (b.atR a (.inScope c::k)) cs w)=.next (lone (b.atR a k) cs w) :=
 step_lone_go (by simp[stepG,stepG.exec,Frame.atR])
theorem Z9 {c:Code} (h:c.wpIn E n P (Exit.noGoto Q) a w):(Code.scope c).wpIn E n P Q a w:=by
 intro b k cs hro hb hr;have h0:(lone (b.atR a (.code (.scope c)::k)) cs w).fenced P E:=fenced_calm hb hr rfl;obtain⟨e,a₁,w₁,hq,harr⟩:=h b (.inScope c::k) cs hro hb hr;cases e with
 | normal=>exact⟨.normal,a₁,w₁,hq,.head h0 uU (StepsIn.trans harr (.one (fenced_calm hb hr rfl) Tv))⟩
 | exit id =>
  have hx:exitTo id (.inScope c::k)=exitTo id k:=by simp[exitTo]
  exact⟨.exit id,a₁,w₁,hq,fun k' hk=>.head h0 uU (harr.1 k' (by rw[hx];exact hk)),
   fun hr' hk=>let ⟨k₁,h1,h2⟩:=harr.2 hr' (by rw[hx];exact hk);⟨k₁,h1,.head h0 uU h2⟩⟩
 | goto l=>exact hq.elim
 | ret=>exact⟨_,a₁,w₁,hq,.of_steps (.one h0 uU) harr⟩
 | panic ch=>exact⟨_,a₁,w₁,hq,.of_steps (.one h0 uU) harr⟩
 | outgrown=>exact⟨_,a₁,w₁,hq,.of_steps (.one h0 uU) harr⟩
end scopes
section
variable {α ι:Type} (T:Tab) (C:aS) (F:FI) (n:Nat)
def aac (z:Code) (k:Ex→St→Option α):Ex→St→Option α:=fun ex st' =>
 match ex with
 | .normal=>bW T C F n z (bQ F.cfg z st') k
 | .exit id=>k (.exit id) st'
 | .ret=>k .ret st'
def Nc (id:Nat) (k:Ex→St→Option α):Ex→St→Option α:=fun ex st' =>
 match ex with
 | .normal=>k .normal st'
 | .exit i=>bif i==id then k .normal st' else k (.exit i) st'
 | .ret=>k .ret st'
def RS (c:Code) (m:Nat) (k:Ex→St→Option α):Ex→St→Option α:=fun ex st' =>
 match ex with
 | .normal=>gZ (bQ F.cfg c st') fun st'=>qg (bQ F.cfg c) (fun st' k'=>bW T C F n c st' k') m st' k
 | .exit id=>k (.exit id) st'
 | .ret=>k .ret st'
theorem BK (y z:Code) (st:St) (k:Ex→St→Option α):bW T C F n (.seq y z) st k=bW T C F n y st (aac T C F n z k):=rfl
theorem Jb (id:Nat) (c:Code) (st:St) (k:Ex→St→Option α):bW T C F n (.block id c) st k=bW T C F n c st (Nc id k):=rfl
theorem GN (c:Code) (m:Nat) (st:St) (k:Ex→St→Option α):qg (bQ F.cfg c) (fun st' k'=>bW T C F n c st' k') (m+1) st k=bW T C F n c st (RS T C F n c m k):=rfl
structure WA (P:Program) (m:Nat) (KP:(Ex→St→Option α)→Prop) (rd:ι→Option Nat) (Fit:ι→Oper→Prop) (I:ι→α→St→Act→World→Prop):Prop where
 reg:∀ (i:ι) (id:Nat) (ops:Array Oper) (draw:Bool) (st:St) (a:Act) (w:World) (k:Ex→St→Option α) (x:α) (Q:Exit→Act→World→Prop),KP k→bW T C F n (.region id ops draw) st k=some x →
  eU T F.hides (.region id ops draw)=true→(∀ o∈opsOf (.region id ops draw),Fit i o)→I i x st a w →
  (∀ x' st' a' w',k .normal st'=some x'→I i x' st' a' w'→Q .normal a' w')→(Code.region id ops draw).wpIn (FW (rd i)) m P Q a w
 forget:∀ (i:ι) (x:α) (st:St) (a:Act) (w:World) (c:Code),I i x st a w→I i x (bQ F.cfg c st) a w
 cond:∀ (i:ι) (x:α) (st:St) (a:Act) (w:World) (c:Operand) (b:Bool),I i x st a w→dJ st.env c=.p (.bool b)→a.eval c=.bool b
 kseq:∀ (z:Code) (k:Ex→St→Option α),KP k→KP (aac T C F n z k)
 kblock:∀ (id:Nat) (k:Ex→St→Option α),KP k→KP (Nc id k)
 kloop:∀ (c:Code) (j:Nat) (k:Ex→St→Option α),KP k→KP (RS T C F n c j k)
def aad (ng:Bool) (P:Program) (m:Nat) (KP:(Ex→St→Option α)→Prop) (rd:ι→Option Nat) (Fit:ι→Oper→Prop) (I:ι→α→St→Act→World→Prop) (c:Code):Prop :=
 ∀ (i:ι) (st:St) (a:Act) (w:World) (k:Ex→St→Option α) (x:α) (Q:Exit→Act→World→Prop),KP k→bW T C F n c st k=some x→eU T F.hides c=true→(ng=true→fH c=true)→(∀ o∈opsOf c,Fit i o)→I i x st a w →
  (∀ ex x' st' a' w',k ex st'=some x'→I i x' st' a' w'→Q ex.Vj a' w')→c.wpIn (FW (rd i)) m P Q a w
variable {T C F n}
theorem kC {ng : Bool} {P : Program} {m : Nat} {KP : (Ex → St → Option α) → Prop} {rd : ι → Option Nat} {Fit : ι → Oper → Prop} {I : ι → α → St → Act → World → Prop} (S : WA T C F n P m KP rd Fit I)
    (Tz:ng=false→∀ f ps y z,aad T C F n ng P m KP rd Fit I y→aad T C F n ng P m KP rd Fit I z→aad T C F n ng P m KP rd Fit I (.rangeFunc f ps y z)):∀ c:Code,aad T C F n ng P m KP rd Fit I c
  | .skip=>fun _ st a w _ x _ _ h _ _ _ i hQ=>wpIn_skip (hQ .normal x st a w h i)
  | .region id ops draw=>fun i st a w k x Q hk h hd _ hw hi hQ=>S.reg i id ops draw st a w k x Q hk h hd hw hi fun x' st' a' w' h1 h2=>hQ .normal x' st' a' w' h1 h2
  | .seq y z=>fun i st a w k x Q hk h hd hng hw hi hQ=>by
   rw[BK]at h;simp only[eU,qBa]at hd;have aeQ:ng=true→fH y=true∧fH z=true:=fun e=>by have:=hng e;simpa [fH] using this
   refine wpIn_seq (kC S Tz y i st a w _ x _ (S.kseq z k hk) h hd.1 (fun e=>(aeQ e).1) (fun o ho=>hw o (by simp[opsOf,ho])) hi fun ex x' st' a' w' h1 i'=>?_);cases ex with
   | normal=>exact kC S Tz z i _ a' w' k x' Q hk h1 hd.2 (fun e=>(aeQ e).2) (fun o ho=>hw o (by simp[opsOf,ho])) (S.forget _ _ _ _ _ _ i') hQ
   | exit id=>exact hQ (.exit id) x' st' a' w' h1 i'
   | ret=>exact hQ .ret x' st' a' w' h1 i'
  | .cond c y z=>fun i st a w k x Q hk h hd hng hw hi hQ=>by
   simp only[bW]at h;simp only[eU,qBa]at hd;have aeQ:ng=true→fH y=true∧fH z=true:=fun e=>by have:=hng e;simpa [fH] using this
   cases hv:Skm.dJ st.env c with
   | p v =>
    cases v with
    | bool b =>
     have hc:=S.cond i x st a w c b hi hv;rw[hv]at h;simp only at h;refine wpIn_cond hc ?_;cases b with
     | true=>exact kC S Tz y i st a w k x Q hk h hd.1 (fun e=>(aeQ e).1) (fun o ho=>hw o (by simp[opsOf,ho])) hi hQ
     | false=>exact kC S Tz z i st a w k x Q hk h hd.2 (fun e=>(aeQ e).2) (fun o ho=>hw o (by simp[opsOf,ho])) hi hQ
    | _=>rw[hv]at h;simp at h
   | _=>rw[hv]at h;simp at h
  | .block id c=>fun i st a w k x Q hk h hd hng hw hi hQ=>by
   rw[Jb]at h;simp only[eU]at hd;refine wpIn_block (kC S Tz c i st a w _ x _ (S.kblock id k hk) h hd (fun e=>by simpa [fH] using hng e) (fun o ho=>hw o (by simpa [opsOf] using ho)) hi fun ex x' st' a' w' h1 i'=>?_);cases ex with
   | normal=>exact hQ .normal x' st' a' w' h1 i'
   | exit j =>
    simp only[Ex.Vj,Exit.inBlock];simp only[Nc]at h1;by_cases hj:j=id
    · rw[if_pos hj];have:(j==id)=true:=by simpa using hj
      simp only[this,cond_true]at h1;exact hQ .normal x' st' a' w' h1 i'
    · rw[if_neg hj];have:(j==id)=false:=by simpa using hj
      simp only[this,cond_false]at h1;exact hQ (.exit j) x' st' a' w' h1 i'
   | ret=>exact hQ .ret x' st' a' w' h1 i'
  | .loop c=>fun i st a w k x Q hk h hd hng hw hi hQ=>by
   simp only[bW]at h;simp only[eU]at hd;refine wpIn_loop_rounds n ?_;have key:∀ (j:Nat) (st:St) (a:Act) (w:World) (x:α),qg (Skm.bQ F.cfg c) (fun st' k'=>bW T C F n c st' k') j st k=some x→I i x st a w→Code.roundsIn (FW (rd i)) m P c Q j a w:=by
    intro j;induction j with
    | zero=>intro st a w x h;simp[qg]at h
    | succ j ih =>
     intro st a w x h hi;rw[GN]at h;rw[roundsIn_succ];refine kC S Tz c i st a w _ x _ (S.kloop c j k hk) h hd (fun e=>by simpa [fH] using hng e) (fun o ho=>hw o (by simpa [opsOf] using ho)) hi fun ex x' st' a' w' h1 i'=>?_;cases ex with
     | normal =>simp only[RS,bU]at h1;exact ih _ a' w' x' h1 (S.forget _ _ _ _ _ _ i')
     | exit id=>exact hQ (.exit id) x' st' a' w' h1 i'
     | ret=>exact hQ .ret x' st' a' w' h1 i'
   exact key n _ a w x h (S.forget _ _ _ _ _ _ hi)
  | .exit id=>fun _ st a w _ x _ _ h _ _ _ i hQ=>wpIn_exit (hQ (.exit id) x st a w h i)
  | .ret=>fun _ st a w _ x _ _ h _ _ _ i hQ=>wpIn_ret (hQ .ret x st a w h i)
  | .label _=>fun _ st a w _ x _ _ h _ _ _ i hQ=>wpIn_label (hQ .normal x st a w h i)
  | .rangeFunc f ps y z=>by
   cases hn:ng with
   | false=>exact hn▸Tz hn f ps y z (kC S Tz y) (kC S Tz z)
   | true=>exact fun _ st a w _ x _ _ _ _ hng _ _ _=>by have:=hng rfl;simp[fH]at this
  | .scope c=>fun i st a w k x Q hk h hd hng hw hi hQ=>by
   have h:bW T C F n c st k=some x:=h;simp only[eU]at hd;refine Z9 (kC S Tz c i st a w k x _ hk h hd (fun e=>by simpa [fH] using hng e) (fun o ho=>hw o (by simpa [opsOf] using ho)) hi fun ex x' st' a' w' h1 i'=>?_);cases ex with
   | normal=>exact hQ .normal x' st' a' w' h1 i'
   | exit j=>exact hQ (.exit j) x' st' a' w' h1 i'
   | ret=>exact hQ .ret x' st' a' w' h1 i'
  | .goto ..=>fun _ st a w _ x _ _ h _ _ _ i hQ=>by simp[bW]at h
  | .refuse ..=>fun _ st a w _ x _ _ h _ _ _ i hQ=>by simp[bW]at h
end
section
variable {P:Program} {T:Tab} {C:aS} {F:FI} {n m:Nat} {α:Type}
abbrev CxN (gl:Option (List (Nat × Obj))):={ cx:Cx // Ai cx.hp0∧cx.w0.gl=gl }
theorem Bz (ok:dZ P T) {gl:Option (List (Nat × Obj))} (hC:jl P T gl C) (zF:F.cfg.nvars≤ah) (x0:α):WA T C F n P m (fun _:Ex→St→Option α=>True) (fun i:CxN gl=>i.1.rd) (fun i=>BI i.1) (fun i x st a w=>x=x0∧Inv i.1 st a w) where
 reg:=by
  intro i id ops draw st a w k x Q _ h hd hw ⟨hx,hi⟩ hQ;have hw':∀ o∈ops.toList,BI i.1 o:=hw;have hC:jl P T i.1.w0.gl C:=by rw[i.2.2];exact hC
  have fin:∀ st' a' w',(gZ (settle F.cfg ops.toList st') fun st'=>k .normal st')=some x→Inv i.1 st' a' w'→Q .normal a' w':=by intro st' a' w' h1 i';rw[bU]at h1;exact hQ x _ a' w' h1 ⟨hx,i'.settle zF _⟩
  simp only[bW]at h;cases draw with
  | false =>exact YA ok hC i.2.1 h hw' hi fin
  | true =>
   simp only[eU]at hd;cases hh:dN F.hides id with
   | none=>rw[hh]at h;cases h
   | some hid =>
    rw[hh]at h hd;simp only[qBa]at hd;simp only[bU]at h;have i0:=hi.strike (present st.heap (vH ops.toList ops.toList));have back:∀ {k2:St→Option α} {st':St} {a':Act} {w':World},Skm.sW (look (st.strike (present st.heap (vH ops.toList ops.toList))).heap ah) st' k2=some x→Inv i.1 st' a' w'→∃ st2,k2 st2=some x∧Inv i.1 st2 a' w':=by
     intro k2 st' a' w' h1 i';obtain⟨st2,h2,i2,_⟩:=i'.sW (fun on xs he=>by
      have i0':=i0;obtain⟨M,β,L,ds,r,e1,e2,e3,fx⟩:=i0';obtain⟨b0,g1,g2⟩:=e2 ah (Nat.le_refl _) _ he;cases b0 with
      | box=>exact g2.elim
      | arr=>exact g2.elim
      | log o ys=>cases (show o=on from g2);exact⟨ys,g1⟩) h1
     exact⟨st2,h2,i2⟩
    cases hy:ZH F.cfg.ys ops.toList with
    | none =>rw[hy]at h;refine Yz ok hC hd.1 hd.2 h hw' i0 fun st' a' w' h1 i'=>?_;obtain⟨st2,h2,i2⟩:=back h1 i';exact hQ x _ a' w' h2 ⟨hx,i2.settle zF _⟩
    | some jc =>rw[hy]at h;refine abo ok hC hd.1 hd.2 (RQ hy) h hw' i0 fun st' a' w' h1 i' _=>?_;obtain⟨st2,h2,i2⟩:=back h1 i';exact RG ok hC i.2.1 (fun st3 a3 w3 h3 i3=>hQ x _ a3 w3 h3 ⟨hx,i3.settle zF _⟩) (ops.toList.drop jc) jc st2 a' w' (fun o ho=>hw' o (List.mem_of_mem_drop ho)) h2 i2
 forget:=fun i _ st a w c h=>⟨h.1,h.2.bQ _ _⟩
 cond:=by intro i x st a w c b hi hv;obtain⟨_,M,β,L,ds,r,_⟩:=hi;have hc:=r.dJ c;rw[hv]at hc;exact hc.EL
 kseq:=fun _ _ _=>trivial
 kblock:=fun _ _ _=>trivial
 kloop:=fun _ _ _ _=>trivial
end
end Go.Skm
namespace Go.Skm
open Go.RowKit
structure Turns (gl:Option (List (Nat × Obj))) (O:Nat→Prop) (W W':World):Prop where
 size:W.heap.size≤W'.heap.size
 keep:∀ b,b<W.heap.size→¬ O b→W'.heap[b]?=W.heap[b]?
 os:W'.os=W.os
 tape:W'.tape=W.tape
 output:W'.output=W.output
 drawn:jK gl W.drawn W'.drawn
abbrev rV (gl:Option (List (Nat × Obj))) (W W':World):Prop:=Turns gl (fun _=>False) W W'
theorem Turns.refl (gl:Option (List (Nat × Obj))) (O:Nat→Prop) (W:World):Turns gl O W W:=⟨Nat.le_refl _,fun _ _ _=>rfl,rfl,rfl,rfl,.refl _ _⟩
theorem Turns.trans {gl:Option (List (Nat × Obj))} {O O':Nat→Prop} {A B C:World} (h:Turns gl O A B) (k:Turns gl O' B C) (hO:∀ b,b<A.heap.size→O' b→O b):Turns gl O A C :=
 ⟨Nat.le_trans h.size k.size,fun b hb ho=>by rw[k.keep b (by have:=h.size;omega) fun h'=>ho (hO b hb h'),h.keep b hb ho],k.os.trans h.os,k.tape.trans h.tape,k.output.trans h.output,h.drawn.trans k.drawn⟩
theorem Turns.weaken {gl:Option (List (Nat × Obj))} {O O':Nat→Prop} {A B:World} (h:Turns gl O A B) (hO:∀ b,b<A.heap.size→O b→O' b):Turns gl O' A B :=
 ⟨h.size,fun b hb ho=>h.keep b hb fun h'=>ho (hO b hb h'),h.os,h.tape,h.output,h.drawn⟩
theorem rV.alloc {gl:Option (List (Nat × Obj))} (W:World) (o:Obj):rV gl W (W.alloc o) :=
 ⟨by simp,fun b hb _=>Below.heap_alloc W o b hb,rfl,rfl,rfl,.refl _ _⟩
theorem Turns.putObj {gl:Option (List (Nat × Obj))} (W:World) (l:Nat) (o:Obj):Turns gl (fun b=>b=l) W (W.putObj l o) :=
 ⟨by simp,fun b _ h=>World.putObj_heap_other h,rfl,rfl,rfl,.refl _ _⟩
def TQ (P:Program) (gl:Option (List (Nat × Obj))) (l:Nat) (aY:Array Value) (W:World) (J Jx:(Nat→Prop)→(Nat→Prop)→World→Prop) (O K M:Nat→Prop):Prop :=
 YieldAt (FW none) 0 P l aY W fun e W'=>Turns gl O W W'∧∃ O' K':Nat→Prop,((e=.returned (.bool true)∧J O' K' W')∨(e=.returned (.bool false)∧Jx O' K' W'))∧(∀ b,O' b→O b∨W.heap.size≤b)∧∀ b,K' b→K b∨M b∨O b∨(W.heap.size≤b∧b<W'.heap.size)
def Bears (gl:Option (List (Nat × Obj))) (W0:World) (J:(Nat→Prop)→(Nat→Prop)→World→Prop):Prop :=
 ∀ (O K:Nat→Prop) (W W':World) (S:Nat→Prop),J O K W→Turns gl S W W'→(∀ b,S b→W0.heap.size≤b∧¬ O b∧¬ K b)→J O K W'
def L9 (P:Program) (gl:Option (List (Nat × Obj))) (g:Nat) (caps xs:List PV):Prop :=
 ∀ (W0:World) (M0:Nat→Prop) (l:Nat) (lb:Array Value) (J:List PV→(Nat→Prop)→(Nat→Prop)→World→Prop) (Jx:(Nat→Prop)→(Nat→Prop)→World→Prop) (O0:Nat→Prop),
  (∀ p∈gl.getD [],M0 p.1∧W0.heap[p.1]?=some p.2)→lb.size=caps.length→(∀ i c,caps[i]?=some c→VR W0 M0 c (lb.getD i undef))→(∀ b,M0 b→b<W0.heap.size∧¬ O0 b) →
  (∀ r,Bears gl W0 (J r))→Bears gl W0 Jx→(∀ r O K W,J r O K W→∀ b,O b∨K b→b<W.heap.size) →
  (∀ vs r O K W (M:Nat→Prop) aY,J (.agg vs::r) O K W→W0.heap.size≤W.heap.size→(∀ b,M b→b<W.heap.size∧¬ O b∧(M0 b∨W0.heap.size≤b))→aY.size=vs.length→(∀ i c,vs[i]?=some c→VR W M c (aY.getD i undef)) →
    TQ P gl l aY W (J r) Jx O K M) →
 J xs O0 (fun _=>False) W0→Calls P g (#[.func (.yield l) #[] #[]]++lb) W0 fun e W'=>(∃ v,e=.returned v)∧∃ O K:Nat→Prop,J [] O K W'∨Jx O K W'
theorem Bears.grows {gl:Option (List (Nat × Obj))} {W0:World} {J:(Nat→Prop)→(Nat→Prop)→World→Prop} (h:Bears gl W0 J) {O K:Nat→Prop} {W W':World} (hj:J O K W) (g:rV gl W W'):J O K W':=h O K W W' _ hj g fun _ h=>h.elim
def IW (P:Program) (T:Tab) (gl:Option (List (Nat × Obj))) (C:aS):Prop :=
 ∀ g fi caps r,dN T.funcs g=some fi→kD fi caps.length=true→C g (.vN::caps.map .p) [.log true []]=some r→P.funcs[g]?=some fi.fn∧L9 P gl g caps (pV r.2)
section
variable {w0 w0':Base} {Pr Pr' M0 M0' M M':Nat→Prop} {β β':Nat→Option (Nat × Nat)} {st st':St} {a a':Act} {w w':World}
theorem Rel.to (r : Rel w0 Pr M0 M β st a w) (hgl : w0'.gl = w0.gl) (hM : ∀ b,M b → M' b ∧ w'.heap[b]? = w.heap[b]?)
    (hB:∀ s b o,(look st.heap s).isSome=true→β s=some (b,o)→w'.heap[b]?=w.heap[b]?∧¬ M' b∧b<w'.heap.size∧((w0'.heap.size≤b∨Pr' b)∧(w0'.n0≤b∨ah≤s)))
    (gU:∀ b,M' b→b<w'.heap.size) (lY:∀ b,M' b→M0' b∨(w0'.n0≤b∧(w0'.heap.size≤b∨Pr' b))) (tu:∀ b,M0' b→M' b)
    (keep:∀ b,b<w0'.heap.size→¬ Pr' b→w'.heap[b]?=w0'.heap[b]?) (room:∀ b n,b<w0'.n0→Pr' b→Room w0'.wd b n→Room w' b n)
    (size:w0'.heap.size≤w'.heap.size) (os:w'.os=w0'.os) (tape:w'.tape=w0'.tape) (output:w'.output=w0'.output):Rel w0' Pr' M0' M' β st a w':=by
  have key:∀ (v:AV) (c:Value),AR w M β (look st.heap) v c→AR w' M' β (look st.heap) v c:=fun v c h =>h.mono hM fun s blk _ hl=>⟨blk,hl,Like.refl _,rfl,fun b o n h3 hr=>hr.of_block (hB s b o (by rw[hl];rfl) h3).1⟩;refine⟨r.oK,fun t v h=>key _ _ (r.env t v h),?_,fun s b o hs hb=>(hB s b o hs hb).2,r.inj,gU,lY,tu,keep,room,size,os,tape,output,fun p hp=>by rw[hgl]at hp;exact⟨(hM _ (r.glob p hp).1).1,(hM _ (r.glob p hp).1).2.trans (r.glob p hp).2⟩⟩;intro s blk hl;have hi:(look st.heap s).isSome=true:=by rw[hl];rfl
  cases r.heap s blk hl with
  | box cs b o C e fr g1 g2 g3 g4 g5 g6=>exact .box _ b o C e fr g1 (by rw[(hB s b o hi g1).1];exact g2) g3 g4 g5 fun j c hc=>key _ _ (g6 j c hc)
  | jS a ks=>exact .jS a ks
  | log on ys=>exact .log on ys
  | arr a ks xs b o C e fr g1 g2 g3 g4 g5 g6=>exact .arr a ks xs b o C e fr g1 (by rw[(hB s b o hi g1).1];exact g2) g3 g4 g5 fun i x j c hx hc=>(g6 i x j c hx hc).mono hM
theorem Rel.slots (r:Rel w0 Pr M0 M β st a w) {env:List AV} (hs:env.length≤a'.tmps.size) (h:∀ t v,env[t]?=some v→AR w M β (look st.heap) v (a'.tmps.getD t undef)):Rel w0 Pr M0 M β { st with env:=env } a' w :=
 ⟨hs,h,r.heap,r.own,r.inj,r.gU,r.lY,r.tu,r.keep,r.room,r.size,r.os,r.tape,r.output,r.glob⟩
theorem Rel.turns (r:Rel w0 Pr M0 M β st a w) (hd:jK w0.gl w0.drawn w.drawn):Turns w0.gl Pr w0.wd w:=⟨r.size,r.keep,r.os,r.tape,r.output,hd⟩
end
theorem Oa {ws:List Nat}:∀ (l:List AV) (k i:Nat) (v:AV),(zx ws k l)[i]?=some v→v=.undef∨(l[i]?=some v∧(k+i) ∉ ws)
 | [],k,i,v,h=>by simp[zx]at h
 | u::r,k,0,v,h=>by
  simp only[zx,List.getElem?_cons_zero,qOa]at h;cases hm:jC k ws with
  | true=>rw[hm]at h;left;simpa using h.symm
  | false=>rw[hm]at h;right;exact⟨by simpa using h,fun hk=>by rw[mW.2 (show k∈ws from hk)]at hm;cases hm⟩
 | u::r,k,i+1,v,h=>by simp only[zx,List.getElem?_cons_succ]at h;have:=Oa r (k+1) i v h;rw[show k+1+i=k+(i+1) from by omega]at this;simpa using this
theorem GR {ws:List Nat}:∀ (l:List AV) (k:Nat),(zx ws k l).length=l.length
 | [],_=>rfl
 | u::r,k=>by simp[zx,GR r]
theorem acT {w:World} {M:Nat→Prop} {s:Bool × List Kd} {v:PV} {c:Value} (hk:bZ s.1 s.2 v=true) (h:VR w M v c):VR w M (ZG s v) c:=by
 obtain⟨a,ks⟩:=s;cases a with
 | true=>exact h.written hk
 | false =>
  match ks,hk with
  | [k],hk=>exact EK (by simpa [bZ] using hk) h
  | [],hk=>simp[bZ]at hk
  | _::_::_,hk=>simp[bZ]at hk
theorem UE:∀ {ss:List (Bool × List Kd)} {ps:List Nat} {vs:List PV} {i:Nat} {env env':List AV},E5 ss ps (.agg vs) i env=some env'→vs.length=i+ps.length
 | [],[],vs,i,env,env',hs=>by
  simp only[E5]at hs;cases hb:Nat.beq (PV.agg vs).cells.length i with
  | false=>rw[hb]at hs;cases hs
  | true=>exact Nat.eq_of_beq_eq_true hb
 | s::ss,t::ps,vs,i,env,env',hs=>by
  simp only[E5]at hs;cases hb:bZ s.1 s.2 ((PV.agg vs).cell i) with
  | false=>rw[hb]at hs;cases hs
  | true =>rw[hb]at hs;have:=UE hs;simp only[List.length_cons];omega
 | [],_::_,vs,i,env,env',hs=>by simp[E5]at hs
 | _::_,[],vs,i,env,env',hs=>by simp[E5]at hs
theorem YC {w : World} {M : Nat → Prop} {β : Nat → Option (Nat × Nat)} {h : Nat → Option cu} : ∀ {ss : List (Bool × List Kd)} {ps : List Nat} {vs : List PV} {i : Nat} {env env' : List AV} {cs : List Value} {tmps : Array Value},
    E5 ss ps (.agg vs) i env=some env'→cs.length=vs.length-i→i≤vs.length→(∀ j c,vs[i+j]?=some c→VR w M c (cs.getD j undef)) →
    env.length≤tmps.size→(∀ t v,env[t]?=some v→AR w M β h v (tmps.getD t undef)) →
    cs.length=ps.length∧env'.length=env.length∧(((ps.zip cs).foldl (fun tmps (t,a)=>tmps.setIfInBounds t a) tmps).size=tmps.size) ∧
    (∀ t v,env'[t]?=some v→AR w M β h v (((ps.zip cs).foldl (fun tmps (t,a)=>tmps.setIfInBounds t a) tmps).getD t undef)) ∧
    (∀ t,t ∉ ps→((ps.zip cs).foldl (fun tmps (t,a)=>tmps.setIfInBounds t a) tmps).getD t undef=tmps.getD t undef)
  | [],[],vs,i,env,env',cs,tmps,hs,hc,hi,hv,hl,he=>by
   simp only[E5]at hs;cases hb:Nat.beq (PV.agg vs).cells.length i with
   | false=>rw[hb]at hs;cases hs
   | true =>rw[hb]at hs;cases hs;have:vs.length=i:=Nat.eq_of_beq_eq_true hb;have hc0:cs=[]:=List.length_eq_zero_iff.1 (by omega);subst hc0;exact⟨rfl,rfl,rfl,he,fun _ _=>rfl⟩
  | s::ss,t::ps,vs,i,env,env',cs,tmps,hs,hc,hi,hv,hl,he=>by
   simp only[E5]at hs;cases hb:bZ s.1 s.2 ((PV.agg vs).cell i) with
   | false=>rw[hb]at hs;cases hs
   | true =>
    rw[hb]at hs;simp only[cond_true]at hs;have hlt:i<vs.length:=by have:=UE hs;omega
    match cs,hc with
     | [],hc=>simp at hc;omega
     | c::cs,hc =>
      have hv0:=hv 0 vs[i] (by simp);simp only[qLb,List.getElem?_cons_zero,Option.getD_some]at hv0;have hcell:(PV.agg vs).cell i=vs[i]:=by simp[PV.cell,List.getD,hlt]
      rw[hcell]at hs hb;have hnew:AR w M β h (.p (ZG s vs[i])) c:=.p _ _ (acT hb hv0);obtain⟨g1,g2,g3,g4,g5⟩:=YC (w:=w) (M:=M) (β:=β) (h:=h) (cs:=cs) (tmps:=tmps.setIfInBounds t c) hs (by simp at hc;omega) (by omega) (fun j d hd=>by
       have:=hv (j+1) d (by rw[← hd];congr 1;omega);simpa using this) (by simpa using hl) (fun u v hu=>by
       by_cases e:u=t
       · subst e;have hlt':u<env.length:=by have:=(qLa.1 hu).1;simpa using this
         rw[List.getElem?_set_self hlt']at hu;cases hu;have:(tmps.setIfInBounds u c).getD u undef=c:=by
          have:u<tmps.size:=by omega
          simp[this]
         rw[this];exact hnew
       · rw[List.getElem?_set_ne (Ne.symm e)]at hu;have:(tmps.setIfInBounds t c).getD u undef=tmps.getD u undef:=by simp[qAb,qAe (Ne.symm e)]
         rw[this];exact he u v hu)
      refine⟨by simp[g1],by simpa using g2,by simpa using g3,g4,fun u hu=>?_⟩;simp only[List.mem_cons,not_or]at hu;refine(g5 u hu.2).trans ?_;simp[qAb,qAe (Ne.symm hu.1)]
  | [],_::_,vs,i,env,env',cs,tmps,hs,hc,hi,hv,hl,he=>by simp[E5]at hs
  | _::_,[],vs,i,env,env',cs,tmps,hs,hc,hi,hv,hl,he=>by simp[E5]at hs
end Go.Skm
namespace Go.Skm
open Go.RowKit
section
variable {w0:Base} {Pr M0 M:Nat→Prop} {β:Nat→Option (Nat × Nat)} {st:St} {a:Act} {w:World}
theorem Lj (r:Rel w0 Pr M0 M β st a w) (F:Fp) (c:Code):Rel w0 Pr M0 M β (bQ F c st) a w∧lX st.heap (bQ F c st).heap∧∀ b,mQ β (bQ F c st).heap b→mQ β st.heap b:=by
 unfold Skm.bQ;split
 · exact⟨r,fun s _ b h=>⟨b,h,Like.refl _⟩,fun _ h=>h⟩
 · split
   · exact⟨r,fun s _ b h=>⟨b,h,Like.refl _⟩,fun _ h=>h⟩
   · rename_i live sites _;have r1:=r.abd (env:=xq live 0 st.env) (AL _ _) (fun t v h=>GL _ _ _ _ h);exact⟨r1.strike _ (fun b h=>h) fun b h=>.inl h,BG _ _,fun b h=>Le (st:={ st with env:=xq live 0 st.env }) h⟩
end
def EP (cx:Cx) (a':Act) (Ln:List (Nat × Obj)) (O1:List Nat) (l:Nat) (W1:World) (st:St) (O K:Nat→Prop) (W:World) (lp:Loop):Prop :=
 ∃ M β,Rel cx.w0 cx.Pr cx.M0 M β st a' W∧(∀ s,ah≤s→β s=cx.OQ s)∧lX cx.hp0 st.heap∧jK cx.w0.gl cx.w0.drawn W.drawn∧Fix cx M β st.heap a' W Ln O1 ∧
  (W.heap[l]?=some (.loop lp)∧¬ M l∧¬ mQ β st.heap l∧(∀ p∈Ln,p.1≠l)∧cx.w0.heap.size≤l∧W1.heap.size≤W.heap.size)∧(∀ b,O b↔(mQ β st.heap b∨b=l)) ∧
  ((∀ b,M b→b<W1.heap.size∨K b)∧(∀ p∈Ln,p.1<W1.heap.size)∧l<W1.heap.size∧∀ b,K b→b<W.heap.size)
section
variable {cx:Cx} {a':Act} {Ln:List (Nat × Obj)} {O1:List Nat} {l:Nat} {W1 W W':World} {st:St} {O K:Nat→Prop} {lp:Loop}
theorem Rel.mV {w0:Base} {Pr M0 M:Nat→Prop} {β:Nat→Option (Nat × Nat)} {a:Act} {w:World} (r:Rel w0 Pr M0 M β st a w) {b:Nat} (h:mQ β st.heap b):¬ M b∧b<w.heap.size∧(w0.heap.size≤b∨Pr b):=by obtain⟨s,o,hs,hb⟩:=h;obtain⟨g1,g2,g3,_⟩:=r.own s b o hs hb;exact⟨g1,g2,g3⟩
theorem EP.lt (i:EP cx a' Ln O1 l W1 st O K W lp):∀ b,O b→b<W.heap.size:=by
 obtain⟨M,β,r,e1,e2,e3,fx,⟨h1,h2,h3,h4,h5,h6⟩,hO,hKK⟩:=i;intro b hb;rcases(hO b).1 hb with h | rfl
 · exact(r.mV h).2.1
 · exact(qAa.1 h1).1
theorem EP.seen (i:EP cx a' Ln O1 l W1 st O K W lp):∀ b,K b→b<W.heap.size:=by obtain⟨M,β,r,e1,e2,e3,fx,_,hO,_,_,_,h⟩:=i;exact h
theorem EP.bears {S:Nat→Prop} (i:EP cx a' Ln O1 l W1 st O K W lp) (g:Turns cx.w0.gl S W W') (hS:∀ b,S b→W1.heap.size≤b∧¬ O b∧¬ K b):EP cx a' Ln O1 l W1 st O K W' lp:=by
 obtain⟨M,β,r,e1,e2,e3,fx,⟨h1,h2,h3,h4,h5,h6⟩,hO,hKK⟩:=i;obtain⟨n1,n2,n3,n4⟩:=hKK;have hk:∀ b,b<W.heap.size→¬ S b→W'.heap[b]?=W.heap[b]?:=fun b hb hs=>g.keep b hb hs;have hold:∀ b,b<W1.heap.size→¬ S b:=fun b hb hs=>by have:=(hS b hs).1;omega
 have hown:∀ b,O b→¬ S b:=fun b hb hs=>(hS b hs).2.1 hb;have hM:∀ b,M b→¬ S b:=fun b hb hs=>(n1 b hb).elim (fun h=>hold b h hs) fun h=>(hS b hs).2.2 h;have hl:l<W.heap.size:=(qAa.1 h1).1;have hgs:=g.size;have hrs:=r.size
 refine⟨M,β,r.to rfl (fun b hb=>⟨hb,hk b (r.gU b hb) (hM b hb)⟩) (fun s b o hs hb=>?_) (fun b hb=>Nat.lt_of_lt_of_le (r.gU b hb) hgs) r.lY r.tu (fun b hb hp=>?_) (fun b n hb hp hr=>?_) (Nat.le_trans r.size hgs) (g.os.trans r.os) (g.tape.trans r.tape) (g.output.trans r.output),
  e1,e2,e3.trans g.drawn,fx.less (fun p hp=>hk p.1 (qAa.1 (fx.lies p hp).1).1 (hold _ (n2 p hp))) fun _ h=>h,⟨(hk l hl (hold l n3)).trans h1,h2,h3,h4,h5,Nat.le_trans h6 hgs⟩,hO,n1,n2,n3,fun b hb=>Nat.lt_of_lt_of_le (n4 b hb) hgs⟩
 · obtain⟨g1,g2,g3⟩:=r.own s b o hs hb;exact⟨hk b g2 (hown b ((hO b).2 (.inl ⟨s,o,hs,hb⟩))),g1,Nat.lt_of_lt_of_le g2 hgs,g3⟩
 · rw[hk b (by omega) (hold b (by omega))];exact r.keep b hb hp
 · exact(r.room b n hb hp hr).of_block (hk b (by have:=cx.w0.le';omega) (hold b (by have:=cx.w0.le';omega)))
theorem EP.bQ (i:EP cx a' Ln O1 l W1 st O K W lp) (F:Fp) (c:Code):∃ O',EP cx a' Ln O1 l W1 (Skm.bQ F c st) O' K W lp∧∀ b,O' b→O b:=by obtain⟨M,β,r,e1,e2,e3,fx,⟨h1,h2,h3,h4,h5,h6⟩,hO,hKK⟩:=i;obtain⟨r',a2,ho⟩:=Lj r F c;exact⟨fun b=>mQ β (Skm.bQ F c st).heap b∨b=l,⟨M,β,r',e1,e2.trans a2,e3,fx.less (fun _ _=>rfl) ho,⟨h1,h2,fun h=>h3 (ho l h),h4,h5,h6⟩,fun b=>Iff.rfl,hKK⟩,fun b hb=>(hO b).2 (hb.imp (ho b) id)⟩
theorem EP.close (i:EP cx a' Ln O1 l W1 st O K W lp) (o:Obj):Inv cx st a' (W.putObj l o):=by
 obtain⟨M,β,r,e1,e2,e3,fx,⟨h1,h2,h3,h4,h5,h6⟩,hO,hKK⟩:=i;have hk:∀ b,b≠l→(W.putObj l o).heap[b]?=W.heap[b]?:=fun b hb=>World.putObj_heap_other hb;have hsz:(W.putObj l o).heap.size=W.heap.size:=World.putObj_size;have hrs:=r.size
 refine⟨M,β,Ln,O1,r.to rfl (fun b hb=>⟨hb,hk b fun e=>h2 (e▸hb)⟩) (fun s b o' hs hb=>?_) (fun b hb=>by rw[hsz];exact r.gU b hb) r.lY r.tu (fun b hb hp=>?_) (fun b n hb hp hr=>?_) (by rw[hsz];exact r.size) r.os r.tape r.output,
  e1,e2,e3,fx.less (fun p hp=>hk p.1 (h4 p hp)) fun _ h=>h⟩
 · obtain⟨g1,g2,g3⟩:=r.own s b o' hs hb;exact⟨hk b fun e=>h3 (e▸⟨s,o',hs,hb⟩),g1,by rw[hsz];exact g2,g3⟩
 · rw[hk b (by omega)];exact r.keep b hb hp
 · exact(r.room b n hb hp hr).of_block (hk b (by have:=cx.w0.le';omega))
structure agS (cx Jk:Cx) (M:Nat→Prop) (a':Act) (Ln:List (Nat × Obj)) (ws:List Nat) (l:Nat) (W:World) (O:Nat→Prop):Prop where
 n0:Jk.w0.n0=cx.w0.n0
 gl:Jk.w0.gl=cx.w0.gl
 turns:Turns cx.w0.gl O W Jk.w0.wd
 pr:∀ b,Jk.Pr b→O b∨W.heap.size≤b
 lY:∀ b,Jk.M0 b→cx.M0 b∨(cx.w0.n0≤b∧(cx.w0.heap.size≤b∨cx.Pr b))
 room:∀ b n,b<cx.w0.n0→O b→Room W b n→Room Jk.w0.wd b n
 tu:∀ b,M b→Jk.M0 b
 OQ:Jk.OQ=cx.OQ
 hp0:Jk.hp0=cx.hp0
 wr:Jk.Wr=fun t=>t∈ws
 size:Jk.t0.size=a'.tmps.size
 t0:∀ t,t ∉ ws→Jk.t0.getD t undef=a'.tmps.getD t undef
 L0:∀ p∈Ln,p∈Jk.L0
theorem EP.round {M : Nat → Prop} {β : Nat → Option (Nat × Nat)} (r : Rel cx.w0 cx.Pr cx.M0 M β st a' W) (fx : Fix cx M β st.heap a' W Ln O1) (hcd : jK cx.w0.gl cx.w0.drawn W.drawn) (h4 : ∀ p ∈ Ln,p.1 ≠ l) (h5 : cx.w0.heap.size ≤ l) (h6 : W1.heap.size ≤ W.heap.size)
    (hO:∀ b,O b↔(mQ β st.heap b∨b=l)) {Jk:Cx} {ws:List Nat} (sb:agS cx Jk M a' Ln ws l W O) {lb:Obj} (hlb:(l,lb)∈Jk.L0) {st3:St} {a3:Act} {W3:World} (i:Inv Jk st3 a3 W3) (Xo:Loop)
    (hL1:∀ p∈Ln,p.1<W1.heap.size) (hl1:l<W1.heap.size) {K':Nat→Prop} (hK1:∀ b,Jk.M0 b→b<W1.heap.size∨K' b) (hK2:∀ b,O b→K' b) (hK3:∀ b,W.heap.size≤b→b<W3.heap.size→K' b) (hK4:∀ b,K' b→b<W3.heap.size) :
    W3.heap[l]?=some lb∧∃ O',EP cx a' Ln O1 l W1 (back ws st3) O' K' (W3.putObj l (.loop Xo)) Xo∧(∀ b,O' b→O b∨W.heap.size≤b)∧Turns cx.w0.gl O W (W3.putObj l (.loop Xo)):=by
  obtain⟨M3,β3,L3,ds3,r3,i1,i2,i3,f3⟩:=i;obtain⟨k1,k2,k3⟩:=f3.lies _ (f3.sub _ hlb);have hl3:l<W3.heap.size:=(qAa.1 k1).1;have hk:∀ b,b≠l→(W3.putObj l (.loop Xo)).heap[b]?=W3.heap[b]?:=fun b hb=>World.putObj_heap_other hb;have hsz:(W3.putObj l (.loop Xo)).heap.size=W3.heap.size:=World.putObj_size;have hrs:=r.size;have hts:=sb.turns.size;have hr3:=r3.size;have as8:W.heap.size≤Jk.w0.heap.size:=hts;have ht3:Turns cx.w0.gl O W W3:=sb.turns.trans (sb.gl▸r3.turns i3) fun b hb hp=>by
   rcases sb.pr b hp with h | h
   · exact h
   · omega
  have htu:Turns cx.w0.gl O W (W3.putObj l (.loop Xo)):=ht3.trans (Turns.putObj W3 l _) fun b _ hb=>(hO b).2 (.inr hb);have hown:∀ b,(Jk.w0.heap.size≤b∨Jk.Pr b)→O b∨W.heap.size≤b:=fun b h=>by
   rcases h with h | h
   · right;omega
   · exact sb.pr b h
  have hO':∀ b,O b→cx.w0.heap.size≤b∨cx.Pr b:=fun b h=>by
   rcases(hO b).1 h with h | rfl
   · exact(r.mV h).2.2
   · exact .inl h5
  have hup:∀ b,(Jk.w0.heap.size≤b∨Jk.Pr b)→cx.w0.heap.size≤b∨cx.Pr b:=fun b h=>by
   rcases hown b h with h | h
   · exact hO' b h
   · left;omega
  have rr:Rel cx.w0 cx.Pr cx.M0 M3 β3 st3 a3 (W3.putObj l (.loop Xo)):=by
   refine r3.to sb.gl.symm (fun b hb=>⟨hb,hk b fun e=>k3 (e▸hb)⟩) (fun s b o hs hb=>?_) (fun b hb=>by rw[hsz];exact r3.gU b hb) (fun b hb=>?_) (fun b hb=>r3.tu b (sb.tu b (r.tu b hb))) (fun b hb hp=>?_) (fun b n hb hp hr=>?_) (by rw[hsz];omega)
    (ht3.os.trans r.os) (ht3.tape.trans r.tape) (ht3.output.trans r.output)
   · obtain⟨g1,g2,g3,g4⟩:=r3.own s b o hs hb;exact⟨hk b fun e=>k2 (e▸⟨s,o,hs,hb⟩),g1,by rw[hsz];exact g2,hup b g3,by rw[← sb.n0];exact g4⟩
   · rcases r3.lY b hb with h | ⟨h,h'⟩
     · exact sb.lY b h
     · exact .inr ⟨by rw[← sb.n0];exact h,hup b h'⟩
   · have hno : ¬ O b := fun h => by
       rcases hO' b h with h | h
       · omega
       · exact hp h
     rw[hk b (by omega),ht3.keep b (by omega) hno];exact r.keep b hb hp
   · have h0:=r.room b n hb hp hr;have hle:=cx.w0.le';have h1:Room Jk.w0.wd b n:=by
      by_cases ho:O b
      · exact sb.room b n hb ho h0
      · exact h0.of_block (sb.turns.keep b (by omega) ho)
     have h2:Room W3 b n:=by
      by_cases hp':Jk.Pr b
      · exact r3.room b n (by rw[sb.n0];exact hb) hp' h1
      · exact h1.of_block (r3.keep b (by omega) hp')
     exact h2.of_block (hk b (by omega))
  have hsize:a3.tmps.size=a'.tmps.size:=f3.size.trans sb.size;have rs:=rr.slots (a':=a') (env:=zx ws 0 st3.env) (by rw[GR,← hsize];exact rr.oK) fun t v hv=>by
   rcases Oa _ _ _ _ hv with rfl | ⟨h1,h2⟩
   · exact .undef _
   · have h2:t ∉ ws:=by simpa using h2
     have e:a3.tmps.getD t undef=a'.tmps.getD t undef:=(f3.tmps t (by rw[sb.wr];exact h2)).trans (sb.t0 t h2);rw[← e];exact rr.env t v h1
  refine⟨k1,fun b=>mQ β3 st3.heap b∨b=l,⟨M3,β3,rs,fun s hs=>(i1 s hs).trans (by rw[sb.OQ]),by rw[← sb.hp0];exact i2,hcd.trans ht3.drawn,⟨fun p hp=>?_,fx.sub,fx.marks,fx.nodup,fx.mark,fx.rd,fx.size,fx.tmps,fx.one,fx.yl,fx.nml⟩,
   ⟨World.putObj_heap_same hl3,k3,k2,h4,h5,Nat.le_trans h6 (by rw[hsz];omega)⟩,fun b=>Iff.rfl,fun b hb=>?_,hL1,hl1,fun b hb=>by rw[hsz];exact hK4 b hb⟩,fun b hb=>?_,htu⟩
  · obtain⟨g1,g2,g3⟩:=f3.lies p (f3.sub p (sb.L0 p hp));exact⟨(hk p.1 (h4 p hp)).trans g1,g2,g3⟩
  · rcases r3.lY b hb with h | ⟨_,h⟩
    · exact hK1 b h
    · rcases hown b h with h | h
      · exact .inr (hK2 b h)
      · exact .inr (hK3 b h (r3.gU b hb))
  · rcases hb with h | rfl
    · exact hown b (r3.mV h).2.2
    · exact .inl ((hO _).2 (.inr rfl))
end
end Go.Skm
namespace Go.Skm
open Go.RowKit
section
variable {T:Tab} {C:aS} {F:FI} {n:Nat} {α:Type}
theorem WB:∀ c:Code,oz c=true→∀ (st:St) (k k':Ex→St→Option α),k .normal=k' .normal→bW T C F n c st k=bW T C F n c st k'
 | .skip,_,st,k,k',h=>by simp only[bW,h]
 | .region id ops draw,_,st,k,k',h=>by cases draw<;>simp only[bW,h]
 | .seq y z,hp,st,k,k',h=>by simp only[oz,qBa]at hp;rw[BK,BK];refine WB y hp.1 st _ _ ?_;funext st';exact WB z hp.2 _ k k' h
 | .cond ..,hp,_,_,_,_ | .block ..,hp,_,_,_,_ | .loop ..,hp,_,_,_,_ | .exit ..,hp,_,_,_,_ | .ret,hp,_,_,_,_ | .label ..,hp,_,_,_,_
 | .rangeFunc ..,hp,_,_,_,_ | .scope ..,hp,_,_,_,_ | .goto ..,hp,_,_,_,_ | .refuse ..,hp,_,_,_,_=>by simp[oz]at hp
def AO (T:Tab) (C:aS) (F:FI) (n:Nat) (y z:Code) (st:St) (k:Ex→St→Option α):Option α:=bW T C F n y st (aac T C F n z k)
def nM (ps:Array Tmp) (y z:Code):List Nat:=ps.toList++(iW y++iW z)
theorem xB {f : Operand} {ps : Array Tmp} {y z : Code} {st : St} {k : Ex → St → Option α} {x : α} (h : bW T C F n (.rangeFunc f ps y z) st k = some x) :
    ∃ g caps fi r,dJ st.env f=.p (.fn g caps)∧dN T.funcs g=some fi∧oz y=true∧kD fi caps.length=true∧C g (.vN::caps.map .p) [.log true []]=some r ∧
     lC (bQ F.cfg (.seq y z)) fi.cfg.yk ps.toList (nM ps y z) (AO T C F n y z) (pV r.2) (bQ F.cfg (.seq y z) st) k=some x:=by
  simp only[bW]at h;split at h
  · rename_i g caps hv;split at h
    · rename_i fi hf hp;cases hb:kD fi caps.length with
      | false=>rw[hb]at h;cases h
      | true =>
       rw[hb]at h;simp only[cond_true]at h;split at h
       · rename_i r hr;exact⟨g,caps,fi,r,hv,hf,hp,hb,hr,h⟩
       · cases h
    · cases h
  · cases h
theorem TR {ps:Array Tmp} {cs:Array Value} {t:Array Value}:(ps.zip cs).foldl (fun tmps (t,a)=>tmps.setIfInBounds t a) t=(ps.toList.zip cs.toList).foldl (fun tmps (t,a)=>tmps.setIfInBounds t a) t:=by rw[← Array.foldl_toList,Array.toList_zip]
end
section
variable {cx:Cx} {a':Act} {Ln:List (Nat × Obj)} {O1:List Nat} {l:Nat} {W1 W W':World} {st:St} {O:Nat→Prop} {lp:Loop} {P:Program}
def cx1 (cx:Cx) (le:cx.w0.n0≤W.heap.size) (O M1:Nat→Prop) (ws:List Nat) (tmps:Array Value) (l:Nat) (L0:List (Nat × Obj)):Cx :=
 { w0:=⟨W,cx.w0.n0,le,cx.w0.gl⟩,Pr:=O,M0:=M1,OQ:=cx.OQ,hp0:=cx.hp0,Wr:=fun t=>t∈ws,t0:=tmps,rd:=some l,L0:=L0,nm:=cx.nm }
theorem Inv.busy {E8 : Cx} {st1 : St} {a1 : Act} {w1 : World} {lo : Obj} (i : Inv E8 st1 a1 w1) (hl : (l,lo) ∈ E8.L0) (ho : ∀ ds,lo ≠ .deferred ds) (hrd : E8.rd = some l) (lp : Loop) (hLn : ∀ p ∈ Ln,p ∈ E8.L0 ∧ p.1 ≠ l) (ws : List Nat) (_hw : E8.Wr = fun t => t ∈ ws) (hpr : E8.Pr l) (hlt : l < E8.w0.heap.size) :
    w1.heap[l]?=some lo∧∃ YD:Cx,Inv YD st1 a1 (w1.putObj l (.loop lp))∧YD.w0.n0=E8.w0.n0∧YD.w0.gl=E8.w0.gl∧YD.w0.wd=w1.putObj l (.loop lp)∧Turns E8.w0.gl E8.Pr E8.w0.wd YD.w0.wd∧(∀ b,YD.Pr b→E8.w0.heap.size≤b∨E8.Pr b)∧(∀ b,YD.M0 b→E8.M0 b∨(E8.w0.n0≤b∧(E8.w0.heap.size≤b∨E8.Pr b))) ∧
     (∀ b n,b<E8.w0.n0→E8.Pr b→b≠l→Room E8.w0.wd b n→Room YD.w0.wd b n)∧(∀ b,E8.M0 b→YD.M0 b)∧YD.OQ=E8.OQ∧YD.hp0=E8.hp0∧YD.Wr=E8.Wr∧YD.t0=E8.t0∧YD.rd=some l∧(l,Obj.loop lp)∈YD.L0∧(∀ p∈Ln,p∈YD.L0)∧(YD.Ys=fun _=>False):=by
  obtain⟨M,β,L,ds,r,i1,i2,i3,fx⟩:=i;obtain⟨k1,k2,k3⟩:=fx.lies _ (fx.sub _ hl);refine⟨k1,?_⟩;have hl1:l<w1.heap.size:=(qAa.1 k1).1;have hk:∀ b,b≠l→(w1.putObj l (.loop lp)).heap[b]?=w1.heap[b]?:=fun b hb=>World.putObj_heap_other hb;have hsz:(w1.putObj l (.loop lp)).heap.size=w1.heap.size:=World.putObj_size;have hrs:=r.size;have hn:=E8.w0.le';have ht:Turns E8.w0.gl E8.Pr E8.w0.wd (w1.putObj l (.loop lp)):=(r.turns i3).trans (Turns.putObj w1 l _) fun b _ hb=>by rw[show b=l from hb];exact hpr
  let L2:List (Nat × Obj):=(l,.loop lp)::L.filter fun p=>p.1 != l;have hmem:∀ p,p∈L→p.1≠l→p∈L2:=fun p hp hne=>List.mem_cons_of_mem _ (List.mem_filter.2 ⟨hp,by simpa using hne⟩);refine⟨{ w0:=⟨w1.putObj l (.loop lp),E8.w0.n0,by rw[hsz];omega,E8.w0.gl⟩,Pr:=fun b=>mQ β st1.heap b∨b=l,M0:=M,OQ:=E8.OQ,hp0:=E8.hp0,Wr:=E8.Wr,t0:=E8.t0,rd:=some l,L0:=L2,nm:=E8.nm },?_,rfl,rfl,rfl,ht,fun b hb=>?_,r.lY,fun b n hb hp hne hr=>(r.room b n hb hp hr).of_block (hk b hne),r.tu,rfl,rfl,rfl,rfl,rfl,by simp[L2],fun p hp=>?_,rfl⟩
  · refine⟨M,β,L2,ds,r.to rfl (fun b hb=>⟨hb,hk b fun e=>k3 (e▸hb)⟩) (fun s b o hs hb=>?_) (fun b hb=>by rw[hsz];exact r.gU b hb) (fun b hb=>.inl hb) (fun b hb=>hb) (fun _ _ _=>rfl) (fun _ _ _ _ h=>h) (Nat.le_refl _) rfl rfl rfl,i1,i2,.refl _ _,⟨fun p hp=>?_,fun p hp=>hp,fx.marks,fx.nodup,fun D hD=>?_,fun l' hl'=>?_,fx.size,fx.tmps,fx.one,fun _ h=>h.elim,by show E8.nm≤(w1.putObj l (.loop lp)).heap.size;rw[hsz];have:=fx.nml;omega⟩⟩
    · obtain⟨g1,g2,g3,g4⟩:=r.own s b o hs hb;exact⟨hk b fun e=>k2 (e▸⟨s,o,hs,hb⟩),g1,by rw[hsz];exact g2,.inr (.inl ⟨s,o,hs,hb⟩),g4⟩
    · rcases List.mem_cons.1 hp with rfl | hp
      · exact⟨World.putObj_heap_same hl1,k2,k3⟩
      · obtain⟨hp1,hp2⟩:=List.mem_filter.1 hp;obtain⟨g1,g2,g3⟩:=fx.lies p hp1;exact⟨(hk p.1 (by simpa using hp2)).trans g1,g2,g3⟩
    · obtain⟨g1,g2,_⟩:=fx.mark D hD;suffices hne:D≠l from⟨hmem _ g1 hne,g2,.inl (hmem _ g1 hne)⟩;intro e;have:=(fx.lies _ g1).1;rw[e]at this;rw[show w1.heap[l]?=some lo from k1]at this;exact ho _ (by cases this;rfl)
    · cases hl';exact⟨lp,by simp[L2]⟩
  · rcases hb with h | rfl
    · exact(r.mV h).2.2
    · exact .inr hpr
  · obtain⟨h1,h2⟩:=hLn p hp;exact hmem p (fx.sub p h1) h2
end
end Go.Skm
namespace Go.Skm
open Go.RowKit
section
variable {P:Program} {T:Tab} {C:aS} {F:FI} {n m:Nat} {α:Type} {cx:Cx} {st:St} {a:Act} {w:World}
theorem oH:∀ {c:Code} {o:Oper} {d:Nat},o∈opsOf c→o.dst=some d→d∈iW c
 | .region id ops draw,o,d,ho,hd=>by simp only[iW,List.mem_filterMap];exact⟨o,ho,hd⟩
 | .seq a b,o,d,ho,hd=>by simp only[opsOf,List.mem_append]at ho;simp only[iW,List.mem_append];exact ho.imp (fun h=>oH h hd) fun h=>oH h hd
 | .cond _ a b,o,d,ho,hd=>by simp only[opsOf,List.mem_append]at ho;simp only[iW,List.mem_append];exact ho.imp (fun h=>oH h hd) fun h=>oH h hd
 | .block _ c,o,d,ho,hd=>by simp only[opsOf]at ho;simp only[iW];exact oH ho hd
 | .loop c,o,d,ho,hd=>by simp only[opsOf]at ho;simp only[iW];exact oH ho hd
 | .scope c,o,d,ho,hd=>by simp only[opsOf]at ho;simp only[iW];exact oH ho hd
 | .rangeFunc _ ps a b,o,d,ho,hd=>by simp only[opsOf,List.mem_append]at ho;simp only[iW,List.mem_append];exact .inr (ho.imp (fun h=>oH h hd) fun h=>oH h hd)
 | .skip,o,d,ho,_ | .exit _,o,d,ho,_ | .ret,o,d,ho,_ | .label _,o,d,ho,_ | .goto ..,o,d,ho,_ | .refuse ..,o,d,ho,_=>by simp[opsOf]at ho
theorem aae {M : Nat → Prop} {β : Nat → Option (Nat × Nat)} {L : List (Nat × Obj)} {ds : List Nat} (r : Rel cx.w0 cx.Pr cx.M0 M β st a w) (i1 : ∀ s,ah ≤ s → β s = cx.OQ s) (i2 : lX cx.hp0 st.heap) (i3 : jK cx.w0.gl cx.w0.drawn w.drawn) (fx : Fix cx M β st.heap a w L ds) (hnl : Ai cx.hp0) (fn : FuncId) (ps : Array Tmp) (y z : Code) :
    ∃ (l:Nat) (mark:List Deferred) (W1:World) (dB:Nat) (Ln:List (Nat × Obj)) (O1:List Nat),(Instr.enterLoop fn a.tmps ps y z cx.rd).run P w=.ok (l,mark) W1∧rV cx.w0.gl w W1 ∧
     ∀ (F:Fp) (c:Code),∃ O,EP cx { a with defers:=mark++a.defers } Ln O1 l W1 (bQ F c st) O (fun _=>False) W1 { state:=.ready,pending:=none,fn,tmps:=a.tmps,params:=ps,assign:=y,body:=z,defers:=dB }∧(∀ b,M b→¬ O b)∧∀ p∈Ln,p.1<W1.heap.size∧¬ M p.1:=by
  have hrs:=r.size;have hn:=cx.w0.le'
  have fin : ∀ (W1 : World) (l : Nat) (mark : List Deferred) (Ln : List (Nat × Obj)) (O1 : List Nat) (lp : Loop),rV cx.w0.gl w W1 → w.heap.size ≤ l → W1.heap[l]? = some (.loop lp) → (∀ p ∈ Ln,W1.heap[p.1]? = some p.2 ∧ p.1 ≠ l ∧ (p ∈ L ∨ w.heap.size ≤ p.1)) → (∀ p ∈ L,p ∈ Ln) →
      mark++a.defers=O1.map BX→O1.Nodup→(∀ D∈O1,(D,Obj.deferred (some []))∈Ln∧cx.nm≤D∧((D,Obj.deferred (some []))∈cx.L0∨cx.w0.heap.size≤D))→∀ (F:Fp) (c:Code),∃ O,EP cx { a with defers:=mark++a.defers } Ln O1 l W1 (bQ F c st) O (fun _=>False) W1 lp∧(∀ b,M b→¬ O b)∧∀ p∈Ln,p.1<W1.heap.size∧¬ M p.1:=by
    intro W1 l mark Ln O1 lp g hl hlp hLn hsub hm hnd hmk F c;have hgs:=g.size;have hk:∀ b,b<w.heap.size→W1.heap[b]?=w.heap[b]?:=fun b hb=>g.keep b hb fun h=>h;have rr:Rel cx.w0 cx.Pr cx.M0 M β st a W1:=by
     refine r.to rfl (fun b hb=>⟨hb,hk b (r.gU b hb)⟩) (fun s b o hs hb=>?_) (fun b hb=>Nat.lt_of_lt_of_le (r.gU b hb) hgs) r.lY r.tu (fun b hb hp=>?_) (fun b n hb hp hr=>?_) (Nat.le_trans r.size hgs) (g.os.trans r.os) (g.tape.trans r.tape) (g.output.trans r.output)
     · obtain⟨g1,g2,g3⟩:=r.own s b o hs hb;exact⟨hk b g2,g1,Nat.lt_of_lt_of_le g2 hgs,g3⟩
     · rw[hk b (by omega)];exact r.keep b hb hp
     · exact(r.room b n hb hp hr).of_block (hk b (by omega))
    have ra:=rr.slots (a':={ a with defers:=mark++a.defers }) (env:=st.env) rr.oK rr.env;obtain⟨rf,af,hof⟩:=Lj ra F c;have YX:¬ M l:=fun h=>by have:=r.gU l h;omega
    have hOl:¬ mQ β st.heap l:=fun h=>by have:=(r.mV h).2.1;omega
    refine⟨fun b=>mQ β (bQ F c st).heap b∨b=l,⟨M,β,rf,i1,i2.trans af,i3.trans g.drawn,⟨fun p hp=>?_,fun p hp=>hsub p (fx.sub p hp),hm,hnd,hmk,fun l' hl'=>?_,fx.size,fx.tmps,fun h=>absurd hnl h,fx.yl,fx.nml⟩,⟨hlp,YX,fun h=>hOl (hof l h),fun p hp=>(hLn p hp).2.1,by omega,Nat.le_refl _⟩,fun b=>Iff.rfl,fun b hb=>.inl (by have:=r.gU b hb;omega),fun p hp=>(qAa.1 (hLn p hp).1).1,(qAa.1 hlp).1,fun _ h=>h.elim⟩,fun b hb ho=>?_,fun p hp=>?_⟩
    · obtain⟨g1,g2,g3⟩:=hLn p hp;rcases g3 with g3 | g3
      · obtain⟨k1,k2,k3⟩:=fx.lies p g3;exact⟨g1,fun h=>k2 (hof _ h),k3⟩
      · exact⟨g1,fun h=>by have:=(r.mV (hof _ h)).2.1;omega,fun h=>by have:=r.gU _ h;omega⟩
    · obtain⟨r0,hr0⟩:=fx.rd l' hl';exact⟨r0,hsub _ hr0⟩
    · rcases ho with h | rfl
      · exact(r.mV (hof b h)).1 hb
      · exact YX hb
    · obtain⟨g1,g2,g3⟩:=hLn p hp;refine⟨(qAa.1 g1).1,fun h=>?_⟩;rcases g3 with g3 | g3
      · exact(fx.lies p g3).2.2 h
      · have:=r.gU _ h;omega
  have hlt:∀ p∈L,p.1<w.heap.size:=fun p hp=>(qAa.1 (fx.lies p hp).1).1;cases hrd:cx.rd with
  | none =>
   refine⟨_,_,_,w.heap.size,(w.heap.size,.deferred (some []))::L,w.heap.size::ds,run_enterLoop_outer fn a.tmps ps y z,(rV.alloc w _).trans (rV.alloc _ _) (fun _ _ h=>h),?_⟩;refine fin _ _ _ _ _ _ ((rV.alloc w _).trans (rV.alloc _ _) (fun _ _ h=>h)) (by omega) ?_ (fun p hp=>?_) (fun p hp=>List.mem_cons_of_mem _ hp) (by rw[fx.marks];rfl) ?_ fun D hD=>?_
   · have:=World.alloc_heap_new (w.alloc (.deferred (some []))) (.loop { state:=.ready,pending:=none,fn,tmps:=a.tmps,params:=ps,assign:=y,body:=z,defers:=w.heap.size });rwa[World.size_alloc]at this
   · rcases List.mem_cons.1 hp with rfl | hp
     · exact⟨(Below.heap_alloc _ _ _ (by simp)).trans (World.alloc_heap_new w _),by simp,.inr (Nat.le_refl _)⟩
     · have:=hlt p hp;refine⟨?_,by omega,.inl hp⟩;rw[Below.heap_alloc _ _ _ (by simp;omega),Below.heap_alloc _ _ _ this];exact(fx.lies p hp).1
   · refine List.nodup_cons.2 ⟨fun h=>?_,fx.nodup⟩;have:=hlt _ (fx.mark _ h).1;exact absurd this (Nat.lt_irrefl _)
   · rcases List.mem_cons.1 hD with rfl | hD
     · exact⟨by simp,by have:=fx.nml;omega,.inr hrs⟩
     · exact⟨List.mem_cons_of_mem _ (fx.mark D hD).1,(fx.mark D hD).2⟩
  | some l0 =>obtain⟨r0,hr0⟩:=fx.rd l0 hrd;refine⟨_,_,_,r0.defers,L,ds,run_enterLoop_inner (fx.lies _ hr0).1 fn a.tmps ps y z,rV.alloc w _,?_⟩;refine fin _ _ _ _ _ _ (rV.alloc w _) (Nat.le_refl _) (World.alloc_heap_new w _) (fun p hp=>?_) (fun p hp=>hp) (by rw[fx.marks];rfl) fx.nodup fx.mark;have:=hlt p hp;exact⟨(Below.heap_alloc _ _ _ this).trans (fx.lies p hp).1,by omega,.inl hp⟩
def Ex.code:Ex→Code
 | .normal=>.skip
 | .exit id=>.exit id
 | .ret=>.ret
theorem Nh (ok : dZ P T) {gl : Option (List (Nat × Obj))} (hS : IW P T gl C) {x0 : α} {f : Operand} {ps : Array Tmp} {y z : Code}
    (hy:aad T C F n false P 0 (fun _:Ex→St→Option α=>True) (fun i:CxN gl=>i.1.rd) (fun i=>BI i.1) (fun i x st a w=>x=x0∧Inv i.1 st a w) y)
    (hz:aad T C F n false P 0 (fun _:Ex→St→Option α=>True) (fun i:CxN gl=>i.1.rd) (fun i=>BI i.1) (fun i x st a w=>x=x0∧Inv i.1 st a w) z) :
    aad T C F n false P 0 (fun _:Ex→St→Option α=>True) (fun i:CxN gl=>i.1.rd) (fun i=>BI i.1) (fun i x st a w=>x=x0∧Inv i.1 st a w) (.rangeFunc f ps y z):=by
  intro ⟨cx,hnl,hgl⟩ st a w k x Q _ h hd _ hw hi hQ;simp only at hw hi hQ ⊢;obtain⟨g,caps,fi,res,hv,hf,hpy,hpb,hcall,h⟩:=xB h;simp only[eU,qBa]at hd;obtain⟨hfun,hit⟩:=hS g fi caps res hf hpb hcall;obtain⟨hx0,M,β,L,ds,r,i1,i2,i3,fx⟩:=hi;subst hx0;have hev:=r.dJ f;rw[hv]at hev;obtain⟨lb,hlb,aoD,ajN⟩:∃ lb:Array Value,a.eval f=.func (.func g) #[] lb∧lb.size=caps.length∧∀ i c,caps[i]?=some c→VR w M c (lb.getD i undef):=by
   generalize a.eval f=c at hev;cases hev with
   | p _ _ hvr=>cases hvr with | fn _ _ vs hn hc=>exact⟨vs,rfl,hn,hc⟩
  have hbody:∃ c,fi.fn.body=some c:=by
   unfold kD at hpb;cases hb:fi.fn.body with
   | none=>rw[hb]at hpb;cases hpb
   | some c=>exact⟨c,rfl⟩
  refine wpIn_rangeFunc fun fn _=>?_;obtain⟨l,mark,W1,dB,Ln,O1,hrun,hg,hfin⟩:=aae (P:=P) r i1 i2 i3 fx hnl fn ps y z;obtain⟨O0,hI0,hMO,ajO⟩:=hfin F.cfg (.seq y z);refine⟨l,mark,W1,{ target:=.fn (.func g) lb,args:=#[.func (.yield l) #[] #[]] },W1,g,#[.func (.yield l) #[] #[]]++lb,W1,hrun,?_,fun _ _=>trivial,?_,xZ cx.rd,?_⟩
  · simp only[resolve,hlb];simp[go_sem]
  · simp only[invoke];exact D5 ok hf hbody _
  refine wG _ ?_;generalize hrec:({ state:=.ready,pending:=none,fn,tmps:=a.tmps,params:=ps,assign:=y,body:=z,defers:=dB }:Loop)=rec at hI0;generalize ha':({ a with defers:=mark++a.defers }:Act)=a' at hI0;have hat:a'.tmps=a.tmps:=by rw[← ha']
  let J:List PV→(Nat→Prop)→(Nat→Prop)→World→Prop:=fun r O K W=>∃ st,lC (bQ F.cfg (.seq y z)) fi.cfg.yk ps.toList (nM ps y z) (AO T C F n y z) r st k=some x∧EP cx a' Ln O1 l W1 st O K W rec;let Jx:(Nat→Prop)→(Nat→Prop)→World→Prop:=fun O K W=>∃ (ex:Ex) (st:St),k ex st=some x∧(ex=.ret∨∃ id,ex=.exit id)∧EP cx a' Ln O1 l W1 st O K W { rec with state:=.done,pending:=some ex.code };have hW1:cx.w0.n0≤W1.heap.size:=by have:=hg.size;have:=r.size;have:=cx.w0.le';omega
  refine Calls.mono (hit W1 M l lb J Jx O0 (fun p hp=>by rw[← hgl]at hp;exact⟨(r.glob p hp).1,(hg.keep _ (r.gU _ (r.glob p hp).1) fun h=>h).trans (r.glob p hp).2⟩) aoD (fun i c hc=>(ajN i c hc).mono fun b hb=>⟨hb,hg.keep b (r.gU b hb) fun h=>h⟩) (fun b hb=>⟨Nat.lt_of_lt_of_le (r.gU b hb) hg.size,hMO b hb⟩)
   (fun r O K W W' S ⟨st,h1,h2⟩ g hS=>⟨st,h1,h2.bears (hgl▸g) hS⟩) (fun O K W W' S ⟨ex,st,h1,h2,h3⟩ g hS=>⟨ex,st,h1,h2,h3.bears (hgl▸g) hS⟩) (fun r O K W ⟨st,h1,h2⟩ b hb=>hb.elim (h2.lt b) (h2.seen b)) ?_ ⟨_,h,hI0⟩) ?_
  · -- one round
    rintro vs xs O K W Mi aY ⟨st,h1,h2⟩ as9 hMi hcn hcv;clear h hI0 ajN i1 i2 i3 fx hv;simp only[lC]at h1;split at h1
    · cases h1
    rename_i env henv;rw[bU]at h1;obtain⟨M',β',r',e1,e2,e3,f',⟨k1,k2,k3,k4,k5,k6⟩,hO,nK1,nK2,nK3,nK4⟩:=h2;have hl:l<W.heap.size:=(qAa.1 k1).1;have aoF:=r'.size;have ab4:∀ b,O b→b<W.heap.size:=fun b hb=>by
     rcases(hO b).1 hb with h | rfl
     · exact(r'.mV h).2.1
     · exact hl
    let M1:Nat→Prop:=fun b=>M' b∨Mi b;have ajQ:∀ b,M1 b→¬ O b:=fun b hb ho=>by
     rcases hb with hb | hb
     · rcases(hO b).1 ho with h | rfl
       · exact(r'.mV h).1 hb
       · exact k2 hb
     · exact(hMi b hb).2.1 ho
    have hle:cx.w0.n0≤W.heap.size:=by have:=cx.w0.le';omega
    have r1:Rel ⟨W,cx.w0.n0,hle,cx.w0.gl⟩ O M1 M1 β' st a' W:=by
     refine r'.to rfl (fun b hb=>⟨.inl hb,rfl⟩) (fun s b o hs hb=>?_) (fun b hb=>?_) (fun b hb=>.inl hb) (fun b hb=>hb) (fun _ _ _=>rfl) (fun _ _ _ _ h=>h) (Nat.le_refl _) rfl rfl rfl
     · obtain⟨g1,g2,g3,g4⟩:=r'.own s b o hs hb;have ho:O b:=(hO b).2 (.inl ⟨s,o,hs,hb⟩);exact⟨rfl,fun hm=>ajQ b hm ho,g2,.inr ho,g4⟩
     · rcases hb with hb | hb
       · exact r'.gU b hb
       · exact(hMi b hb).1
    obtain⟨p1,p2,p3,p4,p5⟩:=YC (w:=W) (M:=M1) (β:=β') (h:=look st.heap) (cs:=aY.toList) (tmps:=a'.tmps) henv (by simp[hcn]) (Nat.zero_le _) (fun j c hc=>by
     have:=hcv j c (by simpa using hc);have e:aY.toList.getD j undef=aY.getD j undef:=by simp[qLb,qAb]
     rw[e];exact this.mono fun b hb=>⟨.inr hb,rfl⟩) r1.oK r1.env
    have hyl:=run_yield (P:=P) (args:=aY) k1 (by rw[← hrec];simpa using p1);rw[← TR]at p3 p4 p5;have etm:rec.tmps=a'.tmps:=by rw[← hrec,hat]
    have eps:rec.params=ps:=by rw[← hrec]
    rw[eps,etm]at hyl;generalize htm:(ps.zip aY).foldl (fun tmps (t,a)=>tmps.setIfInBounds t a) a'.tmps=tmps at p3 p4 p5 hyl;have eas:rec.assign=y:=by rw[← hrec]
    have ebo:rec.body=z:=by rw[← hrec]
    have est:rec.state=.ready:=by rw[← hrec]
    have epe:rec.pending=none:=by rw[← hrec]
    rw[eas,ebo]at hyl;refine⟨rec.fn,tmps,y,z,hyl,roundIn_of_wpIn trivial ?_⟩;let cA:Cx:=cx1 cx hle O M1 (nM ps y z) tmps l ((l,.loop rec)::Ln);have hIA:Inv cA { st with env:=env } { tmps:=tmps,defers:=[] } W:=by
     refine⟨M1,β',(l,.loop rec)::Ln,[],r1.slots (a':={ tmps:=tmps,defers:=[] }) (by rw[p2];show st.env.length≤tmps.size;rw[p3];exact r1.oK) p4,e1,e2,.refl _ _,⟨fun p hp=>?_,fun p hp=>hp,rfl,List.nodup_nil,fun D hD=>by simp at hD,fun l' hl'=>?_,rfl,fun _ _=>rfl,fun _=>rfl,fun _ h=>h.elim,Nat.le_trans f'.nml aoF⟩⟩
     · rcases List.mem_cons.1 hp with rfl | hp
       · exact⟨k1,k3,fun hm=>ajQ l hm ((hO l).2 (.inr rfl))⟩
       · obtain⟨g1,g2,g3⟩:=f'.lies p hp;exact⟨g1,g2,fun hm=>by
          rcases hm with hm | hm
          · exact g3 hm
          · -- what the giver holds is not what lies here
            rcases(hMi _ hm).2.2 with h | h
            · exact(ajO p hp).2 h
            · have:=(ajO p hp).1;omega⟩
     · cases hl';exact⟨rec,by simp⟩
    have hdst:(∀ o∈opsOf y,BI cA o)∧∀ o∈opsOf z,∀ d,o.dst=some d→d∈nM ps y z:=⟨fun o ho=>⟨fun d hd=>by have:=oH ho hd;show d∈nM ps y z;simp[nM,this],fun _ _ h=>h.elim⟩,fun o ho d hd=>by have:=oH ho hd;simp[nM,this]⟩;let kr:Ex→St→Option α:=sZ (bQ F.cfg (.seq y z)) (nM ps y z) (fun st=>lC (bQ F.cfg (.seq y z)) fi.cfg.yk ps.toList (nM ps y z) (AO T C F n y z) xs st k) k;let kn : Ex → St → Option α := fun ex st' => match ex with
        | .normal=>aac T C F n z kr .normal st'
        | _=>none
    have h1':bW T C F n y { st with env:=env } kn=some _:=(WB y hpy _ kn (aac T C F n z kr) rfl).trans h1;clear h1;refine hy ⟨cA,hnl,hgl⟩ _ _ W _ _ _ trivial h1' hd.1 (fun h=>by cases h) hdst.1 ⟨rfl,hIA⟩ ?_;intro ex x' st' a1 w1 hk1 ⟨hx1,hI1⟩;subst hx1;cases ex with
    | exit id=>cases hk1
    | ret=>cases hk1
    | normal =>
    have hk1:bW T C F n z (Skm.bQ F.cfg z st') kr=some x':=hk1;have aoG:=hI1.bQ F.cfg z;obtain⟨q1,cB,hIB,n0B,gB,wB,tB,prB,mB,ajR,moB,b0B,hpB,wrB,t0B,rdB,lB,LnB,ysB⟩:=Inv.busy (Ln:=Ln) aoG (l:=l) (lo:=.loop rec) (by simp[cA,cx1]) (by simp) rfl { rec with state:=.busy } (fun p hp=>⟨List.mem_cons_of_mem _ hp,k4 p hp⟩) (nM ps y z) rfl ((hO l).2 (.inr rfl)) hl;refine⟨_,run_beginRound q1 est,?_⟩;have hO':∀ b,O b→cx.w0.heap.size≤b∨cx.Pr b:=fun b h=>by
     rcases(hO b).1 h with h | rfl
     · exact(r'.mV h).2.2
     · exact .inl k5
    have sb:agS cx cB M' a' Ln (nM ps y z) l W O:=by
     refine⟨n0B,gB,tB,fun b hb=>(prB b hb).symm,fun b hb=>?_,fun b j hb ho hr=>ajR b j hb ho (fun e=>?_) hr,fun b hb=>moB b (.inl hb),b0B,hpB,wrB,by rw[t0B];exact p3,fun t ht=>by rw[t0B];exact p5 t fun h=>ht (by simp only[nM,List.mem_append];exact .inl h),LnB⟩
     · rcases mB b hb with (h | h) | ⟨h,h'⟩
       · exact r'.lY b h
       · rcases(hMi b h).2.2 with h | h
         · exact r.lY b h
         · have:=hg.size;have:=r.size;have:=cx.w0.le';exact .inr ⟨by omega,.inl (by omega)⟩
       · refine .inr ⟨h,?_⟩;rcases h' with h' | h'
         · have h':W.heap.size≤b:=h';left;omega
         · exact hO' b h'
     · obtain⟨Cs,e',fr,hc,_⟩:=hr;rw[e,k1]at hc;cases hc
    have hzz:=hz ⟨cB,by rw[hpB];exact hnl,gB.trans hgl⟩ _ a1 _ _ _ (roundPost P l fun e W'=>Turns gl O W W'∧∃ O' K':Nat→Prop,((e=.returned (.bool true)∧J xs O' K' W')∨(e=.returned (.bool false)∧Jx O' K' W'))∧(∀ b,O' b→O b∨W.heap.size≤b)∧∀ b,K' b→K b∨Mi b∨O b∨(W.heap.size≤b∧b<W'.heap.size)) trivial hk1 hd.2 (fun h=>by cases h) (fun o ho=>⟨fun d hd=>by show cB.Wr d;rw[wrB];exact hdst.2 o ho d hd,fun t _ h=>by rw[ysB]at h;exact h.elim⟩) ⟨rfl,hIB⟩ ?_
    · simp only[rdB]at hzz;exact hzz
    intro ex2 x2 st3 a3 W3 hk2 ⟨hx2,hI3⟩;subst hx2;have hgrow3:W.heap.size≤W3.heap.size:=by obtain⟨_,_,_,_,r3,_⟩:=hI3;have h1:=r3.size;have h2:=sb.turns.size;exact Nat.le_trans h2 h1
    have ajS:∀ b,cB.M0 b→b<W3.heap.size:=by obtain⟨_,_,_,_,r3,_⟩:=hI3;exact fun b hb=>r3.gU b (r3.tu b hb)
    let K':Nat→Prop:=fun b=>K b∨Mi b∨O b∨(W.heap.size≤b∧b<W3.heap.size);have key:=fun Xo=>EP.round (W1:=W1) r' f' e3 k4 k5 k6 hO sb lB hI3 Xo nK2 nK3 (K':=K') (fun b hb=>by
     rcases mB b hb with (h | h) | ⟨_,h⟩
     · exact(nK1 b h).imp id .inl
     · exact .inr (.inr (.inl h))
     · rcases h with h | h
       · have h:W.heap.size≤b:=h;exact .inr (.inr (.inr (.inr ⟨h,ajS b hb⟩)))
       · exact .inr (.inr (.inr (.inl h)))) (fun b hb=>.inr (.inr (.inl hb))) (fun b h1 h2=>.inr (.inr (.inr ⟨h1,h2⟩))) (fun b hb=>by
     rcases hb with h | h | h | h
     · exact Nat.lt_of_lt_of_le (nK4 b h) hgrow3
     · exact Nat.lt_of_lt_of_le (hMi b h).1 hgrow3
     · exact Nat.lt_of_lt_of_le (ab4 b h) hgrow3
     · exact h.2)
    have hput:∀ o:Obj,(W3.putObj l o).heap.size=W3.heap.size:=fun o=>World.putObj_size;have hKs:∀ (o:Obj) (b:Nat),K' b→K b∨Mi b∨O b∨(W.heap.size≤b∧b<(W3.putObj l o).heap.size):=fun o b hb=>by rw[hput];exact hb
    cases ex2 with
    | normal =>
     obtain⟨q3,O',hI',hOs,ht⟩:=key rec;obtain⟨O'',aoI,hsub⟩:=hI'.bQ F.cfg (.seq y z);have he:=run_endRound (P:=P) none q3;have adL:({ { rec with state:=.busy } with state:=if(none:Option Code).isNone then .ready else .done,pending:=none }:Loop)=rec:=by cases rec;simp at est epe;subst est epe;rfl
     simp only[kr,sZ,bU]at hk2;refine⟨_,_,he,?_⟩;rw[adL];exact⟨hgl▸ht,O'',K',.inl ⟨rfl,_,hk2,aoI⟩,fun b hb=>hOs b (hsub b hb),hKs _⟩
    | exit id =>obtain⟨q3,O',hI',hOs,ht⟩:=key { rec with state:=.done,pending:=some (.exit id) };simp only[kr,sZ,bU]at hk2;exact⟨_,_,run_endRound (P:=P) (some (.exit id)) q3,hgl▸ht,O',K',.inr ⟨rfl,.exit id,_,hk2,.inr ⟨id,rfl⟩,hI'⟩,hOs,hKs _⟩
    | ret =>obtain⟨q3,O',hI',hOs,ht⟩:=key { rec with state:=.done,pending:=some .ret };simp only[kr,sZ,bU]at hk2;exact⟨_,_,run_endRound (P:=P) (some .ret) q3,hgl▸ht,O',K',.inr ⟨rfl,.ret,_,hk2,.inl rfl,hI'⟩,hOs,hKs _⟩
  · -- behind the sequence
    rintro e W2 ⟨⟨v,rfl⟩,O,K,(⟨st,h1,h2⟩ | ⟨ex,st,h1,h2,h3⟩)⟩
    · simp only[lC]at h1;have hl:W2.heap[l]?=some (.loop rec):=by obtain⟨_,_,_,_,_,_,_,⟨h,_⟩,_⟩:=h2;exact h
      have hend:=run_endLoop (P:=P) hl (by rw[← hrec];simp);rw[show rec.pending=none by rw[← hrec]]at hend;refine⟨none,_,hend,?_⟩;exact hQ .normal _ st a' _ h1 ⟨rfl,h2.close _⟩
    · have hl:W2.heap[l]?=some (.loop { rec with state:=.done,pending:=some ex.code }):=by obtain⟨_,_,_,_,_,_,_,⟨h,_⟩,_⟩:=h3;exact h
      refine⟨some ex.code,_,run_endLoop (P:=P) hl (by simp),?_⟩;rcases h2 with rfl | ⟨id,rfl⟩
      · exact wpIn_ret (hQ .ret _ st a' _ h1 ⟨rfl,h3.close _⟩)
      · exact wpIn_exit (hQ (.exit id) _ st a' _ h1 ⟨rfl,h3.close _⟩)
end
end Go.Skm
namespace Go.Skm
section
variable {P:Program} {T:Tab} {w0:Base} {Pr M0 M:Nat→Prop} {β OQ:Nat→Option (Nat × Nat)} {hp0:Heap} {st st':St} {a:Act} {w:World}
def D6 (tmps:Array Value):ResultVar→Sem Value
 | .tmp t=>pure (tmps.getD t undef)
 | .cell a t=>do loadVar t (← asAddr (tmps.getD a undef))
theorem aeR (ok:dZ P T) (r:Rel w0 Pr M0 M β st a w) {x:ResultVar} {v:AV} (h:abb T st.env (look st.heap) x=some v):∃ c,(D6 a.tmps x).run P w=.ok c w∧AR w M β (look st.heap) v c:=by
 cases x with
 | tmp t =>simp only[abb,qOa]at h;subst h;exact⟨_,by simp[D6],r.slot t⟩
 | cell t ty =>
  simp only[abb]at h;split at h
  · rename_i s n hs hn;split at h
    · rename_i cs hl;have hx:=r.slot t;rw[hs]at hx;have hst:(Gh T (look st.heap) ty (.ptr s 0 0)).run some=some { val:=v }:=by simp only[Gh,hn,hl,h];rfl
      obtain⟨v',c,h1,h2,h3⟩:=(X7 ok (h':=look st.heap) (fun _ _ h=>h) r.heap hx).sim Eff some _ hst;cases h1;refine⟨c,?_,h2⟩;generalize hc:a.tmps.getD t undef=p at hx h3;cases hx with
      | ptrB _ _ cs' b o p1 p2 =>simp only[Instr.loadAt,Instr.sureAddr]at h3;simp only[D6,hc,asAddr];simpa using h3
      | ptrA _ _ _ sa ks xs b o p1 p2 p3=>rw[hl]at p1;cases p1
    · cases h
  · cases h
theorem D7 (ok:dZ P T) (r:Rel w0 Pr M0 M β st a w):∀ {l:List ResultVar} {vs:List AV},Gl T st.env (look st.heap) l=some vs→∃ cs,(l.mapM (D6 a.tmps)).run P w=.ok cs w∧mX w M β (look st.heap) vs cs
 | [],vs,h=>by simp[Gl]at h;subst h;exact⟨[],by simp,rfl,fun i x c h=>by simp at h⟩
 | x::l,vs,h=>by
  simp only[Gl]at h;split at h
  · rename_i v vs' h1 h2;cases h;obtain⟨c,g1,g2⟩:=aeR ok r h1;obtain⟨cs,g3,g4⟩:=D7 ok r h2;refine⟨c::cs,by simp[g1,g3],by simp[g4.1],fun i y d hy hd=>?_⟩;cases i with
    | zero=>simp at hy hd;subst hy hd;exact g2
    | succ i=>simp at hy hd;exact g4.2 i y d hy hd
  · cases h
theorem xX {fn:Func} {tmps:Array Value} {cs:List Value} (h:(fn.results.toList.mapM (D6 tmps)).run P w=.ok cs w):(results fn tmps).run P w=.ok (vF cs) w:=by
 have e:results fn tmps=(do let vs ← fn.results.mapM (D6 tmps);pure (if h:vs.size=1 then vs[0] else .tuple vs)):=rfl;rw[e,Array.mapM_eq_mapM_toList];simp only[map_eq_pure_bind,bind_assoc,pure_bind,Sem.run_bind,h,qRa,Sem.run_pure];congr 1
 match cs with
 | []=>rfl
 | [c]=>rfl
 | _::_::_=>rfl
theorem BL {ss:List Nat} {hp:Heap} {s:Nat} {b:cu} (h:look (pY hp ss) s=some b):look hp s=some b∧s ∉ ss:=by
 rw[vJ]at h;by_cases hm:s∈ss
 · rw[if_pos hm]at h;cases h
 · rw[if_neg hm]at h;exact⟨h,hm⟩
theorem Ob {h:Nat→Option cu} {v:AV} {x:PV} {ss:List Nat} (hd:NQ h v=some (x,ss)):∀ s∈ss,(h s).isSome=true:=by
 unfold NQ at hd;split at hd
 · cases hd;simp
 · split at hd
   · rename_i hs;cases hd;simp[hs]
   · cases hd
 · split at hd
   · rename_i hs;split at hd
     · cases hd;simp[hs]
     · cases hd
   · cases hd
 · cases hd
theorem ER {h:Nat→Option cu}:∀ {vs:List AV} {xs:List PV} {ss:List Nat},Ap h vs=some (xs,ss)→∀ s∈ss,(h s).isSome=true
 | [],xs,ss,hd=>by simp[Ap]at hd;obtain⟨_,rfl⟩:=hd;simp
 | v::r,xs,ss,hd=>by
  simp only[Ap]at hd;split at hd
  · rename_i h1 h2;cases hd;intro s hs;rcases List.mem_append.1 hs with hs | hs
    · exact Ob h1 s hs
    · exact ER h2 s hs
  · cases hd
theorem Oc {h:Nat→Option cu} {v:AV} {x:PV} {ss:List Nat} (hd:KF h v=some (x,ss)):∀ s∈ss,(h s).isSome=true:=by
 unfold KF at hd;split at hd
 · split at hd
   · rename_i hs;split at hd
     · rename_i h1;cases hd;intro s hs';rcases List.mem_cons.1 hs' with rfl | hs'
       · rw[hs];rfl
       · exact ER h1 s hs'
     · cases hd
   · cases hd
 · exact Ob hd
theorem Ll {h:Nat→Option cu}:∀ {vs:List AV} {xs:List PV} {ss:List Nat},Gf h vs=some (xs,ss)→∀ s∈ss,(h s).isSome=true
 | [],xs,ss,hd=>by simp[Gf]at hd;obtain⟨_,rfl⟩:=hd;simp
 | v::r,xs,ss,hd=>by
  simp only[Gf]at hd;split at hd
  · rename_i h1 h2;cases hd;intro s hs;rcases List.mem_append.1 hs with hs | hs
    · exact Oc h1 s hs
    · exact Ll h2 s hs
  · cases hd
theorem RU {h:Nat→Option cu} {v:AV} {x:PV} {ss:List Nat} (hd:deep h v=some (x,ss)):∀ s∈ss,(h s).isSome=true:=by
 unfold deep at hd;split at hd
 · split at hd
   · rename_i h1;cases hd;exact ER h1
   · cases hd
 · split at hd
   · rename_i h1;cases hd;exact Ll h1
   · cases hd
 · exact Oc hd
theorem ES (r : Rel w0 Pr M0 M β st a w) {hA : Nat → Option cu} {βA : Nat → Option (Nat × Nat)} (hend : ∀ j blk,look st.heap (ah + j) = some blk → hA (ah + j) = some blk ∧ βA (ah + j) = β (ah + j)) :
    ∀ {ts:List TypeId} {ms:List lq} {vs:List AV} {cs:List Value} {rs:List AV} {hp:Heap},zy T hp ms ts vs=some rs→(∀ s b,look hp s=some b→look st.heap s=some b)→mX w M β (look st.heap) vs cs →
    ∃ (S:List Nat) (ps:List (Option (Nat × Nat))),CQ T w (dR M β S) βA hA ms ts rs cs ps∧(∀ s∈S,(look hp s).isSome=true∧s<ah) ∧
     (∀ b o,some (b,o)∈ps→∃ s o0,(look hp s).isSome=true∧s ∉ S∧s<ah∧β s=some (b,o0))∧(sU T ms ts=true→CQ T w (dR (fun _=>False) β S) βA hA ms ts rs cs ps)
  | [],ms,[],cs,rs,hp,h,_,hl=>by
   simp[zy]at h;subst h;have:cs=[]:=by have:=hl.1;simpa using this.symm
   subst this;exact⟨[],[],.nil ms,by simp,by simp,fun _=>.nil ms⟩
  | t::ts,ms,v::vs,[],rs,hp,h,_,hl=>by have:=hl.1;simp at this
  | t::ts,ms,v::vs,c::cs,rs,hp,h,hsub,hl=>by
   simp only[zy]at h;obtain⟨hv,hls⟩:=hl.cons;split at h
   · rename_i x ss hx;split at h
     · rename_i xs hxs;cases h;have ajU:∀ s b,look (pY hp ss) s=some b→look st.heap s=some b:=fun s b h=>hsub s b (BL h).1;obtain⟨S,ps,k1,k2,k3,k4⟩:=ES r hend hxs ajU hls;have upF:∀ (ss:List Nat) b,dR (fun _=>False) β S b→dR (fun _=>False) β (ss++S) b:=fun ss b hb=>hb.imp id fun ⟨s,o,h1,h2⟩=>⟨s,o,by simp[h1],h2⟩;have live:∀ s,(look (pY hp ss) s).isSome=true→(look hp s).isSome=true∧s ∉ ss:=fun s h=>by obtain⟨b,hb⟩:=Option.isSome_iff_exists.1 h;obtain⟨g1,g2⟩:=BL hb;exact⟨by rw[g1];rfl,g2⟩
       revert hx;generalize hm:ms.headD .deep=m;intro hx
       have plain : ∀ (x' : AV),x = x' → DY T w (dR M β S) βA hA (ms.headD .deep) t x' c none → (KI T (ms.headD .deep) t = true → DY T w (dR (fun _ => False) β S) βA hA (ms.headD .deep) t x' c none) → ∃ (S : List Nat) (ps : List (Option (Nat × Nat))),CQ T w (dR M β S) βA hA ms (t::ts) (x::xs) (c::cs) ps ∧ (∀ s ∈ S,(look hp s).isSome = true ∧ s < ah) ∧
           (∀ b o,some (b,o)∈ps→∃ s o0,(look hp s).isSome=true∧s ∉ S∧s<ah∧β s=some (b,o0))∧(sU T ms (t::ts)=true→CQ T w (dR (fun _=>False) β S) βA hA ms (t::ts) (x::xs) (c::cs) ps):=by
         intro x' e hr hrF;subst e;refine⟨S,none::ps,.cons ms t ts x xs c cs none ps hr k1 (fun b o o' h=>by cases h),fun s hs=>⟨(live s (k2 s hs).1).1,(k2 s hs).2⟩,fun b o hb=>?_,fun hf=>by simp only[sU,qBa]at hf;exact .cons ms t ts x xs c cs none ps (hrF hf.1) (k4 hf.2) (fun b o o' h=>by cases h)⟩;rcases List.mem_cons.1 hb with hb | hb
         · cases hb
         · obtain⟨s,o0,q1,q2,q3,q4⟩:=k3 b o hb;exact⟨s,o0,(live s q1).1,q2,q3,q4⟩
       cases m with
       | deep =>
        simp only[QG]at hx;split at hx
        · rename_i y ss' hd;cases hc:bZ (bY T t).1 (bY T t).2 y&&ss'.all (fun s=>Nat.blt s 100000) with
          | false=>rw[hc]at hx;cases hx
          | true =>
           rw[hc]at hx;simp only[cond_true,qOa,Prod.mk.injEq]at hx;obtain⟨rfl,rfl⟩:=hx;simp only[qBa]at hc;obtain⟨d1,d2⟩:=Ii (M:=M) (β:=β) (fun s b h=>r.heap s b (hsub s b h)) hsub hd hv;have hlt:∀ s∈ss',s<ah:=fun s hs=>Nat.le_of_ble_eq_true (List.all_eq_true.1 hc.2 s hs);have hlive:∀ s∈ss',(look hp s).isSome=true:=RU hd;have up:∀ b,dR M β S b→dR M β (ss'++S) b:=fun b hb=>hb.imp id fun ⟨s,o,h1,h2⟩=>⟨s,o,by simp[h1],h2⟩;have hd1:DY T w (dR M β (ss'++S)) βA hA .deep t (.p y) c none:=.deep t y c hc.1 (d1.mono fun b hb=>⟨hb.imp id fun ⟨s,o,h1,h2⟩=>⟨s,o,by simp[h1],h2⟩,rfl⟩);refine⟨ss'++S,none::ps,.cons ms t ts _ xs c cs none ps ?_ (k1.mono up) (fun b o o' h=>by cases h),fun s hs=>?_,fun b o hb=>?_,fun hf=>?_⟩
           · rw[hm];exact hd1
           · rcases List.mem_append.1 hs with hs | hs
             · exact⟨hlive s hs,hlt s hs⟩
             · exact⟨(live s (k2 s hs).1).1,(k2 s hs).2⟩
           · rcases List.mem_cons.1 hb with hb | hb
             · cases hb
             · obtain⟨s,o0,q1,q2,q3,q4⟩:=k3 b o hb;exact⟨s,o0,(live s q1).1,by simp[(live s q1).2,q2],q3,q4⟩
           · simp only[sU,qBa]at hf;refine .cons ms t ts _ xs c cs none ps ?_ ((k4 hf.2).mono (upF _)) (fun b o o' h=>by cases h);have hf1:=hf.1;rw[hm]at hf1 ⊢;exact hd1.flat hf1
        · cases hx
       | fresh =>
        simp only[QG]at hx;split at hx
        · rename_i e hu;split at hx
          · rename_i s z off len;split at hx
            · rename_i sa ks ys hs;cases hc:sa==(bY T e).1&&Kd.BQ ks (bY T e).2&&Nat.blt s 100000 with
              | false=>rw[hc]at hx;cases hx
              | true =>
               rw[hc]at hx;simp only[cond_true,qOa,Prod.mk.injEq]at hx;obtain⟨rfl,rfl⟩:=hx;simp only[qBa,beq_iff_eq]at hc;obtain⟨⟨rfl,hks⟩,hlt⟩:=hc;have hks:=Kd.rJ _ _ hks;subst hks;have hlt:s<ah:=Nat.le_of_ble_eq_true hlt;have hs':=hsub _ _ hs;have hbr:=r.heap s _ hs'
               obtain ⟨p,hp1,hp2,hp3⟩ : ∃ p : Option (Nat × Nat),BR w (dR M β S) (fun _ => p) (fun _ => some (.arr (bY T e).1 (bY T e).2 ((ys.drop off).take len))) 0 (.arr (bY T e).1 (bY T e).2 ((ys.drop off).take len)) ∧
                   AR w (dR M β S) (fun _=>p) (fun _=>some (.arr (bY T e).1 (bY T e).2 ((ys.drop off).take len))) (.slice 0 (bY T e).2.length 0 ((ys.drop off).take len).length) c∧(∀ b o,p=some (b,o)→∃ o0,β s=some (b,o0)):=by
                 cases hv with
                 | sliceE _ _ a' ks' xs' base h1 h2 =>
                  refine⟨none,?_,?_,fun b o h=>by cases h⟩
                  · simp only[List.take_zero];exact .jS _ _
                  · simp only[List.take_zero,List.length_nil];exact .sliceE 0 0 _ _ [] base rfl (by simp)
                 | slice _ _ _ a' ks' xs' b o cap h1 h2 h3 h4 h5 =>
                  rw[hs']at h1;cases h1;have hlen:((ys.drop off).take len).length=len:=by simp;omega
                  refine⟨some (b,o+off*(bY T e).2.length),?_,?_,fun b' o' h=>by cases h;exact⟨o,h3⟩⟩
                  · cases hbr with
                    | jS=>simp only[List.drop_nil,List.take_nil];exact .jS _ _
                    | arr _ _ _ b' o' C e' fr g1 g2 g3 g4 g5 g6 =>
                     rw[h3]at g1;cases g1;refine .arr _ _ _ b _ C e' fr rfl g2 ?_ g4 (fun x hx=>g5 x (List.mem_of_mem_drop (List.mem_of_mem_take hx))) fun i x j c hx hj=>?_
                     · rw[hlen,Nat.add_assoc,← Nat.add_mul];exact Nat.le_trans (Nat.add_le_add_left (Nat.mul_le_mul_right _ (by omega)) _) g3
                     · have hi : i < len := by have:=(qLa.1 hx).1;omega
                       rw[List.getElem?_take,if_pos hi,List.getElem?_drop]at hx;have:=(g6 (off+i) x j c hx hj).mono (M':=dR M β S) fun b hb=>⟨.inl hb,rfl⟩;rw[Nat.add_mul]at this;rwa[show o+off*(bY T e).2.length+i*(bY T e).2.length=o+(off*(bY T e).2.length+i*(bY T e).2.length) from by omega]
                  · rw[hlen];have:=AR.slice (M:=dR M β S) (β:=fun _=>some (b,o+off*(bY T e).2.length)) (h:=fun _=>some (.arr (bY T e).1 (bY T e).2 ((ys.drop off).take len))) 0 0 len (bY T e).1 (bY T e).2 ((ys.drop off).take len) b (o+off*(bY T e).2.length) cap rfl (by rw[hlen];omega) rfl h4 (by refine h5.mono ?_;rw[Nat.zero_add,Nat.add_assoc,← Nat.add_mul];exact Nat.le_refl _);rwa[Nat.zero_mul,Nat.add_zero]at this
               have hsl:(look hp s).isSome=true:=by rw[hs];rfl
               have hfr:DY T w (dR M β S) βA hA .fresh t (.fresh (bY T e).1 (bY T e).2 ((ys.drop off).take len)) c p:=.fresh t e _ c p hu hp1 hp2;have hap:∀ b o o',p=some (b,o)→some (b,o') ∉ ps:=fun b o o' e1 e2=>by obtain⟨o0,q0⟩:=hp3 b o e1;obtain⟨s',o0',q1,q2,q3,q4⟩:=k3 b o' e2;obtain⟨g1,g2⟩:=live s' q1;obtain⟨blk,hb⟩:=Option.isSome_iff_exists.1 g1;have:=r.inj s' s b o0' o0 (by rw[hsub _ _ hb];rfl) (by rw[hs'];rfl) q4 q0;exact g2 (by simp[this])
               refine⟨S,p::ps,.cons ms t ts _ xs c cs p ps ?_ k1 hap,fun s' hs'=>⟨(live s' (k2 s' hs').1).1,(k2 s' hs').2⟩,fun b o hb=>?_,fun hf=>?_⟩
               · rw[hm];exact hfr
               · rcases List.mem_cons.1 hb with hb | hb
                 · obtain⟨o0,q0⟩:=hp3 b o hb.symm;exact⟨s,o0,hsl,fun hS=>(live s (k2 s hS).1).2 (by simp),hlt,q0⟩
                 · obtain⟨s',o0,q1,q2,q3,q4⟩:=k3 b o hb;exact⟨s',o0,(live s' q1).1,q2,q3,q4⟩
               · simp only[sU,qBa]at hf;refine .cons ms t ts _ xs c cs p ps ?_ (k4 hf.2) hap;have hf1:=hf.1;rw[hm]at hf1 ⊢;exact hfr.flat hf1
            · cases hx
          · simp only[qOa,Prod.mk.injEq]at hx;obtain⟨rfl,rfl⟩:=hx;have hc:c=.slice none 0 0:=by cases hv;rename_i hv;cases hv;rfl
            subst hc;have hne:∀ M,DY T w M βA hA (ms.headD .deep) t (.fresh (bY T e).1 (bY T e).2 []) (.slice none 0 0) none:=fun M=>by rw[hm];exact .fresh t e [] _ none hu (.jS _ _) (.sliceE 0 0 _ _ [] none rfl (by simp))
            exact plain _ rfl (hne _) fun _=>hne _
          · cases hx
        · cases hx
       | func g qs =>
        simp only[QG]at hx;split at hx
        · rename_i f ys ss' hd;cases hc:(f==g&&F7 qs ys)&&ss'.all (fun s=>Nat.blt s 100000) with
          | false=>rw[hc]at hx;cases hx
          | true =>
           rw[hc]at hx;simp only[cond_true,qOa,Prod.mk.injEq]at hx;obtain⟨rfl,rfl⟩:=hx;simp only[qBa,beq_iff_eq]at hc;obtain⟨⟨rfl,hcq⟩,hcs⟩:=hc;obtain⟨d1,d2⟩:=Ii (M:=M) (β:=β) (fun s b h=>r.heap s b (hsub s b h)) hsub hd hv;have hlt:∀ s∈ss',s<ah:=fun s hs=>Nat.le_of_ble_eq_true (List.all_eq_true.1 hcs s hs);have hlive:∀ s∈ss',(look hp s).isSome=true:=RU hd;have up:∀ b,dR M β S b→dR M β (ss'++S) b:=fun b hb=>hb.imp id fun ⟨s,o,h1,h2⟩=>⟨s,o,by simp[h1],h2⟩;refine⟨ss'++S,none::ps,.cons ms t ts _ xs c cs none ps ?_ (k1.mono up) (fun b o o' h=>by cases h),fun s hs=>?_,fun b o hb=>?_,fun hf=>?_⟩
           · rw[hm];exact .func f qs t ys c hcq (d1.mono fun b hb=>⟨hb.imp id fun ⟨s,o,h1,h2⟩=>⟨s,o,by simp[h1],h2⟩,rfl⟩)
           · rcases List.mem_append.1 hs with hs | hs
             · exact⟨hlive s hs,hlt s hs⟩
             · exact⟨(live s (k2 s hs).1).1,(k2 s hs).2⟩
           · rcases List.mem_cons.1 hb with hb | hb
             · cases hb
             · obtain⟨s,o0,q1,q2,q3,q4⟩:=k3 b o hb;exact⟨s,o0,(live s q1).1,by simp[(live s q1).2,q2],q3,q4⟩
           · simp only[sU,qBa,hm,KI]at hf;exact absurd hf.1 (by simp)
        · cases hx
       | alias j =>
        simp only[QG]at hx;split at hx
        · rename_i s z off len e hu;cases hc:s==ah+j&&z==(bY T e).2.length with
          | false=>rw[hc]at hx;cases hx
          | true =>
           rw[hc]at hx;simp only[cond_true,qOa,Prod.mk.injEq]at hx;obtain⟨rfl,rfl⟩:=hx;simp only[qBa,beq_iff_eq]at hc;obtain⟨rfl,rfl⟩:=hc;have:∃ blk,look st.heap (ah+j)=some blk:=by
            generalize (bY T e).2.length=z at hv;cases hv with
            | slice _ _ _ a ks xs b o cap hs hl hb hcap hr=>exact⟨_,hs⟩
            | sliceE _ _ a ks xs base hs hl=>exact⟨_,hs⟩
           obtain⟨blk,hb⟩:=this;obtain⟨g1,g2⟩:=hend j blk hb;have hne:∀ M,DY T w M βA hA (ms.headD .deep) t (.slice (ah+j) (bY T e).2.length off len) c none:=fun M=>by rw[hm];exact .alias j t e off len c hu (hv.kM hb g1 g2)
           exact plain _ rfl (hne _) fun _=>hne _
        · cases hx
     · cases h
   · cases h
  | [],ms,v::vs,cs,rs,hp,h,_,_=>by simp[zy]at h
  | t::ts,ms,[],cs,rs,hp,h,_,_=>by simp[zy]at h
theorem acV {b0 b:cu} (h0:gI b0=true) (h1:Ih b=true) (h2:backOk b0 b=true):gI b=true:=by
 cases b with
 | log=>cases b0<;>simp[backOk,gI]at h0 h2
 | _=>exact h1
theorem Oe {hp:Heap}:∀ {bl jX:List cu} {k:Nat},(∀ b∈bl,gI b=true)→DW hp k bl=some jX→jX.length=bl.length∧∀ (i:Nat) (b0 b1:cu),bl[i]?=some b0→jX[i]?=some b1→look hp (ah+(k+i))=some b1∧gI b1=true∧backOk b0 b1=true
 | [],jX,k,_,h=>by simp[DW]at h;subst h;exact⟨rfl,fun i b0 b1 h=>by simp at h⟩
 | b0::r,jX,k,hbl,h=>by
  simp only[DW]at h;split at h
  · rename_i b bs h1 h2;cases hc:Ih b&&backOk b0 b with
    | false=>rw[hc]at h;cases h
    | true =>
     rw[hc]at h;simp only[cond_true,qOa]at h;subst h;simp only[qBa]at hc;obtain⟨g1,g2⟩:=Oe (fun b hb=>hbl b (by simp[hb])) h2;refine⟨by simp[g1],fun i c0 c1 e1 e2=>?_⟩;cases i with
     | zero=>simp at e1 e2;subst e1 e2;exact⟨h1,acV (hbl b0 (by simp)) hc.1 hc.2,hc.2⟩
     | succ i =>simp at e1 e2;rw[show k+(i+1)=k+1+i from by omega];exact g2 i c0 c1 e1 e2
  · cases h
theorem BR.pure_mono {M':Nat→Prop} {β':Nat→Option (Nat × Nat)} {h h':Nat→Option cu} {s s':Nat} {blk:cu} (hM:∀ b,M b→M' b) (hb:BR w M β h s blk) (hp:gI blk=true) (e:β' s'=β s):BR w M' β' h' s' blk:=by
 have hM':∀ b,M b→M' b∧w.heap[b]?=w.heap[b]?:=fun b h=>⟨hM b h,rfl⟩;have hb1:=hb.MZ (β':=β') (h':=h') hp e;cases hb1 with
 | log=>simp[gI]at hp
 | jS=>exact .jS _ _
 | arr _ _ _ b o C e' fr g1 g2 g3 g4 g5 g6=>exact .arr _ _ _ b o C e' fr g1 g2 g3 g4 g5 fun i x j c h1 h2=>(g6 i x j c h1 h2).mono hM'
 | box cs b o C e' fr g1 g2 g3 g4 g5 g6 =>
  refine .box cs b o C e' fr g1 g2 g3 g4 g5 fun j c hc=>?_;simp only[gI,Option.isSome_iff_exists]at hp;obtain⟨vs,hp⟩:=hp;have hcs:=yu hp;subst hcs;have hc':=g6 j c hc;simp only[List.getElem?_map,Option.map_eq_some_iff]at hc;obtain⟨x,_,rfl⟩:=hc;generalize C.getD (o+j) undef=u at hc';cases hc' with
  | p _ _ hv=>exact .p _ _ (hv.mono hM')
theorem Rel.start {args : List AV} {bl : List cu} {aY : Array Value} (hp : tZ w M β args bl aY) {gl : Option (List (Nat × Obj))} (hgl : ∀ p ∈ gl.getD [],M p.1 ∧ w.heap[p.1]? = some p.2) (fn : Func) :
    Rel ⟨w,w.heap.size,Nat.le_refl _,gl⟩ (fun b=>∃ i o,i<bl.length∧β (ah+i)=some (b,o)) M M β (zA fn args bl) { tmps:=aY++Array.replicate (fn.ntmps-aY.size) undef,defers:=[] } w:=by
  have hn:=hp.num;refine⟨?_,fun t v ht=>?_,fun s blk hs=>?_,fun s b o hs hb=>?_,fun s s' b o o' hs hs' hb hb'=>?_,hp.gU,fun b h=>.inl h,fun b h=>h,fun b _ _=>rfl,fun b n _ _ h=>h,Nat.le_refl _,rfl,rfl,rfl,hgl⟩
  · simp[zA,hn]
  · by_cases hlt:t<args.length
    · have ht' : args[t]? = some v := by simp only[zA]at ht;rwa[List.getElem?_append_left hlt]at ht
      have:=hp.args t v ht';have e:(aY++Array.replicate (fn.ntmps-aY.size) undef).getD t undef=aY.getD t undef:=by rw[qAb,qAb,Array.getElem?_append_left (by omega)]
      rw[e];exact this
    · have : v = .undef := by
        simp only[zA]at ht;rw[List.getElem?_append_right (by omega),List.getElem?_replicate]at ht;split at ht
        · simpa using ht.symm
        · cases ht
      subst this;exact .undef _
  · obtain⟨i,h1,rfl,h2⟩:=Il hs;exact hp.blk i blk h2
  · obtain⟨blk,hs⟩:=Option.isSome_iff_exists.1 hs;obtain⟨i,h1,rfl,h2⟩:=Il hs;obtain⟨g1,g2⟩:=hp.own i b o h1 hb;exact⟨g1,g2,.inr ⟨i,o,h1,hb⟩,.inr (by omega)⟩
  · obtain⟨blk,hs⟩:=Option.isSome_iff_exists.1 hs;obtain⟨blk',hs'⟩:=Option.isSome_iff_exists.1 hs';obtain⟨i,h1,rfl,h2⟩:=Il hs;obtain⟨j,h1',rfl,h2'⟩:=Il hs';rw[hp.inj i j b o o' h1 h1' hb hb']
def sF (P : Program) (T : Tab) (gl : Option (List (Nat × Obj))) (X : Ext) : Prop := (∀ w : World,(∀ p ∈ gl.getD [],w.heap[p.1]? = some p.2) → T.glob gl.isSome w) ∧ (∀ f fi s args bl rs jX,dN T.funcs f = some fi → fi.cfg.gext = false → X f = some s → s args bl = some (rs,jX) → (∃ c,fi.fn.body = some c) ∧ (∀ b ∈ bl,gI b = true) ∧
    ∀ (w:World) (M:Nat→Prop) (β:Nat→Option (Nat × Nat)) (aY:Array Value),(∀ p∈gl.getD [],M p.1∧w.heap[p.1]?=some p.2)→tZ w M β args bl aY →
     Calls P f aY w fun e w'=>∃ cs ps M',e=.returned (vF cs)∧DZ gl T fi w M β bl rs jX w' M' cs ps) ∧
  ∀ f fi s args bl r,dN T.funcs f=some fi→fi.cfg.gext=true→X f=some s→s args bl=some r→∃ caps,args=.vN::caps.map .p∧bl=[.log true []]∧P.funcs[f]?=some fi.fn∧L9 P gl f caps (pV r.2)
theorem aaf {bl:List cu} (h:∀ b∈bl,gI b=true) (e:bl=[.log true []]):False:=by subst e;have:=h _ (List.mem_singleton.2 rfl);simp[gI]at this
theorem qX {fn : Func} {tmps : Array Value} {R : Ending → World → Prop} {n : Nat} : ∀ (ds : List Nat) (w : World),ds.Nodup → (∀ D ∈ ds,w.heap[D]? = some (.deferred (some []))) →
    (∀ w',(∀ b,b ∉ ds→w'.heap[b]?=w.heap[b]?)→w'.heap.size=w.heap.size→w'.os=w.os→w'.tape=w.tape→w'.output=w.output→w'.drawn=w.drawn→∃ v,(results fn tmps).run P w'=.ok v w'∧R (.returned v) w') →
    LeavesInM (FW none) n P fn tmps R (ds.map BX) .returning w
  | [],w,_,_,h=>h w (fun _ _=>rfl) rfl rfl rfl rfl rfl
  | D::ds,w,hnd,hl,h=>by
   obtain⟨h1,h2⟩:=List.nodup_cons.1 hnd;refine⟨by simp,.inl ⟨D,w.putObj D (.deferred none),rfl,run_takeDeferred (hl D (by simp)),?_⟩⟩;refine qX ds _ h2 (fun D' hD'=>?_) fun w' k1 k2 k3 k4 k5 k6=>?_
   · rw[World.putObj_heap_other (show D'≠D from fun e=>h1 (e▸hD'))];exact hl D' (by simp[hD'])
   · refine h w' (fun b hb=>?_) (by rw[k2,World.putObj_size]) k3 k4 k5 k6;simp only[List.mem_cons,not_or]at hb;rw[k1 b hb.2,World.putObj_heap_other hb.1]
theorem Inv.shut {cx : Cx} {M : Nat → Prop} {β : Nat → Option (Nat × Nat)} {st : St} {a : Act} {w w' : World} {L : List (Nat × Obj)} {ds : List Nat} (r : Rel cx.w0 cx.Pr cx.M0 M β st a w) (fx : Fix cx M β st.heap a w L ds) (hn : cx.nm = cx.w0.heap.size)
    (k1:∀ b,b ∉ ds→w'.heap[b]?=w.heap[b]?) (k2:w'.heap.size=w.heap.size) (k3:w'.os=w.os) (k4:w'.tape=w.tape) (k5:w'.output=w.output):Rel cx.w0 cx.Pr cx.M0 M β st a w':=by
  have hM:∀ b,M b→b ∉ ds:=fun b hb hd=>(fx.lies _ (fx.mark b hd).1).2.2 hb;have hO:∀ b,mQ β st.heap b→b ∉ ds:=fun b hb hd=>(fx.lies _ (fx.mark b hd).1).2.1 hb;have hw:∀ b,b<cx.w0.heap.size→b ∉ ds:=fun b hb hd=>by have:=(fx.mark b hd).2.1;omega
  refine r.to rfl (fun b hb=>⟨hb,k1 b (hM b hb)⟩) (fun s b o hs hb=>?_) (fun b hb=>by rw[k2];exact r.gU b hb) r.lY r.tu (fun b hb hp=>?_) (fun b n hb hp hr=>?_) (by rw[k2];exact r.size) (k3.trans r.os) (k4.trans r.tape) (k5.trans r.output)
  · obtain⟨g1,g2,g3⟩:=r.own s b o hs hb;exact⟨k1 b (hO b ⟨s,o,hs,hb⟩),g1,by rw[k2];exact g2,g3⟩
  · rw[k1 b (hw b hb)];exact r.keep b hb hp
  · exact(r.room b n hb hp hr).of_block (k1 b (hw b (by have:=cx.w0.le';omega)))
theorem aag {bl:List cu} (h:∀ b∈bl,gI b=true):Ai (gV 0 bl):=by intro xs he;have:look (gV 0 bl) (ah+0)=some (.log true xs):=he;rw[qM]at this;have:=h _ (qLe this);simp[gI]at this
theorem acW (ok : dZ P T) {X : Ext} {gl : Option (List (Nat × Obj))} (hX : sF P T gl X) {n : Nat} (hC : jl P T gl (lJ T X n)) (hS : IW P T gl (lJ T X n)) :
    ∀ f fi args bl rs jX,dN T.funcs f=some fi→(∀ b∈bl,gI b=true)→lJ T X (n+1) f args bl=some (rs,jX)→(∃ c,fi.fn.body=some c) ∧
    ∀ (w:World) (M:Nat→Prop) (β:Nat→Option (Nat × Nat)) (aY:Array Value),(∀ p∈gl.getD [],M p.1∧w.heap[p.1]?=some p.2)→tZ w M β args bl aY →
     Calls P f aY w fun e w'=>∃ cs ps M',e=.returned (vF cs)∧DZ gl T fi w M β bl rs jX w' M' cs ps:=by
  intro f fi args bl rs jX hf hpb h;simp only[lJ,hf]at h;cases hx:X f with
  | some s =>
   rw[hx]at h;cases hge:fi.cfg.gext with
   | false =>obtain⟨h1,_,h2⟩:=hX.2.1 f fi s args bl rs jX hf hge hx h;exact⟨h1,h2⟩
   | true =>obtain⟨_,_,h2,_⟩:=hX.2.2 f fi s args bl _ hf hge hx h;exact(aaf hpb h2).elim
  | none =>
   rw[hx]at h;simp only at h;cases hb:fi.fn.body with
   | none=>rw[hb]at h;cases h
   | some c =>
    rw[hb]at h;have hcb:yY fi.cfg bl=true:=by
     cases hcb:yY fi.cfg bl with
     | true=>rfl
     | false=>rw[hcb]at h;cases h
    have Wp:fi.cfg.vcall=false:=by
     cases Wp:fi.cfg.vcall with
     | false=>rfl
     | true =>
      unfold yY at hcb;split at hcb
      · cases hcb
      rw[Wp]at hcb;simp only at hcb;split at hcb
      · have:=hpb _ (List.mem_cons_self ..);simp[gI,F9]at this
      · cases hcb
    have htk:fi.cfg.take=false:=by
     cases htk:fi.cfg.take with
     | false=>rfl
     | true =>
      unfold yY at hcb;split at hcb
      · cases hcb
      rw[Wp]at hcb;simp only[htk]at hcb;split at hcb
      · have:=hpb _ (List.mem_cons_self ..);simp[gI]at this
      · cases hcb
    rw[hcb]at h;simp only[cond_true,gY,jD,bU,MR,ZI,Wp,htk]at h;refine⟨⟨c,rfl⟩,fun w M β aY hgl hp=>?_⟩;obtain⟨hfn,hname,hdr,hret⟩:=ok.funcs f fi hf;let cx:Cx:={ w0:=⟨w,w.heap.size,Nat.le_refl _,gl⟩,Pr:=fun b=>∃ i o,i<bl.length∧β (ah+i)=some (b,o),M0:=M,OQ:=β,hp0:=gV 0 bl,Wr:=fun _=>True,t0:=aY++Array.replicate (fi.fn.ntmps-aY.size) undef,rd:=none,L0:=[],nm:=w.heap.size }
    have hi:Inv cx (zA fi.fn args bl) { tmps:=aY++Array.replicate (fi.fn.ntmps-aY.size) undef,defers:=[] } w :=
     ⟨M,β,[],[],Rel.start hp hgl fi.fn,fun _ _=>rfl,fun s _ b hb=>⟨b,hb,Like.refl b⟩,.refl _ _,⟨fun p hp=>by simp at hp,fun p hp=>by simp[cx]at hp,rfl,List.nodup_nil,fun D hD=>by simp at hD,fun l hl=>(by cases hl),rfl,fun _ _=>rfl,fun _=>rfl,fun _ h=>h.elim,Nat.le_refl _⟩⟩
    refine xY (rd:=none) (n:=0) (callsIn_of_wp_marks hfn hb trivial ?_);refine kC (ng:=false) (Bz (m:=0) ok hC (ok.nvars f fi hf) (rs,jX)) (fun _ f ps y z hy hz=>Nh ok hS hy hz) c ⟨cx,aag hpb,rfl⟩ _ _ w _ _ _ trivial h (hdr c hb) (fun h=>by cases h) (fun _ _=>⟨fun _ _=>trivial,fun _ _ h=>h.elim⟩) ⟨rfl,hi⟩ fun ex x' st a w1 hk i=>?_;obtain⟨rfl,i⟩:=i;have hk':X3 T fi.cfg fi.fn bl st=some (rs,jX)∧(ex=.normal∨ex=.ret):=by
     cases ex with
     | normal=>exact⟨hk,.inl rfl⟩
     | exit id=>cases hk
     | ret=>exact⟨hk,.inr rfl⟩
    obtain⟨hk,hex⟩:=hk';obtain⟨M1,β1,L1,ds1,r1,e1,e2,e3',YE⟩:=i;have goal:LeavesInM (FW none) 0 P fi.fn a.tmps (fun e w'=>∃ cs ps M',e=.returned (vF cs)∧DZ gl T fi w M β bl rs jX w' M' cs ps) a.defers .returning w1:=by
     rw[YE.marks];refine qX ds1 w1 YE.nodup (fun D hD=>(YE.lies _ (YE.mark D hD).1).1) fun w' q1 q2 q3 q4 q5 q6=>?_;have r:=Inv.shut r1 YE rfl q1 q2 q3 q4 q5;have e3:jK gl w.drawn w'.drawn:=by rw[q6];exact e3'
     unfold X3 at hk;split at hk
     · cases hk
     · rename_i vs hvs;split at hk
       · rename_i rs' agh hrv hab;simp only[gY,jD,qOa,Prod.mk.injEq]at hk;obtain⟨rfl,rfl⟩:=hk;obtain⟨cs,g1,g2⟩:=D7 ok r hvs;obtain⟨ab1,ab2⟩:=Oe hpb hab;have hold:∀ j blk,look st.heap (ah+j)=some blk→∃ b0,bl[j]?=some b0∧Like b0 blk:=by intro j blk hj;obtain⟨b0,k1,k2⟩:=e2 (ah+j) (by omega) blk hj;rw[qM]at k1;exact⟨b0,k1,k2⟩
         have hend:∀ j blk,look st.heap (ah+j)=some blk→look (gV 0 agh) (ah+j)=some blk∧β (ah+j)=β1 (ah+j):=by
          intro j blk hj;obtain⟨b0,k1,k2⟩:=hold j blk hj;refine⟨?_,(e1 (ah+j) (by omega)).symm⟩;rw[qM];have hlt:j<agh.length:=by rw[ab1];exact(qLa.1 k1).1
          have:=(ab2 j b0 agh[j] k1 (by simp)).1;rw[Nat.zero_add,hj]at this;cases this;simp
         obtain⟨S,ps,q1,q2,q3,q4⟩:=ES r hend hrv (fun _ _ h=>h) g2;have hup:∀ b,M1 b→dR M1 β1 S b:=fun b h=>.inl h;refine⟨vF cs,xX g1,cs,ps,dR M1 β1 S,rfl,⟨q1,fun b o hb=>?_,fun hb1 hs1=>⟨dR (fun _=>False) β1 S,fun b hb=>?_,q4 (hret hb1 hs1)⟩,fun b h=>.inl (r.tu b h),fun b h=>?_,fun b h=>?_,fun b hb hn=>?_,fun b n hb hr=>?_,r.size,r.os,r.tape,r.output,e3,ab1,fun i b0 b1 h1 h2=>?_⟩⟩
         · obtain⟨s,o0,k1,k2,k3,k4⟩:=q3 b o hb;obtain⟨o1,o2,o3⟩:=r.own s b o0 k1 k4;refine⟨fun h=>?_,o2,?_⟩
           · rcases h with h | ⟨s',o',hs',hb'⟩
             · exact o1 h
             · exact k2 (by rw[r.inj s s' b o0 o' k1 (q2 s' hs').1 k4 hb'];exact hs')
           · rcases o3.2 with o3 | o3
             · exact o3
             · omega
         · rcases hb with hb | ⟨s',o',hs',hb'⟩
           · exact hb.elim
           · refine⟨.inr ⟨s',o',hs',hb'⟩,?_⟩;obtain⟨k1,k2⟩:=q2 s' hs';rcases(r.own s' b o' k1 hb').2.2.2 with o3 | o3
             · exact o3
             · omega
         · rcases h with h | ⟨s',o',hs',hb'⟩
           · exact(r.lY b h).imp id And.left
           · obtain⟨k1,k2⟩:=q2 s' hs';rcases(r.own s' b o' k1 hb').2.2.2 with o3 | o3
             · exact .inr o3
             · omega
         · rcases h with h | ⟨s',o',hs',hb'⟩
           · exact r.gU b h
           · exact(r.own s' b o' (q2 s' hs').1 hb').2.1
         · exact r.keep b hb fun ⟨i,o,hi,h⟩=>hn i o hi h
         · by_cases hpr:∃ i o,i<bl.length∧β (ah+i)=some (b,o)
           · exact r.room b n hb hpr hr
           · exact hr.of_block (r.keep b hb hpr)
         · obtain⟨k1,k2,k3⟩:=ab2 i b0 b1 h1 h2;rw[Nat.zero_add]at k1;obtain⟨b0',k4,k5⟩:=hold i b1 k1;rw[h1]at k4;cases k4;exact⟨(r.heap _ _ k1).pure_mono hup k2 (e1 (ah+i) (by omega)).symm,k5,k3,k2⟩
       · cases hk
    rcases hex with rfl | rfl
    · exact goal
    · exact goal
end
end Go.Skm
namespace Go.Skm
def kP (st st':St):Prop:=∀ b zs,look st'.heap ah=some (.log b zs)→look st.heap ah=some (.log b zs)
theorem kP.refl (st:St):kP st st:=fun _ _ h=>h
theorem kP.trans {a b c:St} (h:kP a b) (k:kP b c):kP a c:=fun x zs hx=>h x zs (k x zs hx)
theorem Og {ss:List Nat} {x:Option cu} {b:Bool} {zs:List PV} (h:x.map (cu.kill ss)=some (.log b zs)):x=some (.log b zs):=by
 cases x with
 | none=>cases h
 | some y =>
  cases y with
  | box=>simp[cu.kill]at h
  | arr=>simp[cu.kill]at h
  | log=>simpa [cu.kill] using h
theorem uy (st:St) (ss:List Nat):kP st (st.strike ss):=by
 intro b zs h;rw[fQ]at h;split at h
 · cases h
 · exact Og h
theorem aeS (st:St) (ss:List Nat):kP st (st.kill ss):=by
 intro b zs h;cases ss with
 | nil=>exact h
 | cons s r =>have h:look (iV (s::r) st.heap) ah=some (.log b zs):=h;rw[iY]at h;exact Og h
theorem Nj {h:Heap}:∀ {c:List (Nat × cu)},BF h c=true→∀ s b zs,(s,cu.log b zs) ∉ c
 | [],_,s,b,zs=>by simp
 | (t,.log _ _)::r,hc,s,b,zs=>by simp[BF]at hc
 | (t,.box cs)::r,hc,s,b,zs=>by
  have:BF h r=true:=by
   simp only[BF]at hc;cases ht:(t==ah) with
   | false=>rw[ht]at hc;exact hc
   | true =>
    rw[ht]at hc;simp only[cond_true]at hc;split at hc
    · cases hc
    · exact hc
  simp[Nj this s b zs]
 | (t,.arr a ks xs)::r,hc,s,b,zs=>by
  have:BF h r=true:=by
   simp only[BF]at hc;cases ht:(t==ah) with
   | false=>rw[ht]at hc;exact hc
   | true =>
    rw[ht]at hc;simp only[cond_true]at hc;split at hc
    · cases hc
    · exact hc
  simp[Nj this s b zs]
theorem acX {h:Heap} {st:St} {d:Option Nat} {e:Eff} (hc:BF h e.qI=true):kP st (st.apply d e):=by
 intro b zs hl;have hl:look (fC ((st.strike (present st.heap e.new++e.Ed)).kill e.cut).heap e.qI) ah=some (.log b zs):=hl;rcases Gp _ _ _ _ hl with hl | hl
 · exact uy _ _ _ _ (aeS _ _ _ _ hl)
 · exact absurd hl (Nj hc _ _ _)
theorem jY (F:Fp) (c:Code) (st:St):kP st (bQ F c st):=by
 unfold Skm.bQ;split
 · exact kP.refl _
 · split
   · exact kP.refl _
   · exact uy { st with env:=_ } _
theorem aah {st:St} {s d:Nat} (hne:s≠d) (hs:s<ah) (hd:d<ah):kP st (st.MG s d):=by
 intro b zs h;have hn:look (st.strike [d]).heap d=none:=by rw[fQ];simp
 have h:look (tK s d (st.strike [d]).heap) ah=some (.log b zs):=h;rw[vM hne ah hn,if_neg (by omega),if_neg (by omega)]at h;refine uy st [d] b zs ?_;cases hx:look (st.strike [d]).heap ah with
 | none=>rw[hx]at h;cases h
 | some y =>
  rw[hx]at h;cases y with
  | box=>simp[cu.ren]at h
  | arr=>simp[cu.ren]at h
  | log=>simpa [cu.ren] using h
theorem yF (nv:Nat) (zF:nv≤ah):∀ (l:List Oper) (st:St),kP st (o9 nv l st)
 | [],st=>kP.refl _
 | o::r,st=>by
  simp only[Skm.o9];split
  · rename_i d _ _;split
    · rename_i s _ _ _ _;cases hc:Nat.ble nv s&&(Nat.blt d nv&&Nat.blt s 100000) with
      | false=>exact yF nv zF r st
      | true =>
       simp only[qBa]at hc;have h2:d<nv:=Nat.le_of_ble_eq_true hc.2.1;have h1:s≠d:=by intro e;exact absurd (Nat.le_of_ble_eq_true hc.1) (Nat.not_le_of_lt (by rw[e];exact h2))
       have h3:s<100000:=Nat.le_of_ble_eq_true hc.2.2;have ea:ah=100000:=rfl;exact(aah h1 h3 (Nat.lt_of_lt_of_le h2 zF)).trans (yF nv zF r _)
    · exact yF nv zF r st
  · exact yF nv zF r st
def Has (x:List AV × List cu) (st:St):Prop:=∃ b zs,look st.heap ah=some (.log b zs)∧∃ ys,pV x.2=zs++ys
theorem Has.sub {x:List AV × List cu} {st st':St} (h:kP st st'):Has x st'→Has x st:=fun ⟨b,zs,h1,h2⟩=>⟨b,zs,h b zs h1,h2⟩
def KP (k:Ex→St→Option (List AV × List cu)):Prop:=∀ ex st x,k ex st=some x→Has x st
section
variable {T:Tab} {C:aS} {F:FI} {n:Nat}
theorem UF {hd:List Nat} {all:List Oper} {o:Oper} {st st':St} (h:step1 T C false hd all o st=some st'):kP st st':=by
 unfold step1 at h;split at h
 · cases h
 · cases h;exact fun _ _ h=>h
 · split at h
   · rename_i hc;simp only[qBa]at hc;cases h;exact acX hc.2
   · cases h
theorem Oh {draw:Bool} {st:St} {o:Oper} {xs vs:List PV} (h:rG draw st o=some (xs,vs)):∃ c ss t,draw=false∧o.op=.call c∧c.callee=.value (.tmp t)∧st.env.getD t .undef=.vN∧look st.heap ah=some (.log true xs)∧Gg (look st.heap) (l7 st.env c.args.toList)=some (vs,ss):=by
 cases draw with
 | true=>cases h
 | false =>
  have h:yieldOf st o=some (xs,vs):=h;unfold yieldOf at h;split at h
  · rename_i c hop;split at h
    · rename_i t hce;split at h
      · rename_i hy;split at h
        · rename_i xs' vs' ss h1 h2;cases h;exact⟨c,ss,t,rfl,hop,hce,hy,h1,h2⟩
        · cases h
      · cases h
    · cases h
  · cases h
theorem yR (st:St) (d:Option Nat) (xs vs:List PV) (b:Bool):look (kL st d xs vs b).heap ah=some (.log b (xs++[.agg vs])):=by show look (put _ ah _) ah=_;rw[dS,if_pos rfl]
theorem IB {hd:List (List Nat)} {all:List Oper} {k:St→Option (List AV × List cu)} (hk:∀ st x,k st=some x→Has x st):∀ (l:List Oper) (j:Nat) (st:St) (x:List AV × List cu),fP T C false hd all l j st k=some x→Has x st
 | [],j,st,x,h=>hk st x h
 | o::rest,j,st,x,h=>by
  cases hy:rG false st o with
  | none =>
   rw[qN _ _ hy]at h;cases h1:step1 T C false (hd.getD j []) all o st with
   | none=>rw[h1]at h;cases h
   | some st1 =>rw[h1]at h;exact(IB hk rest (j+1) st1 x h).sub (UF h1)
  | some p =>
   obtain⟨xs,vs⟩:=p;rw[rP _ _ hy]at h;obtain⟨_,_,_,_,_,_,_,hl,_⟩:=Oh hy;cases hg:guardOf all o st.env with
   | none=>rw[hg]at h;cases h
   | some b =>
    rw[hg]at h;cases b with
    | false=>exact(IB hk rest (j+1) _ x h).sub fun _ _ h=>h
    | true =>obtain⟨r,_,h3⟩:=Iu h;obtain⟨b,zs,h4,ys,h5⟩:=IB hk rest (j+1) _ x h3;rw[yR]at h4;cases h4;exact⟨true,xs,hl,.agg vs::ys,by rw[h5];simp⟩
theorem UG {b:Option cu} {st:St} {k:St→Option (List AV × List cu)} {x:List AV × List cu} (hk:∀ st x,k st=some x→Has x st) (h:sW b st k=some x):∃ on zs,b=some (.log on zs)∧∃ ys,pV x.2=zs++ys:=by
 unfold sW at h;split at h
 · split at h
   · rename_i on xs;obtain⟨b',zs,h1,h2⟩:=hk _ _ h;have h1:look (put st.heap ah (.log on xs)) ah=_:=h1;rw[dS,if_pos rfl]at h1;cases h1;exact⟨_,_,rfl,h2⟩
   · cases h
 · rename_i hno;obtain⟨b',zs,h1,h2⟩:=hk _ _ h;exact absurd h1 (hno _ _)
theorem BM:∀ (xs:List Nat) (st:St),kP st (rH xs st)
 | [],st=>kP.refl _
 | x::r,st=>by
  simp only[rH];split
  · rename_i v ss _;cases hf:jq ss with
    | false=>exact BM r st
    | true =>refine kP.trans ?_ (BM r _);exact fun b zs h=>uy st ss b zs h
  · exact BM r st
theorem GU (ts:List Nat):∀ (l:List Oper) (st:St),kP st (freezes ts l st)
 | [],st=>kP.refl _
 | o::r,st=>by
  simp only[freezes];split
  · exact kP.trans (BM _ st) (GU ts r _)
  · exact GU ts r st
theorem qO {F:Fp} (zF:F.nvars≤ah) (l:List Oper) (st:St):kP st (settle F l st):=by exact(yF _ zF l st).trans (GU _ l _)
theorem aai (zF:F.cfg.nvars≤ah) {id:Nat} {ops:Array Oper} {draw:Bool} {k:Ex→St→Option (List AV × List cu)} (hk:KP k) (st:St) (x:List AV × List cu) (h:bW T C F n (.region id ops draw) st k=some x):Has x st:=by
 have hk':∀ st x,(gZ (settle F.cfg ops.toList st) fun st'=>k .normal st')=some x→Has x st:=fun st x h=>by rw[bU]at h;exact(hk .normal _ x h).sub (qO zF _ _)
 simp only[bW]at h;cases draw with
 | false =>exact IB hk' _ _ _ _ h
 | true =>
  simp only at h;split at h
  · simp only[bU]at h;split at h
    · obtain⟨fin,_,h2⟩:=GK h;obtain⟨on,zs,h3,h4⟩:=UG (fun st x h=>(hk .normal _ x h).sub (qO zF _ _)) h2;exact⟨on,zs,uy _ _ _ _ h3,h4⟩
    · obtain⟨fin,_,h2⟩:=GK h;obtain⟨on,zs,h3,h4⟩:=UG (fun st x h=>IB (fun st x h=>(hk .normal _ x h).sub (qO zF _ _)) _ _ _ _ h) h2;exact⟨on,zs,uy _ _ _ _ h3,h4⟩
  · cases h
theorem qP (zF:F.cfg.nvars≤ah):∀ (c:Code) (k:Ex→St→Option (List AV × List cu)),KP k→∀ st x,bW T C F n c st k=some x→Has x st
 | .skip,k,hk,st,x,h=>hk .normal st x h
 | .region id ops draw,k,hk,st,x,h=>aai zF hk st x h
 | .seq y z,k,hk,st,x,h=>by
  rw[BK]at h;refine qP zF y _ (fun ex st x h=>?_) st x h;cases ex with
  | normal=>exact(qP zF z k hk _ x h).sub (jY _ _ _)
  | exit id=>exact hk (.exit id) st x h
  | ret=>exact hk .ret st x h
 | .cond c y z,k,hk,st,x,h=>by
  simp only[bW]at h;split at h
  · rename_i b _;cases b with
    | true=>exact qP zF y k hk st x h
    | false=>exact qP zF z k hk st x h
  · cases h
 | .block id c,k,hk,st,x,h=>by
  rw[Jb]at h;refine qP zF c _ (fun ex st x h=>?_) st x h;cases ex with
  | normal=>exact hk .normal st x h
  | exit j =>
   simp only[Nc]at h;cases hj:(j==id) with
   | true=>rw[hj]at h;exact hk .normal st x h
   | false=>rw[hj]at h;exact hk (.exit j) st x h
  | ret=>exact hk .ret st x h
 | .loop c,k,hk,st,x,h=>by
  simp only[bW]at h;have key:∀ (m:Nat) (st:St) (x:List AV × List cu),qg (bQ F.cfg c) (fun st' k'=>bW T C F n c st' k') m st k=some x→Has x st:=by
   intro m;induction m with
   | zero=>intro st x h;simp[qg]at h
   | succ m ih =>
    intro st x h;rw[GN]at h;refine qP zF c _ (fun ex st x h=>?_) st x h;cases ex with
    | normal =>simp only[RS,bU]at h;exact(ih _ x h).sub (jY _ _ _)
    | exit id=>exact hk (.exit id) st x h
    | ret=>exact hk .ret st x h
  exact(key n _ x h).sub (jY _ _ _)
 | .exit id,k,hk,st,x,h=>hk (.exit id) st x h
 | .ret,k,hk,st,x,h=>hk .ret st x h
 | .label _,k,hk,st,x,h=>hk .normal st x h
 | .rangeFunc f ps y z,k,hk,st,x,h=>by
  obtain⟨g,caps,fi,r,_,_,_,_,_,h⟩:=xB h;have key:∀ (l:List PV) (st:St) (x:List AV × List cu),lC (bQ F.cfg (.seq y z)) fi.cfg.yk ps.toList (nM ps y z) (AO T C F n y z) l st k=some x→Has x st:=by
   intro l;induction l with
   | nil=>intro st x h;exact hk .normal st x h
   | cons v l ih =>
    intro st x h;simp only[lC]at h;split at h
    · cases h
    · rename_i env _;rw[bU]at h;have hkr:KP (sZ (bQ F.cfg (.seq y z)) (nM ps y z) (fun st=>lC (bQ F.cfg (.seq y z)) fi.cfg.yk ps.toList (nM ps y z) (AO T C F n y z) l st k) k):=by
       intro ex st x h;cases ex with
       | normal =>simp only[sZ,bU]at h;exact((ih _ x h).sub (jY _ _ _)).sub fun _ _ h=>h
       | exit id =>simp only[sZ,bU]at h;exact(hk (.exit id) _ x h).sub fun _ _ h=>h
       | ret =>simp only[sZ,bU]at h;exact(hk .ret _ x h).sub fun _ _ h=>h
      refine(qP zF y (aac T C F n z _) (fun ex st x h=>?_) { st with env:=env } x h).sub fun _ _ h=>h;cases ex with
      | normal=>exact(qP zF z _ hkr _ x h).sub (jY _ _ _)
      | exit id=>exact hkr (.exit id) st x h
      | ret=>exact hkr .ret st x h
  exact(key _ _ x h).sub (jY _ _ _)
 | .scope c,k,hk,st,x,h=>qP zF c k hk st x h
 | .goto ..,_,_,_,_,h | .refuse ..,_,_,_,_,h=>by simp[bW]at h
theorem KP.seq (zF:F.cfg.nvars≤ah) {k:Ex→St→Option (List AV × List cu)} (hk:KP k) (z:Code):KP (aac T C F n z k):=by
 intro ex st x h;cases ex with
 | normal=>exact(qP zF z k hk _ x h).sub (jY _ _ _)
 | exit id=>exact hk (.exit id) st x h
 | ret=>exact hk .ret st x h
theorem KP.block {k:Ex→St→Option (List AV × List cu)} (hk:KP k) (id:Nat):KP (Nc id k):=by
 intro ex st x h;cases ex with
 | normal=>exact hk .normal st x h
 | exit j =>
  simp only[Nc]at h;cases hj:(j==id) with
  | true=>rw[hj]at h;exact hk .normal st x h
  | false=>rw[hj]at h;exact hk (.exit j) st x h
 | ret=>exact hk .ret st x h
theorem KP.loop (zF:F.cfg.nvars≤ah) {k:Ex→St→Option (List AV × List cu)} (hk:KP k) (c:Code) (m:Nat):KP (RS T C F n c m k):=by
 have key:∀ (m:Nat) (st:St) (x:List AV × List cu),qg (bQ F.cfg c) (fun st' k'=>bW T C F n c st' k') m st k=some x→Has x st:=by
  intro m;induction m with
  | zero=>intro st x h;simp[qg]at h
  | succ m ih =>
   intro st x h;rw[GN]at h;refine qP zF c _ (fun ex st x h=>?_) st x h;cases ex with
   | normal =>simp only[RS,bU]at h;exact(ih _ x h).sub (jY _ _ _)
   | exit id=>exact hk (.exit id) st x h
   | ret=>exact hk .ret st x h
 intro ex st x h;cases ex with
 | normal =>simp only[RS,bU]at h;exact(key m _ x h).sub (jY _ _ _)
 | exit id=>exact hk (.exit id) st x h
 | ret=>exact hk .ret st x h
end
end Go.Skm
namespace Go.Skm
open Go.RowKit
def gcx (gl:Option (List (Nat × Obj))) (wd:World) (M0:Nat→Prop) (on:Bool) (done:List PV) (t0:Array Value) (ys:List Nat) (yv:Value):Cx :=
 { w0:=⟨wd,wd.heap.size,Nat.le_refl _,gl⟩,Pr:=fun _=>False,M0:=M0,OQ:=fun _=>none,hp0:=[(ah,.log on done)],Wr:=fun _=>True,t0,rd:=none,L0:=[],nm:=wd.heap.size,Ys:=fun t=>t∈ys,yv:=yv }
structure Gv where
 W0:World
 M0:Nat→Prop
 J:List PV→(Nat→Prop)→(Nat→Prop)→World→Prop
 Jx:(Nat→Prop)→(Nat→Prop)→World→Prop
 t0:Array Value
 l:Nat
 gl:Option (List (Nat × Obj))
 ys:List Nat
abbrev Gv.yv (G:Gv):Value:=.func (.yield G.l) #[] #[]
structure Gv.Ok (G:Gv) (P:Program):Prop where
 j:∀ r O K W W',G.J r O K W→rV G.gl W W'→G.J r O K W'
 jx:∀ O K W W',G.Jx O K W→rV G.gl W W'→G.Jx O K W'
 lt:∀ r O K W,G.J r O K W→∀ b,O b∨K b→b<W.heap.size
 y:∀ vs r O K W (M:Nat→Prop) aY,G.J (.agg vs::r) O K W→G.W0.heap.size≤W.heap.size→(∀ b,M b→b<W.heap.size∧¬ O b∧(G.M0 b∨G.W0.heap.size≤b))→aY.size=vs.length→(∀ i c,vs[i]?=some c→VR W M c (aY.getD i undef))→TQ P G.gl G.l aY W (G.J r) G.Jx O K M
def GI (G:Gv) (x:List AV × List cu) (st:St) (a:Act) (w:World):Prop :=
 ∃ wd Mk on done,Inv (gcx G.gl wd Mk on done G.t0 G.ys G.yv) st a w∧(∀ b zs,look st.heap ah=some (.log b zs)→b=on∧zs=done)∧G.W0.heap.size≤wd.heap.size∧(∀ b,Mk b→b<wd.heap.size∧(G.M0 b∨G.W0.heap.size≤b)) ∧
  ((on=true∧∃ rest O K,pV x.2=done++rest∧G.J rest O K wd∧∀ b,Mk b→¬ O b)∨(on=false∧∃ O K,G.Jx O K wd))
section
variable {P:Program} {G:Gv} {x:List AV × List cu} {st st':St} {a a':Act} {w w':World}
theorem GI.map (g:GI G x st a w) (h:∀ cx,Inv cx st a w→Inv cx st' a' w') (hl:kP st st'):GI G x st' a' w':=by obtain⟨wd,Mk,on,done,i,h1,h2,h3,h4⟩:=g;exact⟨wd,Mk,on,done,h _ i,fun b zs hb=>h1 b zs (hl b zs hb),h2,h3,h4⟩
theorem AR.swap {w:World} {M:Nat→Prop} {β:Nat→Option (Nat × Nat)} {h h':Nat→Option cu} (hh:∀ s blk,h s=some blk→(∀ b zs,blk≠.log b zs)→h' s=some blk) {v:AV} {c:Value} (hv:AR w M β h v c):AR w M β h' v c:=by
 induction hv with
 | undef c=>exact .undef c
 | p v c hv=>exact .p v c hv
 | slice s off len a ks xs b o cap h1 hl hb hcap hr=>exact .slice s off len a ks xs b o cap (hh _ _ h1 (by simp)) hl hb hcap hr
 | sliceE s off a ks xs base h1 hl=>exact .sliceE s off a ks xs base (hh _ _ h1 (by simp)) hl
 | bslice s off len cs b o cap h1 hl hb hcap=>exact .bslice s off len cs b o cap (hh _ _ h1 (by simp)) hl hb hcap
 | bsliceE s off cs base h1 hl=>exact .bsliceE s off cs base (hh _ _ h1 (by simp)) hl
 | ptrB s off cs b o h1 hb=>exact .ptrB s off cs b o (hh _ _ h1 (by simp)) hb
 | ptrA s idx off a ks xs b o h1 hi hb=>exact .ptrA s idx off a ks xs b o (hh _ _ h1 (by simp)) hi hb
 | pq a ks x off b o f hM hx hc hv=>exact .pq a ks x off b o f hM hx hc hv
 | fn f cs vs hn _ ih=>exact .fn f cs vs hn ih
 | agg cs vs hn hl _ ih=>exact .agg cs vs hn hl ih
 | qY cs vs hn _ ih=>exact .qY cs vs hn ih
 | vN l=>exact .vN l
theorem Rel.ahL {w0:Base} {Pr M0 M:Nat→Prop} {β:Nat→Option (Nat × Nat)} (r:Rel w0 Pr M0 M β st a w) {b0:Bool} {zs0:List PV} (h0:look st.heap ah=some (.log b0 zs0)) (b:Bool) (zs:List PV):Rel w0 Pr M0 M β { st with heap:=put st.heap ah (.log b zs) } a w:=by
 have hlk:∀ s,look (put st.heap ah (.log b zs)) s=if s=ah then some (.log b zs) else look st.heap s:=fun s=>dS _ _ _ _
 have key:∀ {v:AV} {c:Value},AR w M β (look st.heap) v c→AR w M β (look (put st.heap ah (.log b zs))) v c:=fun hv=>hv.swap fun s blk hs hn=>by
  rw[hlk];by_cases e:s=ah
  · subst e;rw[h0]at hs;cases hs;exact absurd rfl (hn _ _)
  · rw[if_neg e];exact hs
 have live:∀ s,(look (put st.heap ah (.log b zs)) s).isSome=true→(look st.heap s).isSome=true:=by
  intro s hs;rw[hlk]at hs;by_cases e:s=ah
  · subst e;rw[h0];rfl
  · rw[if_neg e]at hs;exact hs
 refine⟨r.oK,fun t v hv=>key (r.env t v hv),fun s blk hs=>?_,fun s b o hs hb=>r.own s b o (live s hs) hb,fun s s' b o o' hs hs'=>r.inj s s' b o o' (live s hs) (live s' hs'),r.gU,r.lY,r.tu,r.keep,r.room,r.size,r.os,r.tape,r.output,r.glob⟩;have hs:look (put st.heap ah (.log b zs)) s=some blk:=hs;rw[hlk]at hs;by_cases e:s=ah
 · rw[if_pos e]at hs;cases hs;exact .log _ _
 · rw[if_neg e]at hs;cases r.heap s blk hs with
   | box cs b o C e fr k1 k2 k3 k4 k5 k6=>exact .box cs b o C e fr k1 k2 k3 k4 k5 fun j c hj=>key (k6 j c hj)
   | jS a ks=>exact .jS a ks
   | log on ys=>exact .log on ys
   | arr a ks xs b o C e fr k1 k2 k3 k4 k5 k6=>exact .arr a ks xs b o C e fr k1 k2 k3 k4 k5 k6
theorem uV {s k:Nat}:∀ {h:Heap},k∈jM s h↔k≠s∧(look h k).isSome=true
 | []=>by simp[jM,look]
 | (t,c)::h=>by
  have ih:=uV (s:=s) (k:=k) (h:=h);simp only[jM,look];by_cases hts:t=s
  · subst hts;simp only[beq_self_eq_true,cond_true];rw[ih];by_cases htk:t=k
    · subst htk;simp
    · have:(t==k)=false:=by simpa using htk
      simp[this]
  · have:(t==s)=false:=by simpa using hts
    simp only[this,cond_false,List.mem_cons];rw[ih];by_cases htk:t=k
    · subst htk;simp[hts]
    · have h2:(t==k)=false:=by simpa using htk
      rw[h2];simp only[cond_false];constructor
      · rintro (rfl | h)
        · exact absurd rfl htk
        · exact h
      · exact .inr
theorem Jc {h:Nat→Option cu} {ss:List Nat}:∀ (l:List AV),(CP h ss l).length=l.length
 | []=>rfl
 | v::r=>by simp[CP,Jc r]
theorem RV {h:Nat→Option cu} {ss:List Nat}:∀ (l:List AV) (t:Nat),(CP h ss l)[t]?=(l[t]?).map (VU h ss)
 | [],t=>by simp[CP]
 | v::r,0=>by simp[CP]
 | v::r,t+1=>by simp[CP,RV r t]
theorem aeT {w0:Base} {Pr M0 M:Nat→Prop} {β:Nat→Option (Nat × Nat)} (r:Rel w0 Pr M0 M β st a w) {v:AV} {y:PV} {c:Value} (h:aa9 (lI [ah] (look st.heap)) v=some y) (hv:AR w M β (look st.heap) v c):VR w (dR M β (jM ah st.heap)) y c:=by
 unfold aa9 at h;split at h
 · rename_i s;split at h
   · rename_i cs hs;split at h
     · rename_i vs hp;cases h;have hne:s≠ah:=by rintro rfl;simp[lI,jC]at hs
       have hs':look st.heap s=some (.box cs):=by have:jC s [ah]=false:=gG.2 (by simp[hne]);simpa only[lI,this,cond_false] using hs
       have hd:KF (look st.heap) (.ptr s 0 0)=some (.ref vs,[s]):=by
        have hcs:=yu hp;have:∀ l:List PV,Ap (look st.heap) (l.map .p)=some (l,[]):=by
         intro l;induction l with
         | nil=>rfl
         | cons x l ih=>simp only[List.map_cons,Ap,NQ,ih];rfl
        simp only[KF,hs',hcs,this]
       obtain⟨d1,_,_⟩:=QY r.heap (fun _ _ h=>h) hd hv;refine d1.mono fun b hb=>⟨hb.imp id fun ⟨s',o,h1,h2⟩=>⟨s',o,?_,h2⟩,rfl⟩;simp only[List.mem_singleton]at h1;subst h1;exact uV.2 ⟨hne,by rw[hs'];rfl⟩
     · cases h
   · cases h
 · cases h
theorem GI.after {wd : World} {Mk : Nat → Prop} {done : List PV} (hG : G.Ok P) (i : Inv (gcx G.gl wd Mk true done G.t0 G.ys G.yv) st a w) (hl : look st.heap ah = some (.log true done)) (h2 : G.W0.heap.size ≤ wd.heap.size) (h3 : ∀ b,Mk b → b < wd.heap.size ∧ (G.M0 b ∨ G.W0.heap.size ≤ b)) {O K : Nat → Prop} {vs rest : List PV}
    (hJ:G.J (.agg vs::rest) O K wd) (hMO:∀ b,Mk b→¬ O b) {W':World} (ht:Turns G.gl O w W') {d:Option Nat} (hd:∀ t,d=some t→t ∉ G.ys) (b:Bool)
    (h4:(b=true∧(∃ O' K',G.J rest O' K' W'∧∀ c,O' c→O c∨w.heap.size≤c)∧∃ ys,pV x.2=(done++[.agg vs])++ys∧ys=rest)∨(b=false∧∃ O K,G.Jx O K W')):GI G x (kL st d done vs b) (a.put d (.bool b)) W':=by
  obtain⟨M,β,L,ds,r,i1,i2,i3,fx⟩:=i;have hds:ds=[]:=fx.one fun h=>h done (by simp[gcx,look]);subst hds;have hgs:wd.heap.size≤w.heap.size:=r.size;have hts:=ht.size;have ab4:∀ b,O b→b<wd.heap.size:=fun b hb=>hG.lt _ _ _ _ hJ b (.inl hb);have hn0:∀ c s o,s∈jM ah st.heap→β s=some (c,o)→wd.heap.size≤c:=fun c s o hs hb=>by
   rcases(r.own s c o (uV.1 hs).2 hb).2.2.1 with h | h
   · exact h
   · exact h.elim
  have r0:=r.strike (jM ah st.heap) (M':=dR M β (jM ah st.heap)) (fun _ h=>.inl h) (fun c h=>by
   rcases h with h | ⟨s,o,h1,h2⟩
   · exact .inl h
   · exact .inr ⟨hn0 c s o h1 h2,s,o,h1,(uV.1 h1).2,h2⟩)
  have r1:Rel _ _ _ (dR M β (jM ah st.heap)) β { env:=CP (lI [ah] (look st.heap)) (jM ah st.heap) st.env,heap:=(st.strike (jM ah st.heap)).heap } a w:=r0.slots (by rw[Jc];exact r.oK) fun t v hv=>by
   rw[RV]at hv;cases he:st.env[t]? with
   | none=>rw[he]at hv;cases hv
   | some u =>
    rw[he]at hv;simp only[Option.map_some,qOa]at hv;have hu:=r.env t u he;unfold VU at hv;cases hr:aa9 (lI [ah] (look st.heap)) u with
    | some y =>rw[hr]at hv;subst hv;exact .p _ _ (aeT r hr hu)
    | none =>
     rw[hr]at hv;subst hv;refine r0.env t _ ?_;have hs:∀ ss:List Nat,(st.strike ss).env=jd ss st.env:=fun ss=>by
      cases ss with
      | nil=>show st.env=_;rw[uT]
      | cons _ _=>rfl
     rw[hs,jI,he];rfl
  have hls:look (st.strike (jM ah st.heap)).heap ah=some (.log true done):=by rw[fQ,if_neg (fun h=>(uV.1 h).1 rfl),hl];rfl
  have hon:∀ s,(look (st.strike (jM ah st.heap)).heap s).isSome=true→s=ah:=fun s hs=>by
   rw[fQ]at hs;by_cases h:s∈jM ah st.heap
   · rw[if_pos h]at hs;cases hs
   · rw[if_neg h]at hs;by_cases e:s=ah
     · exact e
     · exact absurd (uV.2 ⟨e,by simpa using hs⟩) h
  have hMn:∀ c,dR M β (jM ah st.heap) c→c<w.heap.size∧¬ O c∧(G.M0 c∨G.W0.heap.size≤c):=fun c hc=>by
   refine⟨r0.gU c hc,fun ho=>?_,?_⟩
   · rcases r0.lY c hc with h | ⟨h,_⟩
     · exact hMO c h ho
     · have:=ab4 c ho;have h:wd.heap.size≤c:=h;omega
   · rcases r0.lY c hc with h | ⟨h,_⟩
     · exact(h3 c h).2
     · have h:wd.heap.size≤c:=h;right;omega
  let Mn:Nat→Prop:=fun c=>c<w.heap.size∧¬ O c∧(G.M0 c∨G.W0.heap.size≤c);have tX:∀ c o,β ah≠some (c,o):=fun c o h=>by rw[i1 ah (Nat.le_refl _)]at h;cases h
  have hno:∀ s c o,(look (st.strike (jM ah st.heap)).heap s).isSome=true→β s≠some (c,o):=fun s c o hs h=>by rw[hon s hs]at h;exact tX c o h
  have r2:Rel ⟨W',W'.heap.size,Nat.le_refl _,G.gl⟩ (fun _=>False) Mn Mn β { env:=CP (lI [ah] (look st.heap)) (jM ah st.heap) st.env,heap:=(st.strike (jM ah st.heap)).heap } a W' :=
   r1.to rfl (fun c hc=>⟨hMn c hc,ht.keep c (hMn c hc).1 (hMn c hc).2.1⟩) (fun s c o hs h=>absurd h (hno s c o hs)) (fun c hc=>Nat.lt_of_lt_of_le hc.1 hts) (fun c hc=>.inl hc) (fun c hc=>hc) (fun _ _ _=>rfl) (fun _ _ _ h=>h.elim) (Nat.le_refl _) rfl rfl rfl
  have r3:=(r2.setEnv d (v:=.p (.bool b)) (c:=.bool b) (.p _ _ (.bool b))).ahL (b0:=true) (zs0:=done) hls b (done++[.agg vs]);refine⟨W',Mn,b,done++[.agg vs],⟨Mn,β,[],[],r3,i1,fun s hs blk hb=>?_,.refl _ _,⟨fun p hp=>by simp at hp,fun p hp=>hp,?_,List.nodup_nil,fun D hD=>by simp at hD,fun l hl=>(by cases hl),(og _ _ _).trans fx.size,fun t ht=>absurd trivial ht,fun _=>rfl,fun t ht=>?_,Nat.le_refl _⟩⟩,fun c zs hc=>?_,by omega,fun c hc=>⟨Nat.lt_of_lt_of_le hc.1 hts,hc.2.2⟩,?_⟩
  · have hb:look (put (st.strike (jM ah st.heap)).heap ah (.log b (done++[.agg vs]))) s=some blk:=hb;rw[dS]at hb;by_cases e:s=ah
    · subst e;rw[if_pos rfl]at hb;cases hb;exact⟨.log b (done++[.agg vs]),by simp[gcx,look],rfl⟩
    · rw[if_neg e]at hb;exact absurd (hon s (by rw[hb];rfl)) e
  · rw[put_defers];exact fx.marks
  · rw[Wq fun e=>hd t e ht];exact fx.yl t ht
  · rw[yR]at hc;cases hc;exact⟨rfl,rfl⟩
  · rcases h4 with ⟨rfl,⟨O',K',k1,k2⟩,ys,k3,rfl⟩ | ⟨rfl,k1⟩
    · refine .inl ⟨rfl,_,O',K',k3,k1,fun c hc ho=>?_⟩;rcases k2 c ho with h | h
      · exact hc.2.1 h
      · have:=hc.1;omega
    · exact .inr ⟨rfl,k1⟩
theorem WC {all:List Oper} {ops:Array Oper} (he:ops.toList=all) {cx:Cx} (i:Inv cx st a w) {o:Oper} {b:Bool} (h:guardOf all o st.env=some b):Region.wanted o (yielded ops a.tmps)=b:=by
 unfold guardOf at h;cases hg:o.guard with
 | none=>rw[hg]at h;cases h;simp[Region.wanted,hg]
 | some gw =>
  obtain⟨g,want⟩:=gw;rw[hg]at h;simp only at h;cases hd:uO all g with
  | none=>rw[hd]at h;cases h
  | some t =>
   rw[hd]at h;simp only at h;split at h
   · rename_i c hc;cases h;have hy:=RF he hd i hc;simp only[Region.wanted,hg,hy];cases c<;>cases want<;>rfl
   · rename_i hc;cases h;have hy:=KX he hd i hc;simp only[Region.wanted,hg,hy];rfl
   · cases h
theorem PZ {ρ : Operand → Value} {dst : Option Tmp} {fo : Operand} {args : Array Operand} {ts : Array TypeId} {type : TypeId} {pos : String} {after : Array Edge} {guard : Option (Nat × Bool)} {l : Nat} (h : ρ fo = .func (.yield l) #[] #[]) :
    (execOp ρ ⟨dst,.call ⟨.value fo,args,ts⟩,type,pos,after,guard⟩)=Instr.yield l (args.map ρ):=by
  simp only[execOp,resolve,h,Deferred.ofValue];simp[invoke]
end
end Go.Skm
