import Derived.Test.YtoheflpoanjihaaGreatF5
import Derived.Test.YtoheflpoanjihaaGreatG22
import Derived.Test.YtoheflpoanjihaaGreatE1
import Derived.LoopNIn
import Derived.RangeFuncLeaves
set_option maxRecDepth 100000
namespace Go.Skm.Fen
open Go Go.Skm Go.Proofs Go.RowKit
noncomputable def Eu (e0:Ex) (S0:St):Ex→St→Option Unit:=fun ex st=>open Classical in if ex=e0∧st=S0 then some () else none
theorem lQ (e0:Ex) (S0:St):Eu e0 S0 e0 S0=some ():=by unfold Eu;rw[if_pos ⟨rfl,rfl⟩]
theorem afz {e0:Ex} {S0:St} {ex:Ex} {st:St} (h:Eu e0 S0 ex st=some ()):ex=e0∧st=S0:=by
 unfold Eu at h;split at h
 · next hc=>exact hc
 · cases h
structure Frm (gl:Option (List (Nat × Obj))) (cx:Cx):Prop where
 hp:cx.hp0=[]
 hgl:cx.w0.gl=gl
 rd:cx.rd=none
 wr:cx.Wr=fun t=>t≠2
 ys:cx.Ys=fun _=>False
 t0:cx.t0.size=43
theorem Frm.Xn {gl:Option (List (Nat × Obj))} {cx:Cx} (h:Frm gl cx):Ai cx.hp0:=by rw[h.hp];intro xs hx;cases hx
theorem anb:qw.cfg.nvars≤ah:=by decide
theorem Hu {gl : Option (List (Nat × Obj))} {X : Ext} (hC : jl Tryz.prog tab gl (run tab X)) {cx : Cx} (hf : Frm gl cx) {c : Code} (hd : eU tab qw.hides c = true) (hn : fH c = true) (h2 : pR c = true) {st : St} {a : Act} {w : World} {e0 : Ex} {S0 : St}
    (h:bW tab (run tab X) qw 0 c st (Eu e0 S0)=some ()) (i:Inv cx st a w) {Q:Exit→Act→World→Prop} (hQ:∀ a' w',Inv cx S0 a' w'→Q e0.Vj a' w'):c.wpIn (FW none) 0 Tryz.prog Q a w:=by
  have key:c.wpIn (FW cx.rd) 0 Tryz.prog Q a w:=kC (ng:=true) (Bz (F:=qw) (n:=0) (m:=0) JQ hC anb ()) (fun h=>by cases h) c ⟨cx,hf.Xn,hf.hgl⟩ st a w (Eu e0 S0) () Q trivial h hd (fun _=>hn) (fun o ho=>⟨fun t ht=>?_,fun t _ hy=>?_⟩) ⟨rfl,i⟩ (fun ex x' st' a' w' h1 h2=>?_)
  · rw[hf.rd]at key;exact key
  · rw[hf.wr];have:=List.all_eq_true.1 h2 o ho;rw[ht]at this;intro e;subst e;simp at this
  · rw[hf.ys]at hy;exact hy.elim
  · obtain⟨rfl,rfl⟩:=afz h1;exact hQ a' w' h2.2
theorem Inv.ai8 {cx:Cx} {st:St} {a:Act} {w:World} (i:Inv cx st a w) (env':List AV) (hl:env'.length≤st.env.length) (hs:∀ (t:Nat) (v:AV),env'[t]?=some v→v=.undef∨st.env[t]?=some v):Inv cx ⟨env',st.heap⟩ a w:=by
 obtain⟨M,β,L,ds,r,i1,i2,i3,fx⟩:=i;refine⟨M,β,L,ds,r.slots (a':=a) (Nat.le_trans hl r.oK) fun t v hv=>?_,i1,i2,i3,fx⟩;rcases hs t v hv with rfl | h
 · exact .undef _
 · exact r.env t v h
theorem aaJ (l:List (Nat × AV)):(E l).length=43:=by simp[E]
theorem agH (l:List (Nat × AV)) (t:Nat) (v:AV) (h:(E l)[t]?=some v):t<43∧v=(dN l t).getD .undef:=by
 have ht:t<43:=by have:=(qLa.1 h).1;rwa[aaJ]at this
 refine⟨ht,?_⟩;unfold E at h;rw[List.getElem?_map,List.getElem?_range ht]at h;simpa using h.symm
theorem anc (l:List (Nat × AV)) (t:Nat) (ht:t<43):(E l)[t]?=some ((dN l t).getD .undef):=by unfold E;rw[List.getElem?_map,List.getElem?_range ht];rfl
theorem Inv.less {cx:Cx} {l l':List (Nat × AV)} {hp:Heap} {a:Act} {w:World} (i:Inv cx ⟨E l,hp⟩ a w) (h:∀ p∈l',dN l p.1=some p.2):Inv cx ⟨E l',hp⟩ a w:=by
 refine Inv.ai8 i (E l') (by rw[aaJ];show 43≤(E l).length;rw[aaJ];exact Nat.le_refl _) fun t v hv=>?_;obtain⟨ht,rfl⟩:=agH l' t v hv;cases hl:dN l' t with
 | none=>exact .inl rfl
 | some u =>
  right;have hm:∀ {l:List (Nat × AV)} {t:Nat} {u:AV},dN l t=some u→(t,u)∈l:=by
   intro l;induction l with
   | nil=>intro t u h;cases h
   | cons p r ih =>
    intro t u h;obtain⟨g,x⟩:=p;rw[dN]at h;by_cases e:(g==t)=true
    · rw[e]at h;cases h;rw[eq_of_beq e];simp
    · have e':(g==t)=false:=by simpa using e
      rw[e']at h;exact List.mem_cons_of_mem _ (ih h)
  show (E l)[t]?=some u;rw[anc l t ht,h _ (hm hl)];rfl
structure Sep (gl:Option (List (Nat × Obj))) (W0:World) (J:(Nat→Prop)→(Nat→Prop)→World→Prop) (By L:Nat) (cx:Cx) (Oo Ko:Nat→Prop):Prop where
 Zf:Frm gl cx
 j:J Oo Ko cx.w0.wd
 lt:∀ b,Oo b∨Ko b→b<cx.w0.heap.size
 m0:∀ b,cx.M0 b→¬ Oo b
 pr:∀ b,cx.Pr b→¬ Oo b∧¬ Ko b∧W0.heap.size≤b
 l0:∀ p∈cx.L0,¬ Oo p.1∧¬ Ko p.1∧W0.heap.size≤p.1
 box:(By,Obj.cells #[IQ L] 122 (0,0))∈cx.L0
 t2:cx.t0.getD 2 undef=.pointer (some ⟨By,0,none⟩)
 w0:W0.heap.size≤cx.w0.heap.size
 n0:W0.heap.size≤cx.w0.n0
theorem Sep.now {gl:Option (List (Nat × Obj))} {W0:World} {J:(Nat→Prop)→(Nat→Prop)→World→Prop} (hJ:Bears gl W0 J) {By L:Nat} {cx:Cx} {Oo Ko:Nat→Prop} (s:Sep gl W0 J By L cx Oo Ko) {M:Nat→Prop} {β:Nat→Option (Nat × Nat)} {st:St} {a:Act} {w:World} (r:Rel cx.w0 cx.Pr cx.M0 M β st a w) (i3:jK cx.w0.gl cx.w0.drawn w.drawn):J Oo Ko w:=by have ht:=r.turns i3;rw[s.Zf.hgl]at ht;exact hJ _ _ _ _ _ s.j ht fun b hb=>⟨(s.pr b hb).2.2,(s.pr b hb).1,(s.pr b hb).2.1⟩
theorem Sep.anew {gl : Option (List (Nat × Obj))} {W0 : World} {J J' : (Nat → Prop) → (Nat → Prop) → World → Prop} {By L : Nat} {cx : Cx} {Oo Ko : Nat → Prop} (s : Sep gl W0 J By L cx Oo Ko) {st : St} {a : Act} {w W' : World} {M : Nat → Prop} {β : Nat → Option (Nat × Nat)} {Ls : List (Nat × Obj)} {ds : List Nat}
    (r:Rel cx.w0 cx.Pr cx.M0 M β st a w) (i1:∀ x,ah≤x→β x=cx.OQ x) (i2:lX cx.hp0 st.heap) (fx:Fix cx M β st.heap a w Ls ds) {O' K':Nat→Prop} (hj:J' O' K' W') (ht:Turns gl Oo w W') (hD:W'.heap[w.heap.size]?=some (.deferred (some []))) (hO:∀ b,O' b→Oo b∨w.heap.size+2≤b) (hK:∀ b,K' b→Ko b∨Oo b∨w.heap.size+2≤b) (hlt:∀ b,O' b∨K' b→b<W'.heap.size) (hsz:w.heap.size+2≤W'.heap.size) :
    ∃ Jk,Sep gl W0 J' By L Jk O' K'∧Inv Jk st { a with defers:=BX w.heap.size::a.defers } W':=by
  have hrs:=r.size;have hle:=cx.w0.le';have hOb:∀ b,Oo b→b<cx.w0.heap.size:=fun b hb=>s.lt b (.inl hb);have hKb:∀ b,Ko b→b<cx.w0.heap.size:=fun b hb=>s.lt b (.inr hb);have hM:∀ b,M b→¬ Oo b:=fun b hb ho=>by
   rcases r.lY b hb with h | ⟨_,h⟩
   · exact s.m0 b h ho
   · rcases h with h | h
     · have:=hOb b ho;omega
     · exact(s.pr b h).1 ho
  have hown:∀ b,mQ β st.heap b→¬ Oo b∧¬ Ko b∧W0.heap.size≤b:=fun b hb=>by
   rcases(r.mV hb).2.2 with h | h
   · have:=s.w0;exact⟨fun ho=>by have:=hOb b ho;omega,fun ho=>by have:=hKb b ho;omega,by omega⟩
   · exact s.pr b h
  have hmk:∀ D∈ds,¬ Oo D∧¬ Ko D∧W0.heap.size≤D:=fun D hD=>by
   rcases(fx.mark D hD).2.2 with h | h
   · exact s.l0 _ h
   · have:=s.w0;exact⟨fun ho=>by have:=hOb D ho;omega,fun ho=>by have:=hKb D ho;omega,by omega⟩
  have up:∀ b,b<w.heap.size→¬ Oo b→¬ Ko b→¬ O' b∧¬ K' b:=fun b hb h1 h2=>⟨fun h=>(hO b h).elim h1 fun h=>by omega,fun h=>by
   rcases hK b h with h | h | h
   · exact h2 h
   · exact h1 h
   · omega⟩
  let L1:List (Nat × Obj):=(w.heap.size,.deferred (some []))::(cx.L0++ds.map fun D=>(D,Obj.deferred (some [])));have hL1:∀ p∈L1,(p=(w.heap.size,Obj.deferred (some [])))∨(p∈Ls∧¬ Oo p.1∧¬ Ko p.1∧W0.heap.size≤p.1):=fun p hp=>by
   rcases List.mem_cons.1 hp with h | h
   · exact .inl h
   · rcases List.mem_append.1 h with h | h
     · exact .inr ⟨fx.sub p h,s.l0 p h⟩
     · obtain⟨D,hD,rfl⟩:=List.mem_map.1 h;exact .inr ⟨(fx.mark D hD).1,hmk D hD⟩
  have ahj:∀ p∈Ls,p.1<w.heap.size:=fun p hp=>(qAa.1 (fx.lies p hp).1).1;refine⟨{ w0:=⟨W',cx.w0.n0,by have:=ht.size;omega,cx.w0.gl⟩,Pr:=mQ β st.heap,M0:=M,OQ:=cx.OQ,hp0:=cx.hp0,Wr:=cx.Wr,t0:=cx.t0,rd:=none,L0:=L1,nm:=cx.nm },?_,?_⟩
  · refine⟨⟨s.Zf.hp,s.Zf.hgl,rfl,s.Zf.wr,rfl,s.Zf.t0⟩,hj,hlt,fun b hb h=>?_,fun b hb=>?_,fun p hp=>?_,?_,s.t2,by have:=s.w0;show W0.heap.size≤W'.heap.size;omega,s.n0⟩
    · rcases hO b h with h | h
      · exact hM b hb h
      · have:=r.gU b hb;omega
    · obtain⟨h1,h2,h3⟩:=hown b hb;exact⟨(up b (r.mV hb).2.1 h1 h2).1,(up b (r.mV hb).2.1 h1 h2).2,h3⟩
    · rcases hL1 p hp with rfl | ⟨h,h1,h2,h3⟩
      · refine⟨fun h=>?_,fun h=>?_,by have:=s.w0;show W0.heap.size≤w.heap.size;omega⟩
        · rcases hO _ h with h | h
          · have:=hOb _ h;simp only at this;omega
          · simp only at h;omega
        · rcases hK _ h with h | h | h
          · have:=hKb _ h;simp only at this;omega
          · have:=hOb _ h;simp only at this;omega
          · simp only at h;omega
      · have:=up p.1 (ahj p h) h1 h2;exact⟨this.1,this.2,h3⟩
    · exact List.mem_cons_of_mem _ (List.mem_append_left _ s.box)
  · have rr : Rel (⟨W',cx.w0.n0,by have := ht.size; omega,cx.w0.gl⟩ : Base) (mQ β st.heap) M M β st a W' := by refine r.to rfl (fun b hb=>⟨hb,ht.keep b (r.gU b hb) (hM b hb)⟩) (fun x b o hs hb=>?_) (fun b hb=>Nat.lt_of_lt_of_le (r.gU b hb) ht.size) (fun b hb=>.inl hb) (fun b hb=>hb) (fun _ _ _=>rfl) (fun _ _ _ _ h=>h) (Nat.le_refl _) rfl rfl rfl;obtain⟨g1,g2,g3,g4⟩:=r.own x b o hs hb;exact⟨ht.keep b g2 (hown b ⟨x,o,hs,hb⟩).1,g1,Nat.lt_of_lt_of_le g2 ht.size,.inr ⟨x,o,hs,hb⟩,g4⟩
    refine⟨M,β,L1,w.heap.size::ds,rr.slots (a':={ a with defers:=BX w.heap.size::a.defers }) rr.oK rr.env,i1,i2,.refl _ _,⟨fun p hp=>?_,fun p hp=>hp,by show _::_=_;rw[fx.marks];rfl,List.nodup_cons.2 ⟨fun h=>?_,fx.nodup⟩,fun D hD=>?_,fun l hl=>(by cases hl),fx.size,fx.tmps,fun h=>absurd s.Zf.Xn h,fun _ h=>h.elim,by have:=fx.nml;show cx.nm≤W'.heap.size;omega⟩⟩
    · rcases hL1 p hp with rfl | ⟨h,h1,_,_⟩
      · exact⟨hD,fun h=>by have:=(r.mV h).2.1;exact absurd this (Nat.lt_irrefl _),fun h=>by have:=r.gU _ h;exact absurd this (Nat.lt_irrefl _)⟩
      · obtain⟨g1,g2,g3⟩:=fx.lies p h;exact⟨(ht.keep _ (ahj p h) h1).trans g1,g2,g3⟩
    · have:=ahj _ (fx.mark _ h).1;exact absurd this (Nat.lt_irrefl _)
    · rcases List.mem_cons.1 hD with rfl | hD
      · exact⟨List.mem_cons_self,by have:=fx.nml;show cx.nm≤w.heap.size;omega,.inl List.mem_cons_self⟩
      · have:(D,Obj.deferred (some []))∈L1:=List.mem_cons_of_mem _ (List.mem_append_right _ (List.mem_map.2 ⟨D,hD,rfl⟩));exact⟨this,(fx.mark D hD).2.1,.inl this⟩
end Go.Skm.Fen
set_option maxRecDepth 100000
namespace Go.Skm.Fen
open Go Go.Skm Go.Proofs Go.RowKit
theorem adK:cX=.seq c3 (.seq cI (.seq (.block 1 (.seq c4 (.seq c5 (.seq c8 (.block 2 eRF))))) cZ)):=by kernel_rfl
theorem ai9:dN tab.funcs 100=some aaL:=by kernel_rfl
theorem adN:kD aaL 1=true:=by kernel_rfl
theorem okC:(eU tab qw.hides c1=true∧fH c1=true∧pR c1=true)∧(eU tab qw.hides c2=true∧fH c2=true∧pR c2=true)∧(eU tab qw.hides c3=true∧fH c3=true∧pR c3=true)∧(eU tab qw.hides cI=true∧fH cI=true∧pR cI=true)∧(eU tab qw.hides c4=true∧fH c4=true∧pR c4=true)∧(eU tab qw.hides c5=true∧fH c5=true∧pR c5=true)∧(eU tab qw.hides c8=true∧fH c8=true∧pR c8=true)∧(eU tab qw.hides cZ=true∧fH cZ=true∧pR cZ=true):=by have h1:=afy;have h2:=ab5;have h3:=ai6;simp only[qBa]at h1 h2 h3;obtain⟨a1,a2,a3,a4,a5,a6,a7,a8⟩:=h1;obtain⟨b1,b2,b3,b4,b5,b6,b7,b8⟩:=h2;obtain⟨d1,d2,d3,d4,d5,d6,d7,d8⟩:=h3;exact⟨⟨a1,b1,d1⟩,⟨a2,b2,d2⟩,⟨a3,b3,d3⟩,⟨a4,b4,d4⟩,⟨a5,b5,d5⟩,⟨a6,b6,d6⟩,⟨a7,b7,d7⟩,a8,b8,d8⟩
def oh:Nat→List (List V3)→List AX
 | _,[]=>[]
 | i,l::r=>nC (orient (decide (i=0)) l)++oh (i+1) r
theorem FT:∀ (r:List (List V3)) (i:Nat),oh (i+1) r=Mc r
 | [],_=>rfl
 | l::r,i=>by rw[oh,FT r (i+1),decide_eq_false (by omega)];unfold Mc;rw[List.flatMap_cons]
theorem SN (f:Fen):oh 0 (f.outer::f.holes)=o7 f:=by rw[oh,FT];rfl
structure U1 (X:Ext):Prop where
 c:∀ l:List V3,l.length≤1000→run tab X 88 [.p (.list true aW (dh l))] []=some ([.fresh true aW (dh l)],[])
def hdE (n:Nat) (i:Int):List (Nat × AV):=[(15,.slice 12 1 0 n),(16,.p (.int .i64 (n:Int))),(17,.p (.int .i64 i))]
section
variable {gl:Option (List (Nat × Obj))} {X:Ext} (hX:Mine X) (hV:U1 X) (hC:jl Tryz.prog tab gl (run tab X)) (hS:IW Tryz.prog tab gl (run tab X))
include hX hV hC hS
theorem aja (l:List V3) (hl:l.length≤1000000):L9 Tryz.prog gl 100 [.ref [.list true aW (dh l)]] ((nC l).map eY):=by have _:=hV;have _:=hC;exact(hS 100 aaL [.ref [.list true aW (dh l)]] _ ai9 adN (ab7 X hX l hl)).2
theorem ajb {cx : Cx} (hf : Frm gl cx) {ps : List PV} {n i : Nat} (hi : i < n) (hn : n ≤ 1000) {l : List V3} (hps : ps.getD i .nil = .list true aW (dh l)) (hl : lG l = true) {a : Act} {w : World} (iv : Inv cx ⟨E (hdE n i),h12 ps⟩ a w) {Q : Exit → Act → World → Prop} {y : Code}
    (hQ:∀ a' w',Inv cx ⟨E (hdE n i++[(34,.p (.fn 100 [.ref [.list true aW (dh (orient (decide (i=0)) l))]]))]),h12 ps⟩ a' w'→y.wpIn (FW none) 0 Tryz.prog Q a' w'):(Code.seq c4 (.seq c5 (.seq c8 y))).wpIn (FW none) 0 Tryz.prog Q a w:=by
  have _:=hS;obtain⟨_,_,_,_,⟨a4,b4,d4⟩,⟨a5,b5,d5⟩,⟨a8,b8,d8⟩,_⟩:=okC;obtain⟨s1,s2,s3⟩:=mG hl;have e4:=ch4 (run tab X) (Eu .normal ⟨E [(3,.p (.int .i64 (i:Int))),(4,.p (.list true aW (((ps.getD (0+(i:Int).toNat) .nil).cell 0).toList))),(15,.slice 12 1 0 n),(16,.p (.int .i64 (n:Int))),(17,.p (.int .i64 (i:Int))),(19,.p (.int .i64 (i:Int))),(20,.ptr 12 (0+(i:Int).toNat) 0),(21,.p (.list true aW (((ps.getD (0+(i:Int).toNat) .nil).cell 0).toList)))],h12 ps⟩) ps n (i:Int);rw[rng hi,cond_true,lQ]at e4;refine wpIn_seq (Hu hC hf a4 b4 d4 e4 iv fun a1 w1 i1=>?_);have hc:((ps.getD (0+(i:Int).toNat) .nil).cell 0).toList=dh l:=by rw[Int.toNat_natCast,Nat.zero_add,hps];rfl
  rw[hc]at i1;have i1':Inv cx ⟨E [(3,.p (.int .i64 (i:Int))),(4,.p (.list true aW (dh l))),(15,.slice 12 1 0 n),(16,.p (.int .i64 (n:Int))),(17,.p (.int .i64 (i:Int)))],h12 ps⟩ a1 w1:=Inv.less i1 fun p hp=>by simp only[List.mem_cons,List.not_mem_nil,or_false]at hp;rcases hp with rfl | rfl | rfl | rfl | rfl<;>rfl
  have q47:=c47 X hX l (by omega) s3;have q88:=hV.c l (by omega);have hbr:(!((kX (wH l) (0:Int))==((i:Int)==(0:Int))))=!(decide (0<wH l)==decide (i=0)):=by
   have:((i:Int)==(0:Int))=decide (i=0):=by rw[Bool.eq_iff_iff,beq_iff_eq,qDa];omega
   rw[this]
  show (Code.seq c5 (.seq c8 y)).wpIn _ _ _ _ _ _;by_cases ho:(decide (0<wH l)==decide (i=0))=true
  · have eo:orient (decide (i=0)) l=l:=by unfold orient;rw[if_pos ho]
    rw[eo]at hQ;rw[ho]at hbr;have e5:=fun S0=>ch5 (run tab X) (Eu .normal S0) ps n (i:Int) (dh l);rw[q47]at e5;simp only[Option.bind_some,List.headD_cons,dA,toInt_int]at e5;rw[show (!true)=false from rfl]at hbr;rw[hbr]at e5;simp only[cond_false]at e5;refine wpIn_seq (Hu hC hf a5 b5 d5 ((e5 _).trans (lQ _ _)) i1' fun a2 w2 i2=>?_);have i2':Inv cx ⟨E [(4,.p (.list true aW (dh l))),(15,.slice 12 1 0 n),(16,.p (.int .i64 (n:Int))),(17,.p (.int .i64 (i:Int)))],h12 ps⟩ a2 w2:=Inv.less i2 fun p hp=>by simp only[List.mem_cons,List.not_mem_nil,or_false]at hp;rcases hp with rfl | rfl | rfl | rfl<;>rfl
    show (Code.seq c8 y).wpIn _ _ _ _ _ _;have e8:=fun S0=>ch8 (run tab X) (Eu .normal S0) ps n (i:Int) (dh l);rw[c51 X hX l]at e8;simp only[Option.bind_some]at e8;refine wpIn_seq (Hu hC hf a8 b8 d8 ((e8 _).trans (lQ _ _)) i2' fun a3 w3 i3=>?_);exact hQ a3 w3 (Inv.less i3 fun p hp=>by simp only[hdE,List.cons_append,List.nil_append,List.mem_cons,List.not_mem_nil,or_false]at hp;rcases hp with rfl | rfl | rfl | rfl<;>rfl)
  · obtain ⟨v,r,rfl⟩ : ∃ v r,l = v::r := by
      cases l with
      | nil=>simp at s1
      | cons v r=>exact⟨v,r,rfl⟩
    have eo:orient (decide (i=0)) (v::r)=v::r.reverse:=by unfold orient;rw[if_neg ho];rfl
    rw[eo]at hQ;have ho':(decide (0<wH (v::r))==decide (i=0))=false:=by simpa using ho
    rw[ho']at hbr;simp only[List.length_cons]at s1 s2;have e5:=fun S0=>ch5 (run tab X) (Eu .normal S0) ps n (i:Int) (dh (v::r));have q89:=c89 X hX v r (by omega);rw[q47]at e5;simp only[Option.bind_some,List.headD_cons,dA,toInt_int]at e5;rw[show (!false)=true from rfl]at hbr;rw[hbr]at e5;simp only[cond_true]at e5;rw[q88]at e5;simp only[Option.bind_some,List.headD_cons,dM]at e5;have hln:(dh (v::r)).length=r.length+1:=by simp[dh]
    have g1:(leI (1:Int) (((dh (v::r)).length:Nat):Int)&&(leI (((dh (v::r)).length:Nat):Int) (((dh (v::r)).length:Nat):Int)&&leI (((dh (v::r)).length:Nat):Int) (((dh (v::r)).length:Nat):Int)))=true:=by rw[hln];exact ab8 (decide_eq_true (by omega)) (decide_eq_true (by omega)) (decide_eq_true (by omega))
    have g2:((((dh (v::r)).length:Nat):Int)-1).toNat=r.length:=by rw[hln];omega
    rw[g1,g2,q89]at e5;simp only[Option.bind_some,cond_true,List.headD_cons]at e5;refine wpIn_seq (Hu hC hf a5 b5 d5 ((e5 _).trans (lQ _ _)) i1' fun a2 w2 i2=>?_);have i2':Inv cx ⟨E [(4,.slice 4 3 0 (dh (v::r)).length),(15,.slice 12 1 0 n),(16,.p (.int .i64 (n:Int))),(17,.p (.int .i64 (i:Int)))],[(12,.arr false [.slice true aW] ps),(4,.arr true aW (dh (v::r.reverse)))]⟩ a2 w2:=Inv.less i2 fun p hp=>by simp only[List.mem_cons,List.not_mem_nil,or_false]at hp;rcases hp with rfl | rfl | rfl | rfl<;>rfl
    show (Code.seq c8 y).wpIn _ _ _ _ _ _;have e8:=fun S0=>ana (run tab X) (Eu .normal S0) ps n (i:Int) (dh (v::r.reverse)) (dh (v::r)).length;have g3:((dh (v::r.reverse)).drop 0).take (dh (v::r)).length=dh (v::r.reverse):=by rw[List.drop_zero,List.take_of_length_le];rw[hln];simp[dh]
    rw[g3,c51 X hX (v::r.reverse)]at e8;simp only[Option.bind_some]at e8;refine wpIn_seq (Hu hC hf a8 b8 d8 ((e8 _).trans (lQ _ _)) i2' fun a3 w3 i3=>?_);exact hQ a3 w3 (Inv.less i3 fun p hp=>by simp only[hdE,List.cons_append,List.nil_append,List.mem_cons,List.not_mem_nil,or_false]at hp;rcases hp with rfl | rfl | rfl | rfl<;>rfl)
end
end Go.Skm.Fen
set_option maxRecDepth 100000
namespace Go.Skm.Fen
open Go Go.Skm Go.Proofs Go.RowKit
def Marks (W0:World) (O K:Nat→Prop) (a:Act) (w:World):Prop :=
 ∃ ds:List Nat,a.defers=ds.map BX∧ds.Nodup∧∀ D∈ds,w.heap[D]?=some (.deferred (some []))∧¬ O D∧¬ K D∧W0.heap.size≤D
section
variable {gl:Option (List (Nat × Obj))} {W0:World} {J:(Nat→Prop)→(Nat→Prop)→World→Prop} {By L:Nat} {cx:Cx} {Oo Ko:Nat→Prop} {st:St} {a:Act} {w W':World} {M:Nat→Prop} {β:Nat→Option (Nat × Nat)} {Ls:List (Nat × Obj)} {ds:List Nat}
theorem Sep.ahk (s:Sep gl W0 J By L cx Oo Ko) (fx:Fix cx M β st.heap a w Ls ds):∀ D∈ds,w.heap[D]?=some (.deferred (some []))∧¬ Oo D∧¬ Ko D∧W0.heap.size≤D:=fun D hD=>by
 refine⟨(fx.lies _ (fx.mark D hD).1).1,?_⟩;rcases(fx.mark D hD).2.2 with h | h
 · exact s.l0 _ h
 · have:=s.w0;exact⟨fun ho=>by have:=s.lt D (.inl ho);omega,fun ho=>by have:=s.lt D (.inr ho);omega,by omega⟩
theorem Sep.mO (s:Sep gl W0 J By L cx Oo Ko) (r:Rel cx.w0 cx.Pr cx.M0 M β st a w):∀ b,M b→¬ Oo b:=fun b hb ho=>by
 rcases r.lY b hb with h | ⟨_,h⟩
 · exact s.m0 b h ho
 · rcases h with h | h
   · have:=s.lt b (.inl ho);omega
   · exact(s.pr b h).1 ho
theorem Sep.end (hJ:Bears gl W0 J) (s:Sep gl W0 J By L cx Oo Ko) (i:Inv cx st a w):J Oo Ko w∧Marks W0 Oo Ko a w:=by obtain⟨M,β,Ls,ds,r,i1,i2,i3,fx⟩:=i;exact⟨s.now hJ r i3,ds,fx.marks,fx.nodup,s.ahk fx⟩
theorem Sep.after (s : Sep gl W0 J By L cx Oo Ko) (r : Rel cx.w0 cx.Pr cx.M0 M β st a w) (fx : Fix cx M β st.heap a w Ls ds) {O' K' : Nat → Prop} (ht : Turns gl Oo w W') (hD : W'.heap[w.heap.size]? = some (.deferred (some []))) (hO : ∀ b,O' b → Oo b ∨ w.heap.size + 2 ≤ b) (hK : ∀ b,K' b → Ko b ∨ Oo b ∨ w.heap.size + 2 ≤ b) :
    Marks W0 O' K' { a with defers:=BX w.heap.size::a.defers } W':=by
  have hrs:=r.size;have hlt:∀ D∈ds,D<w.heap.size:=fun D hD=>(qAa.1 (s.ahk fx D hD).1).1;refine⟨w.heap.size::ds,by show _::_=_;rw[fx.marks];rfl,List.nodup_cons.2 ⟨fun h=>absurd (hlt _ h) (Nat.lt_irrefl _),fx.nodup⟩,fun D hD'=>?_⟩;rcases List.mem_cons.1 hD' with rfl | hD'
  · refine⟨hD,fun h=>?_,fun h=>?_,by have:=s.w0;omega⟩
    · rcases hO _ h with h | h
      · have:=s.lt _ (.inl h);omega
      · omega
    · rcases hK _ h with h | h | h
      · have:=s.lt _ (.inr h);omega
      · have:=s.lt _ (.inl h);omega
      · omega
  · obtain⟨g1,g2,g3,g4⟩:=s.ahk fx D hD';have:=hlt D hD';refine⟨(ht.keep D this g2).trans g1,fun h=>?_,fun h=>?_,g4⟩
    · rcases hO _ h with h | h
      · exact g2 h
      · omega
    · rcases hK _ h with h | h | h
      · exact g3 h
      · exact g2 h
      · omega
end
theorem FQ {gl : Option (List (Nat × Obj))} {X : Ext} (hC : jl Tryz.prog tab gl (run tab X)) {cx : Cx} (hf : Frm gl cx) {c : Code} (hd : eU tab qw.hides c = true ∧ fH c = true ∧ pR c = true) {st : St} {a : Act} {w : World} {e0 : Ex} {S0 : St}
    (h:bW tab (run tab X) qw 0 c st (Eu e0 S0)=some ()) (i:Inv cx st a w) {Q:Exit→Act→World→Prop} (hQ:∀ a' w',Inv cx S0 a' w'→Q e0.Vj a' w'):c.wpIn (FW none) 0 Tryz.prog Q a w:=Hu hC hf hd.1 hd.2.1 hd.2.2 h i hQ
section
variable {gl:Option (List (Nat × Obj))} {X:Ext} (hX:Mine X) (hV:U1 X) (hC:jl Tryz.prog tab gl (run tab X)) (hS:IW Tryz.prog tab gl (run tab X))
include hX hV hC hS
theorem am6 {W0 : World} {M0 : Nat → Prop} {J : List PV → (Nat → Prop) → (Nat → Prop) → World → Prop} {Jx : (Nat → Prop) → (Nat → Prop) → World → Prop} {L By : Nat}
    (hJ:∀ r,Bears gl W0 (J r)) (hJx:Bears gl W0 Jx) (hlt:∀ r O K W,J r O K W→∀ b,O b∨K b→b<W.heap.size)
    (hY:∀ vs r O K W (M:Nat→Prop) aY,J (.agg vs::r) O K W→W0.heap.size≤W.heap.size→(∀ b,M b→b<W.heap.size∧¬ O b∧(M0 b∨W0.heap.size≤b))→aY.size=vs.length→(∀ i c,vs[i]?=some c→VR W M c (aY.getD i undef))→TQ Tryz.prog gl L aY W (J r) Jx O K M)
    {Pl:List (List V3)} (hPl:∀ l∈Pl,lG l=true) (hlen:Pl.length≤1000) {Q:Exit→Act→World→Prop} (anf:∀ a w O K,J [] O K w→Marks W0 O K a w→Q (.exit 0) a w) (ajc:∀ a w O K,Jx O K w→Marks W0 O K a w→Q .ret a w) :
    ∀ (r:List (List V3)) (i:Nat),Pl.drop i=r→i≤Pl.length→∀ (a:Act) (w:World) (cx:Cx) (Oo Ko:Nat→Prop),Sep gl W0 (J ((oh i r).map eY)) By L cx Oo Ko→Inv cx ⟨E (hdE Pl.length i),h12 (fB Pl)⟩ a w→Code.roundsIn (FW none) 0 Tryz.prog cX Q (r.length+1) a w:=by
  obtain⟨_,_,o3,oI,_,_,_,oZ⟩:=okC;intro r;induction r with
  | nil =>intro i hr hi a w cx Oo Ko s iv;have hil:Pl.length≤i:=List.drop_eq_nil_iff.1 hr;rw[roundsIn_succ,adK];have e3:=fun S0=>ch3 (run tab X) (Eu .normal S0) (fB Pl) Pl.length (i:Int);refine wpIn_seq (FQ hC s.Zf o3 ((e3 _).trans (lQ _ _)) iv fun a1 w1 i1=>?_);have eI:=fun S0=>chI (run tab X) (Eu (.exit 0) S0) (fB Pl) Pl.length (i:Int) false;rw[SQ (by omega)]at i1;show (Code.seq cI _).wpIn _ _ _ _ _ _;refine wpIn_seq (FQ hC s.Zf oI ((eI _).trans (lQ _ _)) i1 fun a2 w2 i2=>?_);obtain⟨h1,h2⟩:=s.end (hJ _) i2;exact anf a2 w2 Oo Ko h1 h2
  | cons l r ih =>
   intro i hr hi a w cx Oo Ko s iv;have hil:i<Pl.length:=by have:=congrArg List.length hr;simp at this;omega
   have hv:gh Pl i=l:=by show Pl.getD i []=l;rw[qLb,← List.head?_drop,hr];rfl
   have hm:l∈Pl:=hv▸Md hil;have hls:=hPl l hm;rw[roundsIn_succ,adK];have e3:=fun S0=>ch3 (run tab X) (Eu .normal S0) (fB Pl) Pl.length (i:Int);refine wpIn_seq (FQ hC s.Zf o3 ((e3 _).trans (lQ _ _)) iv fun a1 w1 i1=>?_);have eI:=fun S0=>chI (run tab X) (Eu .normal S0) (fB Pl) Pl.length (i:Int) true;rw[Hw hil]at i1;show (Code.seq cI _).wpIn _ _ _ _ _ _;refine wpIn_seq (FQ hC s.Zf oI ((eI _).trans (lQ _ _)) i1 fun a2 w2 i2=>?_);have i2':Inv cx ⟨E (hdE Pl.length i),h12 (fB Pl)⟩ a2 w2:=Inv.less i2 fun p hp=>by simp only[hdE,List.mem_cons,List.not_mem_nil,or_false]at hp;rcases hp with rfl | rfl | rfl<;>rfl
   show (Code.seq (.block 1 _) cZ).wpIn _ _ _ _ _ _;refine wpIn_seq (wpIn_block ?_);refine ajb hX hV hC hS s.Zf hil hlen (by rw[qZ Pl hil,hv]) hls i2' fun a4 w4 i4=>wpIn_block ?_;obtain⟨M,β,Ls,ds,rl,j1,j2,j3,fx⟩:=i4;have h34:=rl.slot 34;have he:(E (hdE Pl.length i++[(34,.p (.fn 100 [.ref [.list true aW (dh (orient (decide (i=0)) l))]]))])).getD 34 .undef=.p (.fn 100 [.ref [.list true aW (dh (orient (decide (i=0)) l))]]):=rfl;rw[he]at h34;obtain⟨lb,t34,hln,hlv⟩:∃ lb:Array Value,a4.tmps.getD 34 undef=.func (.func 100) #[] lb∧lb.size=1∧∀ (i_1:Nat) (c:PV),([.ref [.list true aW (dh (orient (decide (i=0)) l))]]:List PV)[i_1]?=some c→VR w4 M c (lb.getD i_1 undef):=by
    generalize a4.tmps.getD 34 undef=c at h34;cases h34 with
    | p _ _ hvr=>cases hvr with | fn _ _ vs hn hc=>exact⟨vs,rfl,hn,hc⟩
   have hsz:a4.tmps.size=43:=fx.size.trans s.Zf.t0;have t2:a4.tmps.getD 2 undef=.pointer (some ⟨By,0,none⟩):=(fx.tmps 2 (by rw[s.Zf.wr];simp)).trans s.t2;have hby:=fx.lies _ (fx.sub _ s.box);have hJ4:=s.now (hJ _) rl j3;have hrs:=rl.size;have hlo:(orient (decide (i=0)) l).length≤1000000:=by have h1:=(ru (b:=decide (i=0)) hls).2;have h2:=(mG hls).2.1;omega
   have eE:(oh i (l::r)).map eY=(nC (orient (decide (i=0)) l)).map eY++(oh (i+1) r).map eY:=by rw[oh,List.map_append]
   rw[eE]at hJ4;refine afx (OA:=Oo) (KA:=Ko) hJ hJx hlt hY (aja hX hV hC hS _ hlo) hsz t2 t34 hln hlv (fun b hb=>⟨rl.gU b hb,s.mO rl b hb⟩) (fun p hp=>by
    have hp':p∈cx.w0.gl.getD []:=by rw[s.Zf.hgl];exact hp
    exact rl.glob p hp') (by have:=s.w0;omega) hJ4 hby.1 (s.l0 _ s.box).1 ?_ ?_
   · intro W' O' K' hj ht hD hO hK hsz';obtain⟨Jk,s',iv'⟩:=Sep.anew (J':=J ((oh (i+1) r).map eY)) s rl j1 j2 fx hj ht hD hO hK (hlt _ _ _ _ hj) hsz';have iv2:Inv Jk ⟨E (hdE Pl.length i),h12 (fB Pl)⟩ { a4 with defers:=BX w4.heap.size::a4.defers } W':=Inv.less iv' fun p hp=>by simp only[hdE,List.mem_cons,List.not_mem_nil,or_false]at hp;rcases hp with rfl | rfl | rfl<;>rfl
     have eZ:=fun S0=>chZ (run tab X) (Eu .normal S0) (fB Pl) Pl.length (i:Int);show cZ.wpIn _ _ _ _ _ _;refine FQ hC s'.Zf oZ ((eZ _).trans (lQ _ _)) iv2 fun a5 w5 i5=>?_;rw[lW (by omega)]at i5;exact ih (i+1) (by rw[← List.tail_drop,hr];rfl) (by omega) a5 w5 Jk O' K' s' (Inv.less i5 fun p hp=>by simp only[hdE,List.mem_cons,List.not_mem_nil,or_false]at hp;rcases hp with rfl | rfl | rfl<;>rfl)
   · intro W' O' K' hj ht hD hO hK hsz';exact ajc _ W' O' K' hj (s.after rl fx ht hD hO hK)
end
end Go.Skm.Fen
set_option maxRecDepth 100000
namespace Go.Skm.Fen
open Go Go.Skm Go.Proofs Go.RowKit
theorem abZ:Tryz.f87.ntmps=43:=by kernel_rfl
theorem adI:Tryz.f87.results=#[]:=by kernel_rfl
theorem aaI {gl : Option (List (Nat × Obj))} {W0 : World} {J : (Nat → Prop) → (Nat → Prop) → World → Prop} (hJ : Bears gl W0 J) {a : Act} {w : World} {O K : Nat → Prop} (hj : J O K w) (hm : Marks W0 O K a w) {R : Ending → World → Prop} (hR : ∀ v w',J O K w' → R (.returned v) w') :
    LeavesInM (FW none) 0 Tryz.prog Tryz.f87 a.tmps R a.defers .returning w:=by
  obtain⟨ds,h1,h2,h3⟩:=hm;rw[h1];refine qX ds w h2 (fun D hD=>(h3 D hD).1) fun w' k1 k2 k3 k4 k5 k6=>?_;refine⟨vF [],xX (cs:=[]) (by rw[adI];rfl),hR _ _ ?_⟩;refine hJ _ _ _ _ (fun b=>b∈ds) hj ⟨by omega,fun b _ hb=>k1 b hb,k3,k4,k5,fun hg=>by rw[k6];exact Nat.le_refl _⟩ fun b hb=>?_;obtain⟨_,q1,q2,q3⟩:=h3 b hb;exact⟨q3,q1,q2⟩
section
variable {gl:Option (List (Nat × Obj))} {X:Ext} (hX:Mine X) (hV:U1 X) (hC:jl Tryz.prog tab gl (run tab X)) (hS:IW Tryz.prog tab gl (run tab X))
include hX hV hC hS
theorem ag5 (f:Fen) (hf:Dh f):L9 Tryz.prog gl 87 [.ref (FH f)] ((uf f).map eY):=by
 obtain⟨o1,o2,_⟩:=okC;intro W0 M0 L lb J Jx O0 hgl hlb hlv hM0 hJ hJx hlt hY h0;have hs1:lb.size=1:=hlb;have hv1:VR W0 M0 (.ref (FH f)) (lb.getD 0 undef):=hlv 0 _ rfl;refine xY (rd:=none) (n:=0) (callsIn_of_wp_marks Tryz.func87 ahe trivial ?_);generalize hR:(fun (e:Ending) (W':World)=>(∃ v,e=.returned v)∧∃ O K:Nat→Prop,J [] O K W'∨Jx O K W')=R;have hQJ:∀ a w O K,J [] O K w→Marks W0 O K a w→LeavesInM (FW none) 0 Tryz.prog Tryz.f87 a.tmps R a.defers .returning w:=fun a w O K hj hm=>aaI (hJ []) hj hm fun v w' h=>by rw[← hR];exact⟨⟨v,rfl⟩,O,K,.inl h⟩
 have hQX:∀ a w O K,Jx O K w→Marks W0 O K a w→LeavesInM (FW none) 0 Tryz.prog Tryz.f87 a.tmps R a.defers .returning w:=fun a w O K hj hm=>aaI hJx hj hm fun v w' h=>by rw[← hR];exact⟨⟨v,rfl⟩,O,K,.inr h⟩
 have hsz:(#[IQ L]++lb).size=2:=by rw[Array.size_append,hs1];rfl
 have ht0:(#[IQ L]++lb++Array.replicate (Tryz.f87.ntmps-(#[IQ L]++lb).size) undef).size=43:=by rw[Array.size_append,hsz,Array.size_replicate,abZ]
 have t0:(#[IQ L]++lb++Array.replicate (Tryz.f87.ntmps-(#[IQ L]++lb).size) undef).getD 0 undef=IQ L:=by rw[qAb,Array.getElem?_append_left (by omega),Array.getElem?_append_left (by simp)];rfl
 have t1:(#[IQ L]++lb++Array.replicate (Tryz.f87.ntmps-(#[IQ L]++lb).size) undef).getD 1 undef=lb.getD 0 undef:=by rw[qAb,Array.getElem?_append_left (by omega),Array.getElem?_append_right (by simp),qAb];simp
 generalize #[IQ L]++lb++Array.replicate (Tryz.f87.ntmps-(#[IQ L]++lb).size) undef=T at *;refine wpIn_seq ?_;rw[aiU];refine wpIn_region_list ?_;have e0:({ tmps:=T,defers:=[] }:Act).eval (.tmp 0)=IQ L:=t0;refine oW rfl (by simp[Oper.about]) (fun c h=>by cases h) (v:=.pointer (some ⟨W0.heap.size,0,none⟩)) (w':=W0.alloc (.cells #[IQ L] 122 (0,0))) (by simp only[execOp,e0];simp[Instr.box,newVar,newRow,Value.cells]) ?_;refine wpListIn_nil ?_;generalize hA:(({ tmps:=T,defers:=[] }:Act).put (some 2) (.pointer (some ⟨W0.heap.size,0,none⟩)))=A;have Asz:A.tmps.size=43:=by rw[← hA,og];exact ht0
 have A1:A.tmps.getD 1 undef=lb.getD 0 undef:=by rw[← hA,yK (by decide)];exact t1
 have A2:A.tmps.getD 2 undef=.pointer (some ⟨W0.heap.size,0,none⟩):=by rw[← hA,vw (by show 2<T.size;omega)]
 have Ad:A.defers=[]:=by rw[← hA];rfl
 have hbx:=World.alloc_heap_new W0 (.cells #[IQ L] 122 (0,0));have hgw:rV gl W0 (W0.alloc (.cells #[IQ L] 122 (0,0))):=rV.alloc W0 _;have hws:(W0.alloc (.cells #[IQ L] 122 (0,0))).heap.size=W0.heap.size+1:=by simp
 generalize W0.alloc (.cells #[IQ L] 122 (0,0))=Wb at *;have hO0:∀ b,O0 b→b<W0.heap.size:=fun b hb=>hlt _ _ _ _ h0 b (.inl hb);have hJb:=(hJ _).grows h0 hgw;let cx0:Cx:={ w0:=⟨Wb,Wb.heap.size,Nat.le_refl _,gl⟩,Pr:=fun _=>False,M0:=M0,OQ:=fun _=>none,hp0:=[],Wr:=fun t=>t≠2,t0:=A.tmps,rd:=none,L0:=[(W0.heap.size,.cells #[IQ L] 122 (0,0))],nm:=W0.heap.size };have hkb:∀ b,b<W0.heap.size→Wb.heap[b]?=W0.heap[b]?:=fun b hb=>hgw.keep b hb fun h=>h;have adJ:Frm gl cx0:=⟨rfl,rfl,rfl,rfl,rfl,Asz⟩;have hsep:Sep gl W0 (J ((uf f).map eY)) W0.heap.size L cx0 O0 (fun _=>False):=by refine⟨adJ,hJb,fun b hb=>hb.elim (fun h=>by have:=hO0 b h;show b<Wb.heap.size;omega) fun h=>h.elim,fun b hb=>(hM0 b hb).2,fun b hb=>hb.elim,fun p hp=>?_,List.mem_singleton.2 rfl,A2,by show W0.heap.size≤Wb.heap.size;omega,by show W0.heap.size≤Wb.heap.size;omega⟩;rw[List.mem_singleton.1 hp];exact⟨fun h=>absurd (hO0 _ h) (Nat.lt_irrefl _),fun h=>h,Nat.le_refl _⟩
 have hinv:Inv cx0 ⟨E [(1,rfE (dh f.outer) (fB f.holes) f.low f.high)],[]⟩ A Wb:=by
  refine⟨M0,fun _=>none,[(W0.heap.size,.cells #[IQ L] 122 (0,0))],[],⟨by show (E _).length≤_;rw[aaJ];omega,fun t v hv=>?_,fun s blk h=>(by cases h),fun s b o h=>(by cases h),fun s s' b o o' h=>(by cases h),fun b hb=>by have:=(hM0 b hb).1;omega,fun b hb=>.inl hb,fun b hb=>hb,fun _ _ _=>rfl,fun _ _ _ h=>h.elim,Nat.le_refl _,rfl,rfl,rfl,fun p hp=>⟨(hgl p hp).1,(hkb _ (hM0 _ (hgl p hp).1).1).trans (hgl p hp).2⟩⟩,fun _ _=>rfl,fun s _ blk h=>(by cases h),.refl _ _,⟨fun p hp=>?_,fun p hp=>hp,Ad,List.nodup_nil,fun D hD=>by simp at hD,fun l hl=>(by cases hl),rfl,fun _ _=>rfl,fun h=>absurd adJ.Xn h,fun _ h=>h.elim,by show W0.heap.size≤Wb.heap.size;omega⟩⟩
  · obtain⟨ht,rfl⟩:=agH _ t v hv;by_cases h1:t=1
    · subst h1;rw[A1];exact .p _ _ (hv1.mono fun b hb=>⟨hb,hkb b (hM0 b hb).1⟩)
    · have : dN [(1,rfE (dh f.outer) (fB f.holes) f.low f.high)] t = none := by rw[dN,show (1==t)=false from beq_eq_false_iff_ne.2 fun e=>h1 e.symm];rfl
      rw[this];exact .undef _
  · rw[List.mem_singleton.1 hp];exact⟨hbx,fun ⟨s,o,h,_⟩=>(by cases h),fun h=>absurd (hM0 _ h).1 (Nat.lt_irrefl _)⟩
 have q18:=c18 X hX f hf;have e1:=fun (e0:Ex) S0=>ch1 (run tab X) (Eu e0 S0) (dh f.outer) (fB f.holes) f.low f.high;rw[mF]at q18;rw[q18]at e1;simp only[Option.bind_some,List.headD_cons,dA,bD]at e1;show (Code.seq c1 _).wpIn _ _ _ _ _ _;cases hv:lV f with
 | false =>
  rw[hv]at e1;simp only[Bool.not_false,cond_true]at e1;refine wpIn_seq (FQ hC adJ o1 ((e1 .ret _).trans (lQ _ _)) hinv fun a1 w1 i1=>?_);have he:uf f=[]:=by unfold uf;rw[hv];rfl
  rw[he]at hsep;obtain⟨k1,k2⟩:=hsep.end (hJ _) i1;exact hQJ a1 w1 _ _ k1 k2
 | true =>
  rw[hv]at e1;simp only[Bool.not_true,cond_false]at e1;refine wpIn_seq (FQ hC adJ o1 ((e1 .normal _).trans (lQ _ _)) hinv fun a1 w1 i1=>?_);have he:uf f=oh 0 (f.outer::f.holes):=by unfold uf;rw[if_pos hv,SN]
  rw[he]at hsep;obtain⟨v1,v2⟩:=Ah hv;have hn:=(zK hv).2.1;have i1':Inv cx0 ⟨E [(1,rfE (dh f.outer) (fB f.holes) f.low f.high)],[]⟩ a1 w1:=Inv.less i1 fun p hp=>by rw[List.mem_singleton.1 hp];rfl
  have e2:=fun S0=>ch2 (run tab X) (Eu .normal S0) (dh f.outer) (fB f.holes) f.low f.high;have hl2:Fe (1+(fB f.holes).length) 2147483648=true:=decide_eq_true (by rw[fZ];omega);rw[hl2]at e2;simp only[cond_true]at e2;show (Code.seq c2 _).wpIn _ _ _ _ _ _;refine wpIn_seq (FQ hC adJ o2 ((e2 _).trans (lQ _ _)) i1' fun a2 w2 i2=>?_);show (Code.block 0 _).wpIn _ _ _ _ _ _;refine wpIn_block (wpIn_loop_rounds ((f.outer::f.holes).length+1) ?_);have hlen:1+(fB f.holes).length=(f.outer::f.holes).length:=by rw[fZ,List.length_cons];omega
  have hps:([.list true aW (dh f.outer)]:List PV)++fB f.holes=fB (f.outer::f.holes):=rfl;rw[hlen,hps]at i2;have i2':Inv cx0 ⟨E (hdE (f.outer::f.holes).length ((0:Nat):Int)),h12 (fB (f.outer::f.holes))⟩ a2 w2:=Inv.less i2 fun p hp=>by simp only[hdE,List.mem_cons,List.not_mem_nil,or_false]at hp;rcases hp with rfl | rfl | rfl<;>rfl
  have hcx:Code.seq c3 (.seq cI (.seq (.block 1 (.seq c4 (.seq c5 (.seq c8 (.block 2 eRF))))) cZ))=cX:=adK.symm;rw[hcx];refine am6 hX hV hC hS hJ hJx hlt hY (fun l hl=>?_) (by rw[List.length_cons];omega) (fun a w O K hj hm=>?_) (fun a w O K hj hm=>?_) (f.outer::f.holes) 0 rfl (Nat.zero_le _) a2 w2 cx0 O0 _ hsep i2'
  · rcases List.mem_cons.1 hl with rfl | hl
    · exact v1
    · exact v2 l hl
  · have:Exit.inBlock 0 (bodyPostM (FW none) 0 Tryz.prog Tryz.f87 R) (.exit 0) a w=bodyPostM (FW none) 0 Tryz.prog Tryz.f87 R .normal a w:=by simp[Exit.inBlock]
    rw[this];exact hQJ a w O K hj hm
  · exact hQX a w O K hj hm
end
end Go.Skm.Fen
