import Derived.Test.YtoheflpoanjihaaGreatSkmD
import Derived.ProofKit
import Derived.Lib.SplitLaws
import Derived.Lib.AtoiAll
import Derived.Lib.ItoaMem
import Derived.Lib.IndexBytes
import Derived.Laws.Strings
import Derived.Test.YtoheflpoanjihaaGreatSkmA
namespace Go.Skm
section
variable {P:Program} {T:Tab} {w0:Base} {Pr M0 M:Nat→Prop} {β OQ:Nat→Option (Nat × Nat)} {hp0:Heap} {st st':St} {a:Act} {w:World}
theorem Lm {keep:Bool} {b0 b1:cu} {x:Nat} (hx:(look (lu keep [b0,b1]) x).isSome=true):x=ah∨x=fA keep:=by
 rw[Gy]at hx;by_cases h1:x=ah
 · exact .inl h1
 · rw[if_neg h1]at hx;by_cases h2:x=fA keep
   · exact .inr h2
   · rw[if_neg h2]at hx;cases hx
theorem Rel.ahM {keep : Bool} {args : List AV} {b0 b1 : cu} {aY : Array Value} (hp : Wi keep w M β args [b0,b1] aY) {gl : Option (List (Nat × Obj))} (hgl : ∀ p ∈ gl.getD [],M p.1 ∧ w.heap[p.1]? = some p.2) (fn : Func) {n0 : Nat} (le : n0 ≤ w.heap.size) (hn0 : keep = true ∨ n0 = 0) :
    Rel ⟨w,n0,le,gl⟩ (fun b=>∃ x o,(look (lu keep [b0,b1]) x).isSome=true∧β x=some (b,o)) M M β { env:=args++List.replicate (fn.ntmps-args.length) .undef,heap:=lu keep [b0,b1] } { tmps:=aY++Array.replicate (fn.ntmps-aY.size) undef,defers:=[] } w:=by
  have hn:=hp.num;refine⟨?_,fun t v ht=>?_,fun s blk hs=>hp.blk s blk hs,fun s b o hs hb=>?_,hp.inj,hp.gU,fun b h=>.inl h,fun b h=>h,fun b _ _=>rfl,fun b n _ _ h=>h,Nat.le_refl _,rfl,rfl,rfl,hgl⟩
  · simp[hn]
  · by_cases hlt:t<args.length
    · have ht' : args[t]? = some v := by rwa[List.getElem?_append_left hlt]at ht
      have:=hp.args t v ht';have e:(aY++Array.replicate (fn.ntmps-aY.size) undef).getD t undef=aY.getD t undef:=by rw[qAb,qAb,Array.getElem?_append_left (by omega)]
      rw[e];exact this
    · have : v = .undef := by
        rw[List.getElem?_append_right (by omega),List.getElem?_replicate]at ht;split at ht
        · simpa using ht.symm
        · cases ht
      subst this;exact .undef _
  · obtain⟨g1,g2⟩:=hp.own s b o hs hb;refine⟨g1,g2,.inr ⟨s,o,hs,hb⟩,?_⟩;rcases Lm hs with rfl | rfl
    · exact .inr (Nat.le_refl _)
    · rcases hn0 with rfl | rfl
      · right;simp[fA,ah]
      · exact .inl (Nat.zero_le _)
theorem TA {h:Nat→Option cu} {ms:List lq} {ts:List TypeId} {rs:List AV} {cs:List Value} {ps:List (Option (Nat × Nat))} (hr:CQ T w M β h ms ts rs cs ps) (hd:DX ms=true):∀ p∈ps,p=none:=by
 induction hr with
 | nil ms=>intro p hp;simp at hp
 | cons ms t ts v vs c cs p ps h1 h2 h3 ih =>
  have hm:ms.headD .deep=.deep∧DX ms.tail=true:=by
   cases ms with
   | nil=>exact⟨rfl,rfl⟩
   | cons m ms =>cases m<;>simp[DX]at hd;exact⟨rfl,hd⟩
  intro q hq;rcases List.mem_cons.1 hq with rfl | hq
  · rw[hm.1]at h1;cases h1;rfl
  · exact ih hm.2 q hq
theorem acY {keep:Bool} {z off len:Nat} {sa:Bool} {ks:List Kd} {xs:List PV}:Ai (lu keep [.box [.slice (fA keep) z off len],.arr sa ks xs]):=by intro ys he;rw[Gy,if_pos rfl]at he;cases he
theorem aaj (ok : dZ P T) {X : Ext} {gl : Option (List (Nat × Obj))} (hX : sF P T gl X) {n : Nat} (hC : jl P T gl (lJ T X n)) (hS : IW P T gl (lJ T X n)) :
    ∀ f fi args z off len sa ks xs rs jX,dN T.funcs f=some fi→fi.cfg.vcall=true→lJ T X (n+1) f args [.box [.slice (fA fi.cfg.vkeep) z off len],.arr sa ks xs]=some (rs,jX)→(∃ c,fi.fn.body=some c) ∧
    ∀ (w:World) (M:Nat→Prop) (β:Nat→Option (Nat × Nat)) (aY:Array Value),(∀ p∈gl.getD [],M p.1∧w.heap[p.1]?=some p.2)→Wi fi.cfg.vkeep w M β args [.box [.slice (fA fi.cfg.vkeep) z off len],.arr sa ks xs] aY →
     Calls P f aY w fun e w'=>∃ cs M',e=.returned (vF cs)∧Wj gl T fi w M β sa ks xs rs jX w' M' cs:=by
  intro f fi args z acZ len0 sa ks xs rs jX hf Wp h;simp only[lJ,hf]at h;cases hx:X f with
  | some s =>
   rw[hx]at h;cases hge:fi.cfg.gext with
   | false =>obtain⟨_,h1,_⟩:=hX.2.1 f fi s args _ rs jX hf hge hx h;have:=h1 _ (List.mem_cons_self ..);simp[gI,F9]at this
   | true =>obtain⟨_,_,h2,_⟩:=hX.2.2 f fi s args _ _ hf hge hx h;simp at h2
  | none =>
   rw[hx]at h;simp only at h;cases hb:fi.fn.body with
   | none=>rw[hb]at h;cases h
   | some c =>
    rw[hb]at h;have hge:fi.cfg.gext=false:=by
     cases hge:fi.cfg.gext with
     | false=>rfl
     | true=>simp[yY,hge]at h
    simp only[yY,hge,Wp,cond_true,gY,jD,bU,MR,ZI]at h;refine⟨⟨c,rfl⟩,fun w M β aY hgl hp=>?_⟩;obtain⟨hfn,hname,hdr,hret⟩:=ok.funcs f fi hf;have hle:cond fi.cfg.vkeep w.heap.size 0≤w.heap.size:=by cases fi.cfg.vkeep<;>simp
    let cx:Cx:={ w0:=⟨w,cond fi.cfg.vkeep w.heap.size 0,hle,gl⟩,Pr:=fun b=>∃ x o,(look (lu fi.cfg.vkeep [.box [.slice (fA fi.cfg.vkeep) z acZ len0],.arr sa ks xs]) x).isSome=true∧β x=some (b,o),M0:=M,OQ:=β,hp0:=lu fi.cfg.vkeep [.box [.slice (fA fi.cfg.vkeep) z acZ len0],.arr sa ks xs],Wr:=fun _=>True,t0:=aY++Array.replicate (fi.fn.ntmps-aY.size) undef,rd:=none,L0:=[],nm:=w.heap.size }
    have hi:Inv cx { env:=args++List.replicate (fi.fn.ntmps-args.length) .undef,heap:=lu fi.cfg.vkeep [.box [.slice (fA fi.cfg.vkeep) z acZ len0],.arr sa ks xs] } { tmps:=aY++Array.replicate (fi.fn.ntmps-aY.size) undef,defers:=[] } w :=
     ⟨M,β,[],[],Rel.ahM hp hgl fi.fn hle (by cases fi.cfg.vkeep<;>simp),fun _ _=>rfl,fun s _ b hb=>⟨b,hb,Like.refl b⟩,.refl _ _,⟨fun p hp=>by simp at hp,fun p hp=>by simp[cx]at hp,rfl,List.nodup_nil,fun D hD=>by simp at hD,fun l hl=>(by cases hl),rfl,fun _ _=>rfl,fun _=>rfl,fun _ h=>h.elim,Nat.le_refl _⟩⟩
    refine xY (rd:=none) (n:=0) (callsIn_of_wp_marks hfn hb trivial ?_);refine kC (ng:=false) (Bz (m:=0) ok hC (ok.nvars f fi hf) (rs,jX)) (fun _ f ps y z hy hz=>Nh ok hS hy hz) c ⟨cx,acY,rfl⟩ _ _ w _ _ _ trivial h (hdr c hb) (fun h=>by cases h) (fun _ _=>⟨fun _ _=>trivial,fun _ _ h=>h.elim⟩) ⟨rfl,hi⟩ fun ex x' st a w1 hk i=>?_;obtain⟨rfl,i⟩:=i;have hk':ahA T fi.cfg fi.fn [.box [.slice (fA fi.cfg.vkeep) z acZ len0],.arr sa ks xs] st=some (rs,jX)∧(ex=.normal∨ex=.ret):=by
     cases ex with
     | normal=>exact⟨hk,.inl rfl⟩
     | exit id=>cases hk
     | ret=>exact⟨hk,.inr rfl⟩
    obtain⟨hk,hex⟩:=hk';obtain⟨M1,β1,L1,ds1,r1,e1,e2,e3',YE⟩:=i;have goal:LeavesInM (FW none) 0 P fi.fn a.tmps (fun e w'=>∃ cs M',e=.returned (vF cs)∧Wj gl T fi w M β sa ks xs rs jX w' M' cs) a.defers .returning w1:=by
     rw[YE.marks];refine qX ds1 w1 YE.nodup (fun D hD=>(YE.lies _ (YE.mark D hD).1).1) fun w' q1 q2 q3 q4 q5 q6=>?_;have r:=Inv.shut r1 YE rfl q1 q2 q3 q4 q5;have e3:jK gl w.drawn w'.drawn:=by rw[q6];exact e3'
     unfold ahA at hk;split at hk
     case h_2=>cases hk
     rename_i vs b0 a0 ks0 xs0 hvs hbl;simp only[List.cons.injEq,cu.arr.injEq,and_true]at hbl;obtain⟨_,rfl,rfl,rfl⟩:=hbl;split at hk
     case h_2=>cases hk
     rename_i X z1 off len hbox;split at hk
     case h_2=>cases hk
     rename_i a1 ks1 ys harr;cases hcd:(a1==sa&&Kd.BQ ks1 ks)&&(DX fi.cfg.rets&&cond fi.cfg.vkeep (X==100001) (Nat.blt X 100000)) with
     | false=>rw[hcd]at hk;cases hk
     | true =>
     rw[hcd]at hk;simp only[qBa,beq_iff_eq]at hcd;obtain⟨⟨rfl,hks⟩,ajV,hXs⟩:=hcd;have:=Kd.rJ _ _ hks;subst this;simp only[cond_true]at hk;split at hk
     case h_2=>cases hk
     rename_i rs' hrv;simp only[gY,jD,qOa,Prod.mk.injEq]at hk;obtain⟨rfl,rfl⟩:=hk;obtain⟨cs,g1,g2⟩:=D7 ok r hvs;have hsub:∀ s b,look (pY st.heap [ah,X]) s=some b→look st.heap s=some b:=fun s b hb=>(BL hb).1;obtain⟨S,ps,p1,p2,p3,p4⟩:=ES r (hA:=look st.heap) (βA:=β1) (fun j blk hj=>⟨hj,rfl⟩) hrv hsub g2;have hps:=TA p1 ajV;have hS2:∀ s∈S,(look st.heap s).isSome=true∧s≠ah∧s≠X:=by intro s hs;obtain⟨b,hb⟩:=Option.isSome_iff_exists.1 (p2 s hs).1;obtain⟨k1,k2⟩:=BL hb;simp only[List.mem_cons,List.not_mem_nil,or_false,not_or]at k2;exact⟨by rw[k1];rfl,k2⟩
     have hup:∀ b,M1 b→dR M1 β1 S b:=fun b h=>.inl h;have e0:β1 ah=β ah:=e1 ah (Nat.le_refl _);have hnS:∀ x b o,(look st.heap x).isSome=true→β1 x=some (b,o)→(x=ah∨x=X)→¬ dR M1 β1 S b:=by
      intro x b o hx hb hxx hm;rcases hm with hm | ⟨s',o',hs',hb'⟩
      · exact(r.own x b o hx hb).1 hm
      · have:=r.inj x s' b o o' hx (hS2 s' hs').1 hb hb';subst this;rcases hxx with h | h
        · exact(hS2 _ hs').2.1 h
        · exact(hS2 _ hs').2.2 h
     have hib:(look st.heap ah).isSome=true:=by rw[hbox];rfl
     have hiX:(look st.heap X).isSome=true:=by rw[harr];rfl
     have agi:X≠ah:=by rintro rfl;rw[hbox]at harr;cases harr
     have hPr:∀ x b o,(look st.heap x).isSome=true→β1 x=some (b,o)→x≠ah→w.heap.size≤b∨∃ o',β (fA fi.cfg.vkeep)=some (b,o'):=by
      intro x b o hx hb hne;rcases(r.own x b o hx hb).2.2.1 with h | ⟨y,o',hy,hby⟩
      · exact .inl h
      · rcases Lm hy with rfl | rfl
        · exact absurd (r.inj x ah b o o' hx hib hb (e0.trans hby)) hne
        · exact .inr ⟨o',hby⟩
     refine⟨vF cs,xX g1,cs,dR M1 β1 S,rfl,⟨β1,look st.heap,ps,p1,hps⟩,fun b h=>.inl (r.tu b h),fun b h=>?_,fun b h=>?_,fun b hb h1 h2=>?_,r.size,r.os,r.tape,r.output,e3,?_⟩
     · rcases h with h | ⟨s',o',hs',hb'⟩
       · rcases r.lY b h with h' | ⟨_,h' | ⟨y,o',hy,hby⟩⟩
         · exact .inl h'
         · exact .inr (.inl h')
         · rcases Lm hy with rfl | rfl
           · exact absurd h (r.own ah b o' hib (e0.trans hby)).1
           · exact .inr (.inr ⟨o',hby⟩)
       · exact .inr (hPr s' b o' (hS2 s' hs').1 hb' (hS2 s' hs').2.1)
     · rcases h with h | ⟨s',o',hs',hb'⟩
       · exact r.gU b h
       · exact(r.own s' b o' (hS2 s' hs').1 hb').2.1
     · refine r.keep b hb fun ⟨y,o,hy,hby⟩=>?_;rcases Lm hy with rfl | rfl
       · exact h1 o hby
       · exact h2 o hby
     · have hB:=r.heap ah _ hbox;have hA:=r.heap X _ harr;cases hB with
       | box _ bb bo C e fr k1 k2 k3 k4 k5 k6 =>
       have hcell:=k6 0 _ rfl;have hz:z1=ks1.length:=by
        generalize C.getD (bo+0) undef=u at hcell;cases hcell with
        | slice _ _ _ a' ks' xs' b' o' cap h1 hl hb hcap hr=>rw[harr]at h1;cases h1;rfl
        | sliceE _ _ a' ks' xs' base h1 hl=>rw[harr]at h1;cases h1;rfl
       subst hz;refine⟨off,len,ys,bb,bo,C,e,fr,β1 X,rfl,e0▸k1,hnS ah bb bo hib k1 (.inl rfl),k2,by simpa using k3,k4,?_,hA.Gz hup rfl,fun b o hb=>?_,fun hkp=>?_⟩
       · exact hcell.kM harr rfl rfl
       · refine⟨hnS X b o hiX hb (.inr rfl),(r.own X b o hiX hb).2.1,?_,hPr X b o hiX hb agi⟩;rintro rfl;exact agi (r.inj X ah b o bo hiX hib hb k1)
       · rw[hkp]at hXs;have hXs:X=100001:=by simpa using hXs
         have hXv:X=fA true:=hXs;have hge:ah≤X:=by rw[hXs];simp[ah]
         have eX:β1 X=β X:=e1 X hge;refine⟨by rw[eX,hXv],?_,fun b o n hb hr=>?_⟩
         · obtain⟨b0,m1,m2⟩:=e2 X hge _ harr;have m1:look (lu fi.cfg.vkeep [.box [.slice (fA fi.cfg.vkeep) z acZ len0],.arr a1 ks1 xs]) X=some b0:=m1;rw[Gy,if_neg agi,hkp,if_pos hXv]at m1;cases m1;exact m2.2.2
         · have hlv : (look (lu fi.cfg.vkeep [.box [.slice (fA fi.cfg.vkeep) z acZ len0],.arr a1 ks1 xs]) X).isSome = true := by rw[Gy,if_neg agi,hkp,if_pos hXv];rfl
           have hlt:=(hp.own X b o hlv (eX▸hb)).2;refine r.room b n ?_ ⟨X,o,hlv,eX▸hb⟩ hr;show b<cond fi.cfg.vkeep w.heap.size 0;rw[hkp];exact hlt
    rcases hex with rfl | rfl
    · exact goal
    · exact goal
theorem aak {sa:Bool} {ks:List Kd} {xs:List PV}:Ai [(99999,cu.arr sa ks xs)]:=by intro ys he;rw[Iq,if_neg (by decide)]at he;cases he
theorem zT {b1:cu} {x:Nat} (hx:(look [(99999,b1)] x).isSome=true):x=99999:=by
 rw[Iq]at hx;by_cases h1:x=99999
 · exact h1
 · rw[if_neg h1]at hx;cases hx
theorem Rel.ahN {args : List AV} {b1 : cu} {aY : Array Value} (hp : OY w M β args b1 aY) {gl : Option (List (Nat × Obj))} (hgl : ∀ p ∈ gl.getD [],M p.1 ∧ w.heap[p.1]? = some p.2) (fn : Func) :
    Rel ⟨w,0,Nat.zero_le _,gl⟩ (fun b=>∃ o,β 99999=some (b,o)) M M (fun x=>if ah≤x then none else β x) { env:=args++List.replicate (fn.ntmps-args.length) .undef,heap:=[(99999,b1)] } { tmps:=aY++Array.replicate (fn.ntmps-aY.size) undef,defers:=[] } w:=by
  have hn:=hp.num;have tX:(if ah≤99999 then none else β 99999)=β 99999:=if_neg (by decide);refine⟨?_,fun t v ht=>?_,fun s blk hs=>?_,fun s b o hs hb=>?_,fun s s' b o o' hs hs' _ _=>?_,hp.gU,fun b h=>.inl h,fun b h=>h,fun b _ _=>rfl,fun b n _ _ h=>h,Nat.le_refl _,rfl,rfl,rfl,hgl⟩
  · simp[hn]
  · by_cases hlt:t<args.length
    · have ht' : args[t]? = some v := by rwa[List.getElem?_append_left hlt]at ht
      have:=hp.args t v ht';have e:(aY++Array.replicate (fn.ntmps-aY.size) undef).getD t undef=aY.getD t undef:=by rw[qAb,qAb,Array.getElem?_append_left (by omega)]
      rw[e];refine this.mono (fun b h=>⟨h,rfl⟩) fun s blk _ hl=>⟨blk,hl,Like.refl _,?_,fun _ _ _ _ h=>h⟩;have:=zT (x:=s) (by rw[hl];rfl);subst this;exact tX
    · have : v = .undef := by
        rw[List.getElem?_append_right (by omega),List.getElem?_replicate]at ht;split at ht
        · simpa using ht.symm
        · cases ht
      subst this;exact .undef _
  · have hs:look [(99999,b1)] s=some blk:=hs;have e:=zT (x:=s) (by rw[hs];rfl);subst e;rw[Iq,if_pos rfl]at hs;cases hs;cases hp.blk with
    | jS a ks=>exact .jS a ks
    | arr a ks xs b o C e fr g1 g2 g3 g4 g5 g6=>exact .arr a ks xs b o C e fr (tX.trans g1) g2 g3 g4 g5 g6
    | log on xs=>exact .log on xs
    | box cs b o C e fr g1 g2 g3 g4 g5 g6 =>refine .box cs b o C e fr (tX.trans g1) g2 g3 g4 g5 fun j c hc=>(g6 j c hc).mono (fun b h=>⟨h,rfl⟩) fun s blk _ hl=>⟨blk,hl,Like.refl _,?_,fun _ _ _ _ h=>h⟩;have:=zT (x:=s) (by rw[hl];rfl);subst this;exact tX
  · have e:=zT (x:=s) hs;subst e;have hb:β 99999=some (b,o):=by rw[← tX];exact hb
    obtain⟨g1,g2⟩:=hp.own b o hb;exact⟨g1,g2,.inr ⟨o,hb⟩,.inl (Nat.zero_le _)⟩
  · rw[zT (x:=s) hs,zT (x:=s') hs']
theorem aal (ok : dZ P T) {X : Ext} {gl : Option (List (Nat × Obj))} (hX : sF P T gl X) {n : Nat} (hC : jl P T gl (lJ T X n)) (hS : IW P T gl (lJ T X n)) :
    ∀ f fi args sa ks xs rs jX,dN T.funcs f=some fi→fi.cfg.take=true→lJ T X (n+1) f args [.log false [],.arr sa ks xs]=some (rs,jX)→(∃ c,fi.fn.body=some c) ∧
    ∀ (w:World) (M:Nat→Prop) (β:Nat→Option (Nat × Nat)) (aY:Array Value),(∀ p∈gl.getD [],M p.1∧w.heap[p.1]?=some p.2)→OY w M β args (.arr sa ks xs) aY →
     Calls P f aY w fun e w'=>∃ cs ps M',e=.returned (vF cs)∧Q9 gl T fi w M β rs w' M' cs ps:=by
  intro f fi args sa ks xs rs jX hf htk h;simp only[lJ,hf]at h;cases hx:X f with
  | some s =>
   rw[hx]at h;cases hge:fi.cfg.gext with
   | false =>obtain⟨_,h1,_⟩:=hX.2.1 f fi s args _ rs jX hf hge hx h;have:=h1 _ (List.mem_cons_self ..);simp[gI]at this
   | true =>obtain⟨_,_,h2,_⟩:=hX.2.2 f fi s args _ _ hf hge hx h;simp at h2
  | none =>
   rw[hx]at h;simp only at h;cases hb:fi.fn.body with
   | none=>rw[hb]at h;cases h
   | some c =>
    rw[hb]at h;have hge:fi.cfg.gext=false:=by
     cases hge:fi.cfg.gext with
     | false=>rfl
     | true=>simp[yY,hge]at h
    have Wp:fi.cfg.vcall=false:=by
     cases Wp:fi.cfg.vcall with
     | false=>rfl
     | true=>simp[yY,hge,Wp]at h
    simp only[yY,hge,Wp,htk,cond_true,gY,jD,bU,MR,ZI,X4]at h;refine⟨⟨c,rfl⟩,fun w M β aY hgl hp=>?_⟩;obtain⟨hfn,hname,hdr,hret⟩:=ok.funcs f fi hf;let cx:Cx:={ w0:=⟨w,0,Nat.zero_le _,gl⟩,Pr:=fun b=>∃ o,β 99999=some (b,o),M0:=M,OQ:=fun x=>if ah≤x then none else β x,hp0:=[(99999,.arr sa ks xs)],Wr:=fun _=>True,t0:=aY++Array.replicate (fi.fn.ntmps-aY.size) undef,rd:=none,L0:=[],nm:=w.heap.size }
    have hi:Inv cx { env:=args++List.replicate (fi.fn.ntmps-args.length) .undef,heap:=[(99999,.arr sa ks xs)] } { tmps:=aY++Array.replicate (fi.fn.ntmps-aY.size) undef,defers:=[] } w :=
     ⟨M,_,[],[],Rel.ahN hp hgl fi.fn,fun _ _=>rfl,fun s _ b hb=>⟨b,hb,Like.refl b⟩,.refl _ _,⟨fun p hp=>by simp at hp,fun p hp=>by simp[cx]at hp,rfl,List.nodup_nil,fun D hD=>by simp at hD,fun l hl=>(by cases hl),rfl,fun _ _=>rfl,fun _=>rfl,fun _ h=>h.elim,Nat.le_refl _⟩⟩
    refine xY (rd:=none) (n:=0) (callsIn_of_wp_marks hfn hb trivial ?_);refine kC (ng:=false) (Bz (m:=0) ok hC (ok.nvars f fi hf) (rs,jX)) (fun _ f ps y z hy hz=>Nh ok hS hy hz) c ⟨cx,aak,rfl⟩ _ _ w _ _ _ trivial h (hdr c hb) (fun h=>by cases h) (fun _ _=>⟨fun _ _=>trivial,fun _ _ h=>h.elim⟩) ⟨rfl,hi⟩ fun ex x' st a w1 hk i=>?_;obtain⟨rfl,i⟩:=i;have hk':ahB T fi.cfg fi.fn st=some (rs,jX)∧(ex=.normal∨ex=.ret):=by
     cases ex with
     | normal=>exact⟨hk,.inl rfl⟩
     | exit id=>cases hk
     | ret=>exact⟨hk,.inr rfl⟩
    obtain⟨hk,hex⟩:=hk';obtain⟨M1,β1,L1,ds1,r1,e1,e2,e3',YE⟩:=i;have goal:LeavesInM (FW none) 0 P fi.fn a.tmps (fun e w'=>∃ cs ps M',e=.returned (vF cs)∧Q9 gl T fi w M β rs w' M' cs ps) a.defers .returning w1:=by
     rw[YE.marks];refine qX ds1 w1 YE.nodup (fun D hD=>(YE.lies _ (YE.mark D hD).1).1) fun w' q1 q2 q3 q4 q5 q6=>?_;have r:=Inv.shut r1 YE rfl q1 q2 q3 q4 q5;have e3:jK gl w.drawn w'.drawn:=by rw[q6];exact e3'
     unfold ahB at hk;split at hk
     · cases hk
     rename_i vs hvs;split at hk
     case h_2=>cases hk
     rename_i rs' hrv;simp only[gY,qOa,Prod.mk.injEq]at hk;obtain⟨rfl,rfl⟩:=hk;obtain⟨cs,g1,g2⟩:=D7 ok r hvs;obtain⟨S,ps,p1,p2,p3,p4⟩:=ES r (hA:=look st.heap) (βA:=β1) (fun j blk hj=>⟨hj,rfl⟩) hrv (fun _ _ h=>h) g2;refine⟨vF cs,xX g1,cs,ps,dR M1 β1 S,rfl,⟨⟨β1,look st.heap,p1⟩,fun b o hb=>?_,fun b h=>.inl (r.tu b h),fun b h=>?_,fun b h=>?_,fun b hb h1=>?_,r.size,r.os,r.tape,r.output,e3⟩⟩
     · obtain⟨s,o0,k1,k2,k3,k4⟩:=p3 b o hb;obtain⟨o1,o2,o3⟩:=r.own s b o0 k1 k4;refine⟨fun h=>?_,o2,o3.1⟩;rcases h with h | ⟨s',o',hs',hb'⟩
       · exact o1 h
       · exact k2 (by rw[r.inj s s' b o0 o' k1 (p2 s' hs').1 k4 hb'];exact hs')
     · rcases h with h | ⟨s',o',hs',hb'⟩
       · rcases r.lY b h with h' | ⟨_,h'⟩
         · exact .inl h'
         · exact .inr h'
       · exact .inr (r.own s' b o' (p2 s' hs').1 hb').2.2.1
     · rcases h with h | ⟨s',o',hs',hb'⟩
       · exact r.gU b h
       · exact(r.own s' b o' (p2 s' hs').1 hb').2.1
     · exact r.keep b hb fun ⟨o,h⟩=>h1 o h
    rcases hex with rfl | rfl
    · exact goal
    · exact goal
end
end Go.Skm
namespace Go.Skm
open Go.RowKit
section
variable {P:Program} {T:Tab} {C:aS} {G:Gv}
theorem agj (n i:Nat):((Array.replicate n undef)[i]?).getD undef=undef:=by by_cases h:i<n<;>simp[h]
theorem agk {A:Array Value} {i:Nat} (h:i<A.toList.length):A.toList[i]?=some (A.getD i undef):=by rw[qLd h];simp only[Array.length_toList]at h;simp[h]
theorem WE {gl:Option (List (Nat × Obj))} {wd:World} {Mk:Nat→Prop} {on:Bool} {done:List PV} {t0:Array Value} {ys:List Nat} {yv:Value} {o:Oper} (h:yOp ys o=true):BI (gcx gl wd Mk on done t0 ys yv) o:=by
 refine⟨fun _ _=>trivial,fun t ht hy=>?_⟩;have hy:t∈ys:=hy;simp only[yOp,ht,qBa]at h;have h1:=h.1;simp only[mW.2 hy,cond_true]at h1;split at h1
 · rename_i s hs;exact⟨s,mW.1 h1,.inl hs⟩
 · rename_i s hs;exact⟨s,mW.1 h1,.inr hs⟩
 · cases h1
theorem RX {n:Nat}:∀ {l:List Nat},VX n l=true→∀ t∈l,t=0∨n<t
 | [],_,t,ht=>by simp at ht
 | x::r,h,t,ht=>by
  simp only[VX,qBa,Bool.or_eq_true]at h;rcases List.mem_cons.1 ht with rfl | ht
  · exact h.1.imp Nat.eq_of_beq_eq_true Nat.le_of_ble_eq_true
  · exact RX h.2 t ht
theorem YF {ys:List Nat}:∀ {l:List Oper},afX ys l=true→∀ o∈l,yOp ys o=true
 | [],_,o,ho=>by simp at ho
 | x::r,h,o,ho=>by
  simp only[afX,qBa]at h;rcases List.mem_cons.1 ho with rfl | ho
  · exact h.1
  · exact YF h.2 o ho
theorem Nk (ok : dZ P T) (hC : jl P T G.gl C) (hG : G.Ok P) {hd : List (List Nat)} {ops : Array Oper} {k : St → Option (List AV × List cu)} (hk : ∀ st x,k st = some x → Has x st) {Q : Exit → Act → World → Prop}
    (hQ:∀ x st' a' w',k st'=some x→GI G x st' a' w'→Q .normal a' w'):∀ (l:List Oper) (j:Nat) (st:St) (a:Act) (w:World) (x:List AV × List cu),(∀ o∈l,yOp G.ys o=true)→fP T C false hd ops.toList l j st k=some x→GI G x st a w →
    wpListIn (FW none) 0 P ops Q l a w
  | [],j,st,a,w,x,_,h,i=>hQ x st a w h i
  | o::rest,j,st,a,w,x,hw,h,gi=>by
   have ih:=fun st' a' w' x' h i=>Nk (hd:=hd) (ops:=ops) ok hC hG hk hQ rest (j+1) st' a' w' x' (fun o ho=>hw o (by simp[ho])) h i;have step:∀ st1,step1 T C false (hd.getD j []) ops.toList o st=some st1→fP T C false hd ops.toList rest (j+1) st1 k=some x→wpListIn (FW none) 0 P ops Q (o::rest) a w:=by
    intro st1 h1 h;obtain⟨wd,Mk,on,done,i,g1,g2⟩:=gi;have:=agb ok hC rfl (WE (hw o (by simp))) i h1 (rd:=none) (n:=0) (K:=wpListIn (FW none) 0 P ops Q rest) (fun a' w' i'=>ih st1 a' w' x h ⟨wd,Mk,on,done,i',fun b zs hb=>g1 b zs (UF h1 b zs hb),g2⟩) (Q:=Q);unfold wpListIn;split
    · rename_i hw;rw[if_pos hw]at this;exact this
    · rename_i hw;rw[if_neg hw]at this;exact⟨fun _ _=>trivial,this⟩
   cases hy:rG false st o with
   | none =>
    rw[qN _ _ hy]at h;cases h1:step1 T C false (hd.getD j []) ops.toList o st with
    | none=>rw[h1]at h;cases h
    | some st1=>rw[h1]at h;exact step st1 h1 h
   | some p =>
    obtain⟨xs,vs⟩:=p;rw[rP _ _ hy]at h;cases hg:guardOf ops.toList o st.env with
    | none=>rw[hg]at h;cases h
    | some b =>
     rw[hg]at h;cases b with
     | false=>exact step _ (by unfold step1;rw[RD,hg]) h
     | true =>
      obtain⟨no,hno,hyes⟩:=Iu h;obtain⟨c,ss,ty,_,hop,hce,hyl,ahO,hdp⟩:=Oh hy;obtain⟨wd,Mk,on,done,i,g1,g2,g3,g4⟩:=gi;obtain⟨rfl,rfl⟩:=g1 _ _ ahO;have hwant:=WC rfl i hg;rcases g4 with ⟨_,ajX,O,K,k1,k2,k3⟩ | ⟨hf,_⟩
      case inr=>cases hf
      have i0:=i;obtain⟨M,β,L,ds,r,i1,i2,i3,fx⟩:=i0;have hgrow:rV G.gl wd w:=r.turns i3;have hgs:wd.heap.size≤w.heap.size:=r.size;obtain⟨b',zs,q1,ys,q2⟩:=IB hk rest (j+1) _ x hyes;rw[yR]at q1;cases q1;have hrest:ajX=.agg vs::ys:=by rw[q2,List.append_assoc]at k1;exact(List.append_cancel_left k1).symm
      subst hrest;unfold wpListIn;rw[hwant,if_pos rfl];refine wV (fun c' hc'=>by rw[hop]at hc';cases hc') ?_;obtain⟨dst,op,type,pos,after,guard⟩:=o;simp only at hop;subst hop;obtain⟨callee,args,ts⟩:=c;simp only at hce hdp;subst hce;have hyo:=hw _ List.mem_cons_self;simp only[yOp,qBa]at hyo;have hty:ty∈G.ys:=mW.1 hyo.2;have hdst:∀ t,dst=some t→t ∉ G.ys:=fun t e ht=>by subst e;have:=hyo.1;simp only[mW.2 ht,cond_true]at this;cases this
      have hev:a.eval (.tmp ty)=.func (.yield G.l) #[] #[]:=by
       show a.tmps.getD ty undef=_;rcases fx.yl ty hty with h | h
       · exact h
       · have hs:=r.slot ty;rw[hyl,h]at hs;cases hs
      rw[PZ hev];have hls:mX w M β (look st.heap) (l7 st.env args.toList) (args.map a.eval).toList:=by rw[Array.toList_map];exact r.l7 _
      obtain⟨d1,d2,d3⟩:=Gn r.heap (fun _ _ h=>h) hdp hls;have hlt:∀ b,O b→b<wd.heap.size:=fun b hb=>hG.lt _ _ _ _ k2 b (.inl hb);obtain⟨fn,tmps,asg,body,hrun,Zd⟩:=hG.y vs ys O K w (dR M β ss) (args.map a.eval) (hG.j _ _ _ _ _ k2 hgrow) (by omega) (fun b hb=>by
       have out:∀ b,wd.heap.size≤b→¬ O b∧(G.M0 b∨G.W0.heap.size≤b):=fun b hb=>⟨fun ho=>by have:=hlt b ho;omega,by right;omega⟩;rcases hb with hb | ⟨s,o',hs,hb⟩
       · refine⟨r.gU b hb,?_⟩;rcases r.lY b hb with h | ⟨h,_⟩
         · exact⟨k3 b h,(g3 b h).2⟩
         · exact out b h
       · obtain⟨o1,o2,o3,_⟩:=r.own s b o' (d3 s hs) hb;refine⟨o2,?_⟩;rcases o3 with h | h
         · exact out b h
         · exact h.elim) (by rw[← Array.length_toList];exact d1.symm) (fun i c hc=>by
       have hi:i<(args.map a.eval).toList.length:=by rw[← d1];exact(qLa.1 hc).1
       exact d2 i c _ hc (agk hi))
      rw[hrun,Oper.uponIn_round];refine⟨xZ none,RoundIn.mono Zd fun e W' hR=>?_⟩;obtain⟨ht,O',K',(⟨rfl,hJ⟩ | ⟨rfl,hJx⟩),hO,_⟩:=hR
      · exact ih _ _ W' x hyes (GI.after hG i ahO g2 g3 k2 k3 ht hdst true (.inl ⟨rfl,⟨O',K',hJ,hO⟩,ys,q2,rfl⟩))
      · exact ih _ _ W' no hno (GI.after hG i ahO g2 g3 k2 k3 ht hdst false (.inr ⟨rfl,O',K',hJx⟩))
theorem YG (ok:dZ P T) (hC:jl P T G.gl C) (hG:G.Ok P) {F:FI} {n:Nat} (zF:F.cfg.nvars≤ah):WA T C F n P 0 KP (fun _:Unit=>none) (fun _ o=>yOp G.ys o=true) (fun _ x st a w=>GI G x st a w) where
 reg:=by
  intro _ id ops draw st a w k x Q hk h hd hw gi hQ;have hw':∀ o∈ops.toList,yOp G.ys o=true:=hw;have hk':∀ st x,(gZ (settle F.cfg ops.toList st) fun st'=>k .normal st')=some x→Has x st:=fun st x h=>by rw[bU]at h;exact(hk .normal _ x h).sub (qO zF _ _)
  simp only[bW]at h;cases draw with
  | false =>refine wpIn_region_list (Nk ok hC hG hk' (fun x' st' a' w' h1 g=>?_) ops.toList 0 st a w x hw' h gi);rw[bU]at h1;exact hQ x' _ a' w' h1 (g.map (fun _ i=>i.settle zF _) (qO zF _ _))
  | true =>
   simp only[eU]at hd;cases hh:dN F.hides id with
   | none=>rw[hh]at h;cases h
   | some hid =>
    rw[hh]at h hd;simp only[qBa]at hd;simp only[bU]at h;obtain⟨wd,Mk,on,done,i,g1,g2⟩:=gi.map (st':=st.strike (present st.heap (vH ops.toList ops.toList))) (fun _ i=>i.strike _) (uy _ _);have back:∀ {k2:St→Option (List AV × List cu)} {st':St} {a':Act} {w':World},Skm.sW (look (st.strike (present st.heap (vH ops.toList ops.toList))).heap ah) st' k2=some x→Inv (gcx G.gl wd Mk on done G.t0 G.ys G.yv) st' a' w'→∃ st2,k2 st2=some x∧GI G x st2 a' w':=by intro k2 st' a' w' h1 i';obtain⟨st2,h2,i2,hl2⟩:=i'.sW (fun on' xs he=>by obtain⟨rfl,rfl⟩:=g1 _ _ he;exact⟨xs,by simp[gcx,look]⟩) h1;exact⟨st2,h2,wd,Mk,on,done,i2,fun b zs hb=>g1 b zs (hl2 b zs hb),g2⟩
    cases hy:ZH F.cfg.ys ops.toList with
    | none =>rw[hy]at h;refine Yz ok hC hd.1 hd.2 h (fun o ho=>WE (hw' o ho)) i fun st' a' w' h1 i'=>?_;obtain⟨st2,h2,gi2⟩:=back h1 i';exact hQ x _ a' w' h2 (GI.map gi2 (fun _ i=>i.settle zF _) (qO zF _ _))
    | some jc =>rw[hy]at h;refine abo ok hC hd.1 hd.2 (RQ hy) h (fun o ho=>WE (hw' o ho)) i fun st' a' w' h1 i' _=>?_;obtain⟨st2,h2,gi2⟩:=back h1 i';refine Nk ok hC hG (fun st x h=>(hk .normal _ x h).sub (qO zF _ _)) (fun x' st3 a3 w3 h3 g3=>hQ x' _ a3 w3 h3 (g3.map (fun _ i=>i.settle zF _) (qO zF _ _))) (ops.toList.drop jc) jc st2 a' w' x (fun o ho=>hw' o (List.mem_of_mem_drop ho)) h2 gi2
 forget:=fun _ x st a w c g=>g.map (fun _ i=>i.bQ _ _) (jY _ _ _)
 cond:=by intro _ x st a w c b g hv;obtain⟨wd,Mk,on,done,⟨M,β,L,ds,r,_⟩,_⟩:=g;have hc:=r.dJ c;rw[hv]at hc;exact hc.EL
 kseq:=fun z k hk=>hk.seq zF z
 kblock:=fun id k hk=>hk.block id
 kloop:=fun c j k hk=>hk.loop zF c j
theorem aeU (ok:dZ P T) {X:Ext} {gl:Option (List (Nat × Obj))} (hX:sF P T gl X) {n:Nat} (hC:jl P T gl (lJ T X n)):IW P T gl (lJ T X (n+1)):=by
 intro g fi caps x hf hpb h;simp only[lJ,hf]at h;cases hx:X g with
 | some s =>
  rw[hx]at h;obtain⟨rs,jX⟩:=x;cases hge:fi.cfg.gext with
  | false =>obtain⟨_,h1,_⟩:=hX.2.1 g fi s _ _ rs jX hf hge hx h;have:=h1 _ (List.mem_singleton.2 rfl);simp[gI]at this
  | true =>
   obtain⟨ajY,h1,_,h3,h4⟩:=hX.2.2 g fi s _ _ _ hf hge hx h;have hc:caps=ajY:=by simp only[List.cons.injEq,true_and]at h1;exact List.map_inj_right (fun _ _ e=>AV.p.inj e) |>.1 h1
   subst hc;exact⟨h3,h4⟩
 | none =>
  rw[hx]at h;simp only at h;cases hb:fi.fn.body with
  | none=>rw[hb]at h;cases h
  | some c =>
   rw[hb]at h;simp only at h;have hge:fi.cfg.gext=false:=by
    cases hge:fi.cfg.gext with
    | false=>rfl
    | true=>simp[yY,hge]at h
   have ahP:fH c=true∧(∀ o∈opsOf c,yOp fi.cfg.ys o=true)∧∀ t∈fi.cfg.ys,t=0∨caps.length<t:=by unfold kD at hpb;rw[hb,hge]at hpb;simp only[Bool.false_or,qBa]at hpb;exact⟨hpb.1,YF hpb.2.2.1,RX hpb.2.1⟩
   have Wp:fi.cfg.vcall=false:=by unfold kD at hpb;rw[hb,hge]at hpb;simp only[Bool.false_or,qBa,qBb]at hpb;exact hpb.2.2.2.1
   have htk:fi.cfg.take=false:=by unfold kD at hpb;rw[hb,hge]at hpb;simp only[Bool.false_or,qBa,qBb]at hpb;exact hpb.2.2.2.2
   have hcb:yY fi.cfg [.log true []]=true:=by simp[yY,hge,Wp,htk]
   rw[hcb]at h;simp only[cond_true,gY,jD,bU,MR,ZI,Wp,htk]at h;obtain⟨hfn,hname,hdr,hret⟩:=ok.funcs g fi hf;refine⟨hfn,?_⟩;intro W0 M0 l lb J Jx O0 hgl hlb hlv hM0 hJ hJx hlt hY h0;let aY:Array Value:=#[.func (.yield l) #[] #[]]++lb;let t0:Array Value:=aY++Array.replicate (fi.fn.ntmps-aY.size) undef;let G:Gv:={ W0,M0,J,Jx,t0,l,gl,ys:=fi.cfg.ys };have hc0:aY[0]?=some (.func (.yield l) #[] #[]):=by show (#[Value.func (.yield l) #[] #[]]++lb)[0]?=_;rw[Array.getElem?_append_left (by simp)];rfl
   have hcs:0<aY.size:=by show 0<(#[Value.func (.yield l) #[] #[]]++lb).size;rw[Array.size_append];show 0<1+lb.size;omega
   have hG:G.Ok P:=⟨fun r _ _ _ _ h g=>(hJ r).grows h g,fun _ _ _ _ h g=>hJx.grows h g,hlt,hY⟩;have hrep:∀ i,((Array.replicate (fi.fn.ntmps-aY.size) undef)[i]?).getD undef=undef:=fun i=>agj _ i;have hp:tZ W0 M0 (fun _=>none) (.vN::caps.map .p) [.log true []] aY:=by
    refine⟨by simp[aY,hlb];omega,fun i v hi=>?_,fun i b0 hi=>?_,fun i b o hi hb=>(by cases hb),fun i j b o o' hi hj hb=>(by cases hb),fun b hb=>(hM0 b hb).1⟩
    · cases i with
      | zero =>
       simp at hi;subst hi;have:aY.getD 0 undef=.func (.yield l) #[] #[]:=by rw[qAb,hc0];rfl
       rw[this];exact .vN l
      | succ i =>
       simp only[List.getElem?_cons_succ,List.getElem?_map,Option.map_eq_some_iff]at hi;obtain⟨c,hc,rfl⟩:=hi;have:aY.getD (i+1) undef=lb.getD i undef:=by simp only[aY,qAb];rw[Array.getElem?_append_right (by simp)];simp
       rw[this];exact .p _ _ (hlv i c hc)
    · cases i with
      | zero=>simp at hi;subst hi;exact .log _ _
      | succ i=>simp at hi
   have hr:Rel ⟨W0,W0.heap.size,Nat.le_refl _,gl⟩ (fun _=>False) M0 M0 (fun _=>none) (zA fi.fn (.vN::caps.map .p) [.log true []]) { tmps:=t0,defers:=[] } W0:=by have:=Rel.start hp hgl fi.fn;rwa[show (fun b=>∃ i o,i<[cu.log true []].length∧(none:Option (Nat × Nat))=some (b,o))=fun _=>False from funext fun b=>propext ⟨fun ⟨_,_,_,h⟩=>(by cases h),fun h=>h.elim⟩]at this
   have hlk:look (zA fi.fn (.vN::caps.map .p) [.log true []]).heap ah=some (.log true []):=by show look (gV 0 [.log true []]) (ah+0)=_;rw[qM];rfl
   have hgi:GI G x (zA fi.fn (.vN::caps.map .p) [.log true []]) { tmps:=t0,defers:=[] } W0:=by
    refine⟨W0,M0,true,[],⟨M0,fun _=>none,[],[],hr,fun _ _=>rfl,fun s _ blk hb=>⟨blk,?_,Like.refl _⟩,.refl _ _,⟨fun p hp=>by simp at hp,fun p hp=>hp,rfl,List.nodup_nil,fun D hD=>by simp at hD,fun l hl=>(by cases hl),rfl,fun _ _=>rfl,fun _=>rfl,fun t ht=>?_,Nat.le_refl _⟩⟩,fun b zs hb=>?_,Nat.le_refl _,fun b hb=>⟨(hM0 b hb).1,.inl hb⟩,.inl ⟨rfl,pV x.2,O0,_,rfl,h0,fun b hb=>(hM0 b hb).2⟩⟩
    · exact hb
    · rcases ahP.2.2 t ht with rfl | hlt
      · left;show t0.getD 0 undef=_;rw[qAb];show ((aY++Array.replicate (fi.fn.ntmps-aY.size) undef)[0]?).getD undef=_;rw[Array.getElem?_append_left hcs,hc0];rfl
      · right;show t0.getD t undef=_;have hsz:aY.size=1+lb.size:=by show (#[Value.func (.yield l) #[] #[]]++lb).size=_;rw[Array.size_append];rfl
        rw[qAb];show ((aY++Array.replicate (fi.fn.ntmps-aY.size) undef)[t]?).getD undef=_;rw[Array.getElem?_append_right (by omega)];exact hrep _
    · rw[hlk]at hb;cases hb;exact⟨rfl,rfl⟩
   let kf:Ex→St→Option (List AV × List cu):=fun ex st=>match ex with
    | .exit _=>none
    | _=>X3 T fi.cfg fi.fn [.log true []] st
   have hlast:∀ st x',X3 T fi.cfg fi.fn [.log true []] st=some x'→∃ b zs vs,look st.heap ah=some (.log b zs)∧pV x'.2=zs∧Gl T st.env (look st.heap) fi.fn.results.toList=some vs:=by
    intro st x' hk;unfold X3 at hk;split at hk
    · cases hk
    · rename_i vs hvs;split at hk
      · rename_i rs' agh hrv hab;simp only[gY,jD,qOa]at hk;subst hk;simp only[DW]at hab;split at hab
        · rename_i b bs h1 h2;cases h2;cases hc:Ih b&&backOk (.log true []) b with
          | false=>rw[hc]at hab;cases hab
          | true =>
           rw[hc]at hab;simp only[cond_true,qOa]at hab;subst hab;simp only[qBa]at hc;cases b with
           | box=>simp[backOk]at hc
           | arr=>simp[backOk]at hc
           | log on zs=>exact⟨on,zs,vs,h1,rfl,hvs⟩
        · cases hab
      · cases hk
   have hkp:KP kf:=by
    intro ex st x' hk;have hk:X3 T fi.cfg fi.fn [.log true []] st=some x':=by
     cases ex with
     | normal=>exact hk
     | exit id=>cases hk
     | ret=>exact hk
    obtain⟨b,zs,_,h1,h2,_⟩:=hlast st x' hk;exact⟨b,zs,h1,[],by rw[h2];simp⟩
   refine xY (rd:=none) (n:=0) (callsIn_of_wp_marks hfn hb trivial ?_);refine kC (ng:=true) (YG ok hC hG (ok.nvars g fi hf)) (fun h=>by cases h) c () _ _ W0 kf x _ hkp h (hdr c hb) (fun _=>ahP.1) ahP.2.1 hgi fun ex x' st a w1 hk gi=>?_;have hk':X3 T fi.cfg fi.fn [.log true []] st=some x'∧(ex=.normal∨ex=.ret):=by
    cases ex with
    | normal=>exact⟨hk,.inl rfl⟩
    | exit id=>cases hk
    | ret=>exact⟨hk,.inr rfl⟩
   obtain⟨hk,hex⟩:=hk';obtain⟨b,zs,vs,q1,q2,q3⟩:=hlast st x' hk;obtain⟨wd,Mk,on,done,⟨M,β,L,ds,r,i1,i2,i3,fx⟩,g1,g2,g3,g4⟩:=gi;obtain⟨rfl,rfl⟩:=g1 _ _ q1;have goal:LeavesInM (FW none) 0 P fi.fn a.tmps (fun e W'=>(∃ v,e=.returned v)∧∃ O K:Nat→Prop,J [] O K W'∨Jx O K W') a.defers .returning w1:=by
    rw[fx.marks];refine qX ds w1 fx.nodup (fun D hD=>(fx.lies _ (fx.mark D hD).1).1) fun w' k1 k2 k3 k4 k5 k6=>?_;have r':=Inv.shut r fx rfl k1 k2 k3 k4 k5;obtain⟨cs,e1,e2⟩:=D7 ok r' q3;have hgrow:rV G.gl wd w':=r'.turns (by rw[k6];exact i3);refine⟨vF cs,xX e1,⟨_,rfl⟩,?_⟩;rcases g4 with ⟨_,rest,O,K,p1,p2,_⟩ | ⟨_,O,K,p1⟩
    · rw[q2]at p1;have:rest=[]:=by have:=congrArg List.length p1;simp at this;exact this
      subst this;exact⟨O,K,.inl ((hJ _).grows p2 hgrow)⟩
    · exact⟨O,K,.inr (hJx.grows p1 hgrow)⟩
   rcases hex with rfl | rfl
   · exact goal
   · exact goal
theorem kY (ok:dZ P T) {X:Ext} {gl:Option (List (Nat × Obj))} (hX:sF P T gl X):∀ n,jl P T gl (lJ T X n)∧IW P T gl (lJ T X n)
 | 0=>⟨⟨fun f fi args bl rs jX _ _ h=>by simp[lJ]at h,fun f fi args z off len a ks xs rs jX _ _ h=>by simp[lJ]at h,fun f fi args a ks xs rs jX _ _ h=>by simp[lJ]at h,hX.1⟩,fun g fi caps r _ _ h=>by simp[lJ]at h⟩
 | n+1=>⟨⟨acW ok hX (kY ok hX n).1 (kY ok hX n).2,aaj ok hX (kY ok hX n).1 (kY ok hX n).2,aal ok hX (kY ok hX n).1 (kY ok hX n).2,hX.1⟩,aeU ok hX (kY ok hX n).1⟩
theorem GV (ok:dZ P T) {X:Ext} {gl:Option (List (Nat × Obj))} (hX:sF P T gl X) (n:Nat):jl P T gl (lJ T X n):=(kY ok hX n).1
end
end Go.Skm
namespace Go.Skm
section
variable {α β:Type}
open Classical in
noncomputable def lim (f:Nat→Option α):Option α:=if h:∃ x n,f n=some x then some h.choose else none
def ajZ (f:Nat→Option α):Prop:=∀ n m x,n≤m→f n=some x→f m=some x
theorem xC {f:Nat→Option α} {x:α} (h:lim f=some x):∃ n,f n=some x:=by
 unfold lim at h;split at h
 · rename_i h';have:=h'.choose_spec;simp only[qOa]at h;rwa[h]at this
 · cases h
theorem RY {f:Nat→Option α} (hm:ajZ f) {x:α} {n:Nat} (h:f n=some x):lim f=some x:=by have hex:∃ x n,f n=some x:=⟨x,n,h⟩;unfold lim;rw[dif_pos hex];obtain⟨m,hm'⟩:=hex.choose_spec;have h1:=hm n (max n m) x (by omega) h;have h2:=hm m (max n m) _ (by omega) hm';rw[h1]at h2;exact h2.symm
noncomputable def RZ (fg:St→St) (body:St→(Ex→St→Option α)→Option α) (st:St) (k:Ex→St→Option α):Option α:=lim fun m=>qg fg body m st k
def Nl (k k':Ex→St→Option α):Prop:=∀ ex st x,k ex st=some x→k' ex st=some x
def LeB (b b':St→(Ex→St→Option α)→Option α):Prop:=∀ st k k' x,Nl k k'→b st k=some x→b' st k'=some x
def WV (C C':aS):Prop:=∀ f a b x,C f a b=some x→C' f a b=some x
theorem Nl.refl (k:Ex→St→Option α):Nl k k:=fun _ _ _ h=>h
theorem WV.refl (C:aS):WV C C:=fun _ _ _ _ h=>h
def next (fg:St→St) (L:St→Option α) (k:Ex→St→Option α):Ex→St→Option α
 | .normal,st=>gZ (fg st) L
 | .exit id,st=>k (.exit id) st
 | .ret,st=>k .ret st
theorem ET {fg:St→St} {body:St→(Ex→St→Option α)→Option α} {m:Nat} {st:St} {k:Ex→St→Option α}:qg fg body (m+1) st k=body st (next fg (fun st'=>qg fg body m st' k) k):=by simp only[qg];congr 1;funext ex st';cases ex<;>rfl
theorem O3 {fg:St→St} {L L':St→Option α} {k k':Ex→St→Option α} (hL:∀ st x,L st=some x→L' st=some x) (hk:Nl k k'):Nl (next fg L k) (next fg L' k'):=by
 intro ex st x h;cases ex with
 | normal=>simp only[next,bU]at h ⊢;exact hL _ _ h
 | exit id=>exact hk _ _ _ h
 | ret=>exact hk _ _ _ h
theorem nD {fg:St→St} {b b':St→(Ex→St→Option α)→Option α} (hb:LeB b b'):∀ {m m':Nat} {st:St} {k k':Ex→St→Option α} {x:α},m≤m'→Nl k k'→qg fg b m st k=some x→qg fg b' m' st k'=some x
 | 0,_,_,_,_,_,_,_,h=>by simp[qg]at h
 | m+1,0,_,_,_,_,hm,_,_=>by omega
 | m+1,m'+1,st,k,k',x,hm,hk,h=>by rw[ET]at h ⊢;exact hb _ _ _ _ (O3 (fun st x h=>nD hb (by omega) hk h) hk) h
theorem Si {fg:St→St} {b b':St→(Ex→St→Option α)→Option α} (hb:LeB b b') (hb':LeB b' b') {st:St} {k k':Ex→St→Option α} {x:α} (hk:Nl k k') (h:RZ fg b st k=some x):RZ fg b' st k'=some x:=by obtain⟨m,hm⟩:=xC h;exact RY (fun n m x hnm h=>nD hb' hnm (Nl.refl _) h) (nD hb (Nat.le_refl m) hk hm)
end
section
variable {α:Type} (T:Tab)
noncomputable def dw (C:aS) (F:FI):Code→St→(Ex→St→Option α)→Option α
 | .skip,st,k=>k .normal st
 | .region id ops draw,st,k=>
  match draw with
  | false=>fP T C false [] ops.toList ops.toList 0 st fun st'=>gZ (settle F.cfg ops.toList st') fun st'=>k .normal st'
  | true =>
   match dN F.hides id with
   | some hd=>gZ (st.strike (present st.heap (vH ops.toList ops.toList))) fun st =>
    match ZH F.cfg.ys ops.toList with
    | none=>fP T C true hd ops.toList ops.toList 0 st fun st'=>sW (look st.heap ah) st' fun st'=>gZ (settle F.cfg ops.toList st') fun st'=>k .normal st'
    | some j=>fP T C true hd ops.toList (ops.toList.take j) 0 st fun st'=>sW (look st.heap ah) st' fun st'=>fP T C false [] ops.toList (ops.toList.drop j) j st' fun st'=>gZ (settle F.cfg ops.toList st') fun st'=>k .normal st'
   | none=>none
 | .seq a b,st,k=>dw C F a st fun ex st' =>
  match ex with
  | .normal=>dw C F b (bQ F.cfg b st') k
  | .exit id=>k (.exit id) st'
  | .ret=>k .ret st'
 | .cond c x y,st,k =>
  match dJ st.env c with
  | .p (.bool b)=>cond b (dw C F x st k) (dw C F y st k)
  | _=>none
 | .block id c,st,k=>dw C F c st fun ex st' =>
  match ex with
  | .normal=>k .normal st'
  | .exit i=>bif i==id then k .normal st' else k (.exit i) st'
  | .ret=>k .ret st'
 | .scope c,st,k=>dw C F c st k
 | .loop c,st,k=>RZ (bQ F.cfg c) (fun st' k'=>dw C F c st' k') (bQ F.cfg c st) k
 | .exit id,st,k=>k (.exit id) st
 | .ret,st,k=>k .ret st
 | .label _,st,k=>k .normal st
 | .rangeFunc f ps a b,st,k=>
  match dJ st.env f with
  | .p (.fn g caps) =>
   match dN T.funcs g,oz a with
   | some fi,true =>
    bif kD fi caps.length then
    match C g (.vN::caps.map .p) [.log true []] with
    | some r => lC (bQ F.cfg (.seq a b)) fi.cfg.yk ps.toList (nM ps a b)
        (fun st k=>dw C F a st fun ex st' =>
          match ex with
          | .normal=>dw C F b (bQ F.cfg b st') k
          | .exit id=>k (.exit id) st'
          | .ret=>k .ret st') (pV r.2) (bQ F.cfg (.seq a b) st) k
    | none=>none
    else none
   | _,_=>none
  | _=>none
 | _,_,_=>none
def agl (F:FI) (bl:List cu):Ex→St→Option (List AV × List cu)
 | .exit _,_=>none
 | .normal,st=>ZI T F.cfg F.fn bl st
 | .ret,st=>ZI T F.cfg F.fn bl st
noncomputable def bG (C:aS):aS:=fun f args bl =>
 match dN T.funcs f with
 | none=>none
 | some fi =>
  match fi.fn.body with
  | none=>none
  | some c=>bif yY fi.cfg bl then ou T.strict args fun args=>wP T.strict bl fun bl=>gZ (MR fi.cfg fi.fn args bl) fun st=>dw T C fi c st (agl T fi bl) else none
noncomputable def run (X:Ext):aS:=fun f args bl=>lim fun n=>lJ T X n f args bl
end
section
variable {α:Type} {T:Tab} {C C':aS}
theorem Lp (env:List AV) (h:Nat→Option cu) (o:Oper):(∃ D,∀ C,fG T C env h o=D)∨∃ f as_ bl g,∀ C,fG T C env h o=.call (C f as_ bl) g:=by
 have call:∀ (d:Option Nat) (f:Nat) (args:List AV),(∃ D,∀ C,Ar T C h d f args=D)∨∃ f' as_ bl g,∀ C,Ar T C h d f args=.call (C f' as_ bl) g:=by
  intro d f args;unfold Ar;cases (jo T f).Jg.is with
  | true=>exact .inl ⟨_,fun C=>rfl⟩
  | false =>
  simp only[cond_false];have go:∀ (d:Nat) (fi:FI) (pre:List AV) (s A:Nat) (nw:List Nat) (a:Bool) (ks:List Kd) (off len:Nat) (xs:List PV),(∃ D,∀ C,QB T C h d f fi pre s A nw a ks off len xs=D)∨∃ f' as_ bl g,∀ C,QB T C h d f fi pre s A nw a ks off len xs=.call (C f' as_ bl) g:=by
   intro d fi pre s A nw a ks off len xs;unfold QB;split
   · rename_i vs ss hd;cases (Nat.blt s 100000&&(Nat.blt A 100000&&!(A==s)))&&(!(jC s ss)&&!(jC A ss)) with
     | true=>exact .inr ⟨_,_,_,_,fun C=>rfl⟩
     | false=>exact .inl ⟨_,fun C=>rfl⟩
   · exact .inl ⟨_,fun C=>rfl⟩
  cases (jo T f).vcall with
  | true =>
   simp only[cond_true];unfold OX;split
   · split
     · split
       · exact go ..
       · exact .inl ⟨_,fun C=>rfl⟩
     · rename_i fi _ _ _ _ _ _;cases fi.cfg.vkeep with
       | true=>exact .inl ⟨_,fun C=>rfl⟩
       | false=>exact go ..
     · exact .inl ⟨_,fun C=>rfl⟩
   · exact .inl ⟨_,fun C=>rfl⟩
  | false =>
  simp only[cond_false];cases (jo T f).take with
  | true =>
   simp only[cond_true];unfold KJ;split
   · split
     · split
       · exact .inr ⟨_,_,_,_,fun C=>rfl⟩
       · exact .inl ⟨_,fun C=>rfl⟩
     · exact .inl ⟨_,fun C=>rfl⟩
   · exact .inl ⟨_,fun C=>rfl⟩
  | false =>
  simp only[cond_false];unfold uN;split
  · split
    · split
      · exact .inr ⟨_,_,_,_,fun C=>rfl⟩
      · exact .inl ⟨_,fun C=>rfl⟩
    · simp only;split
      · exact .inr ⟨_,_,_,_,fun C=>rfl⟩
      · exact .inl ⟨_,fun C=>rfl⟩
  · exact .inl ⟨_,fun C=>rfl⟩
 obtain⟨dst,op,type,pos,after,guard⟩:=o;cases op with
 | call c =>
  obtain⟨callee,args,ts⟩:=c;cases callee with
  | builtin b=>cases b<;>exact .inl ⟨_,fun C=>rfl⟩
  | invoke r n=>exact .inl ⟨_,fun C=>rfl⟩
  | value f =>
   simp only[fG];split
   · exact call _ _ _
   · exact call _ _ _
   · exact .inl ⟨_,fun C=>rfl⟩
 | _=>exact .inl ⟨_,fun C=>rfl⟩
theorem ac0 (hC:WV C C') {all:List Oper} {o:Oper} {env:List AV} {h:Nat→Option cu} {y:Option Eff} (h1:Bf T C all o env h=some y):Bf T C' all o env h=some y:=by
 have go:∀ {y:Option Eff},((fG T C env h o).run some).map some=some y→((fG T C' env h o).run some).map some=some y:=by
  intro y hy;rcases Lp (T:=T) env h o with ⟨D,hD⟩ | ⟨f,as_,bl,g,hD⟩
  · rw[hD]at hy ⊢;exact hy
  · rw[hD]at hy ⊢;cases hc:C f as_ bl with
    | none=>rw[hc]at hy;simp[DT.run]at hy
    | some r=>rw[hc]at hy;rw[hC _ _ _ _ hc];exact hy
 unfold Bf at h1 ⊢;cases hg:o.guard with
 | none=>rw[hg]at h1;exact go h1
 | some gw =>
  obtain⟨g,want⟩:=gw;rw[hg]at h1;simp only at h1 ⊢;cases hd:uO all g with
  | none=>rw[hd]at h1;cases h1
  | some t =>
   rw[hd]at h1;simp only at h1 ⊢;by_cases hx:∃ b,env.getD t .undef=.p (.bool b)
   · obtain⟨b,hb⟩:=hx;rw[hb]at h1 ⊢;simp only at h1 ⊢;split
     · rename_i hw;rw[if_pos hw]at h1;exact go h1
     · rename_i hw;rw[if_neg hw]at h1;exact h1
   · by_cases hh:env.getD t .undef=.qY []
     · rw[hh]at h1 ⊢;exact h1
     · split at h1
       · rename_i b hb;exact absurd ⟨b,hb⟩ hx
       · rename_i hb;exact absurd hb hh
       · cases h1
theorem Sj (hC:WV C C') {draw:Bool} {hd:List Nat} {all:List Oper} {o:Oper} {st st':St} (h1:step1 T C draw hd all o st=some st'):step1 T C' draw hd all o st=some st':=by
 unfold step1 at h1 ⊢;cases ha:Bf T C all o st.env (lI hd (look st.heap)) with
 | none=>rw[ha]at h1;cases h1
 | some y=>rw[ha]at h1;rw[ac0 hC ha];exact h1
theorem nG {b:Option cu} {st:St} {k k':St→Option α} {x:α} (hk:∀ st x,k st=some x→k' st=some x) (h:sW b st k=some x):sW b st k'=some x:=by
 unfold sW at h ⊢;split at h
 · split at h
   · exact hk _ _ h
   · cases h
 · exact hk _ _ h
theorem eF (hC:WV C C') {draw:Bool} {hd:List (List Nat)} {all:List Oper} {k k':St→Option α} (hk:∀ st x,k st=some x→k' st=some x):∀ {l:List Oper} {j:Nat} {st:St} {x:α},fP T C draw hd all l j st k=some x→fP T C' draw hd all l j st k'=some x
 | [],j,st,x,h=>hk _ _ h
 | o::r,j,st,x,h=>by
  cases hy:rG draw st o with
  | none =>
   rw[qN _ _ hy]at h ⊢;cases h1:step1 T C draw (hd.getD j []) all o st with
   | none=>rw[h1]at h;cases h
   | some st1=>rw[h1]at h;rw[Sj hC h1];exact eF hC hk (l:=r) h
  | some p =>
   obtain⟨xs,vs⟩:=p;rw[rP _ _ hy]at h ⊢;cases hg:guardOf all o st.env with
   | none=>rw[hg]at h;cases h
   | some b =>
    rw[hg]at h;cases b with
    | false=>exact eF hC hk (l:=r) h
    | true =>obtain⟨no,h1,h2⟩:=Iu h;exact VD (eF hC hk (l:=r) h1) (eF hC hk (l:=r) h2)
theorem YH {fg:St→St} {ws:List Nat} {L L':St→Option α} {k k':Ex→St→Option α} (hL:∀ st x,L st=some x→L' st=some x) (hk:Nl k k'):Nl (sZ fg ws L k) (sZ fg ws L' k'):=by
 intro ex st x h;cases ex with
 | normal=>simp only[sZ,bU]at h ⊢;exact hL _ _ h
 | exit id=>simp only[sZ,bU]at h ⊢;exact hk _ _ _ h
 | ret=>simp only[sZ,bU]at h ⊢;exact hk _ _ _ h
theorem qQ {fg:St→St} {ss:List (Bool × List Kd)} {ps ws:List Nat} {b b':St→(Ex→St→Option α)→Option α} (hb:LeB b b'):∀ {xs:List PV} {st:St} {k k':Ex→St→Option α} {x:α},Nl k k'→lC fg ss ps ws b xs st k=some x→lC fg ss ps ws b' xs st k'=some x
 | [],_,_,_,_,hk,h=>hk _ _ _ h
 | v::xs,st,k,k',x,hk,h=>by
  simp only[lC]at h ⊢;split at h
  · cases h
  · rename_i env he;rw[bU]at h ⊢;exact hb _ _ _ _ (YH (fun st x h=>qQ hb hk h) hk) h
theorem GX {F : FI} {f : Operand} {ps : Array Tmp} {y z : Code} {st : St} {k : Ex → St → Option α} {x : α} (h : dw T C F (.rangeFunc f ps y z) st k = some x) :
    ∃ g caps fi r,dJ st.env f=.p (.fn g caps)∧dN T.funcs g=some fi∧oz y=true∧kD fi caps.length=true∧C g (.vN::caps.map .p) [.log true []]=some r ∧
     lC (bQ F.cfg (.seq y z)) fi.cfg.yk ps.toList (nM ps y z) (fun st k=>dw T C F (.seq y z) st k) (pV r.2) (bQ F.cfg (.seq y z) st) k=some x:=by
  simp only[dw]at h;split at h
  · rename_i g caps hv;split at h
    · rename_i fi hf hp;cases hb:kD fi caps.length with
      | false=>rw[hb]at h;cases h
      | true =>
       rw[hb]at h;simp only[cond_true]at h;split at h
       · rename_i r hr;exact⟨g,caps,fi,r,hv,hf,hp,hb,hr,h⟩
       · cases h
    · cases h
  · cases h
theorem Np {F : FI} {f : Operand} {ps : Array Tmp} {y z : Code} {st : St} {k : Ex → St → Option α} {x : α} {g : Nat} {caps : List PV} {fi : FI} {r : List AV × List cu} (h1 : dJ st.env f = .p (.fn g caps)) (h2 : dN T.funcs g = some fi) (h3 : oz y = true) (h4 : kD fi caps.length = true) (h5 : C g (.vN::caps.map .p) [.log true []] = some r)
    (h:lC (bQ F.cfg (.seq y z)) fi.cfg.yk ps.toList (nM ps y z) (fun st k=>dw T C F (.seq y z) st k) (pV r.2) (bQ F.cfg (.seq y z) st) k=some x):dw T C F (.rangeFunc f ps y z) st k=some x:=by
  simp only[dw];simp only[h1,h2,h3,h4,h5,cond_true];exact h
theorem YI {F : FI} {n : Nat} {f : Operand} {ps : Array Tmp} {y z : Code} {st : St} {k : Ex → St → Option α} {x : α} {g : Nat} {caps : List PV} {fi : FI} {r : List AV × List cu} (h1 : dJ st.env f = .p (.fn g caps)) (h2 : dN T.funcs g = some fi) (h3 : oz y = true) (h4 : kD fi caps.length = true) (h5 : C g (.vN::caps.map .p) [.log true []] = some r)
    (h:lC (bQ F.cfg (.seq y z)) fi.cfg.yk ps.toList (nM ps y z) (AO T C F n y z) (pV r.2) (bQ F.cfg (.seq y z) st) k=some x):bW T C F n (.rangeFunc f ps y z) st k=some x:=by
  simp only[bW];simp only[h1,h2,h3,h4,h5,cond_true];exact h
theorem CZ {k k' : Ex → St → Option α} {f f' : St → Option α} (hf : ∀ st x,f st = some x → f' st = some x) (hk : Nl k k') :
    Nl (fun ex st'=>match ex with | .normal=>f st' | .exit id=>k (.exit id) st' | .ret=>k .ret st') (fun ex st'=>match ex with | .normal=>f' st' | .exit id=>k' (.exit id) st' | .ret=>k' .ret st'):=by
  intro ex st x h;cases ex with
  | normal=>exact hf _ _ h
  | exit id=>exact hk _ _ _ h
  | ret=>exact hk _ _ _ h
theorem GY {k k' : Ex → St → Option α} {id : Nat} (hk : Nl k k') :
    Nl (fun ex st'=>match ex with | .normal=>k .normal st' | .exit i=>bif i==id then k .normal st' else k (.exit i) st' | .ret=>k .ret st') (fun ex st'=>match ex with | .normal=>k' .normal st' | .exit i=>bif i==id then k' .normal st' else k' (.exit i) st' | .ret=>k' .ret st'):=by
  intro ex st x h;cases ex with
  | normal=>exact hk _ _ _ h
  | exit i =>
   simp only at h ⊢;cases hi:i==id with
   | true=>rw[hi]at h;exact hk _ _ _ h
   | false=>rw[hi]at h;exact hk _ _ _ h
  | ret=>exact hk _ _ _ h
theorem fK (hC:WV C C') {F:FI} {n n':Nat} (hn:n≤n'):∀ {c:Code} {st:St} {k k':Ex→St→Option α} {x:α},Nl k k'→bW T C F n c st k=some x→bW T C' F n' c st k'=some x
 | .skip,st,k,k',x,hk,h=>hk _ _ _ h
 | .region id ops draw,st,k,k',x,hk,h=>by
  simp only[bW]at h ⊢;cases draw with
  | false=>exact eF hC (fun st x h=>by rw[bU]at h ⊢;exact hk _ _ _ h) h
  | true =>
   simp only at h ⊢;cases hh:dN F.hides id with
   | none=>rw[hh]at h;cases h
   | some hd =>
    rw[hh]at h;simp only[bU]at h ⊢;split
    · rename_i hy;rw[hy]at h;exact eF hC (fun st x h=>nG (fun st x h=>hk _ _ _ h) h) h
    · rename_i j hy;rw[hy]at h;exact eF hC (fun st x h=>nG (fun st x h=>eF hC (fun st x h=>hk _ _ _ h) h) h) h
 | .seq y z,st,k,k',x,hk,h=>fK hC hn (c:=y) (CZ (fun st x h=>fK hC hn (c:=z) hk h) hk) h
 | .cond c y z,st,k,k',x,hk,h=>by
  simp only[bW]at h ⊢;split
  · rename_i b hb;rw[hb]at h;cases b with
    | true=>exact fK hC hn (c:=y) hk h
    | false=>exact fK hC hn (c:=z) hk h
  · rename_i hx;split at h
    · rename_i b hb;exact absurd hb (hx b)
    · cases h
 | .block id c,st,k,k',x,hk,h=>fK hC hn (c:=c) (GY hk) h
 | .loop c,st,k,k',x,hk,h=>nD (b:=fun st' k'=>bW T C F n c st' k') (b':=fun st' k'=>bW T C' F n' c st' k') (fun st k k' x hk h=>fK hC hn (c:=c) hk h) hn hk h
 | .exit id,st,k,k',x,hk,h=>hk _ _ _ h
 | .ret,st,k,k',x,hk,h=>hk _ _ _ h
 | .label _,st,k,k',x,hk,h=>hk _ _ _ h
 | .rangeFunc f ps y z,st,k,k',x,hk,h=>by obtain⟨g,caps,fi,r,h1,h2,h3,h4,h5,h⟩:=xB h;refine YI h1 h2 h3 h4 (hC _ _ _ _ h5) (qQ (fun st k k' x hk h=>?_) hk h);exact fK hC hn (c:=y) (CZ (fun st x h=>fK hC hn (c:=z) hk h) hk) h
 | .scope c,st,k,k',x,hk,h=>fK hC hn (c:=c) hk h
 | .goto ..,st,k,k',x,hk,h=>by simp[bW]at h
 | .refuse ..,st,k,k',x,hk,h=>by simp[bW]at h
theorem gW {F:FI}:∀ {c:Code} {st:St} {k k':Ex→St→Option α} {x:α},Nl k k'→dw T C F c st k=some x→dw T C F c st k'=some x
 | .skip,st,k,k',x,hk,h=>hk _ _ _ h
 | .region id ops draw,st,k,k',x,hk,h=>by
  simp only[dw]at h ⊢;cases draw with
  | false=>exact eF (WV.refl C) (fun st x h=>by rw[bU]at h ⊢;exact hk _ _ _ h) h
  | true =>
   simp only at h ⊢;cases hh:dN F.hides id with
   | none=>rw[hh]at h;cases h
   | some hd =>
    rw[hh]at h;simp only[bU]at h ⊢;split
    · rename_i hy;rw[hy]at h;exact eF (WV.refl C) (fun st x h=>nG (fun st x h=>hk _ _ _ h) h) h
    · rename_i j hy;rw[hy]at h;exact eF (WV.refl C) (fun st x h=>nG (fun st x h=>eF (WV.refl C) (fun st x h=>hk _ _ _ h) h) h) h
 | .seq y z,st,k,k',x,hk,h=>gW (c:=y) (CZ (fun st x h=>gW (c:=z) hk h) hk) h
 | .cond c y z,st,k,k',x,hk,h=>by
  simp only[dw]at h ⊢;split
  · rename_i b hb;rw[hb]at h;cases b with
    | true=>exact gW (c:=y) hk h
    | false=>exact gW (c:=z) hk h
  · rename_i hx;split at h
    · rename_i b hb;exact absurd hb (hx b)
    · cases h
 | .block id c,st,k,k',x,hk,h=>gW (c:=c) (GY hk) h
 | .loop c,st,k,k',x,hk,h=>Si (b:=fun st' k'=>dw T C F c st' k') (b':=fun st' k'=>dw T C F c st' k') (fun st k k' x hk h=>gW (c:=c) hk h) (fun st k k' x hk h=>gW (c:=c) hk h) hk h
 | .exit id,st,k,k',x,hk,h=>hk _ _ _ h
 | .ret,st,k,k',x,hk,h=>hk _ _ _ h
 | .label _,st,k,k',x,hk,h=>hk _ _ _ h
 | .rangeFunc f ps y z,st,k,k',x,hk,h=>by obtain⟨g,caps,fi,r,h1,h2,h3,h4,h5,h⟩:=GX h;refine Np h1 h2 h3 h4 h5 (qQ (fun st k k' x hk h=>?_) hk h);exact gW (c:=y) (CZ (fun st x h=>gW (c:=z) hk h) hk) h
 | .scope c,st,k,k',x,hk,h=>gW (c:=c) hk h
 | .goto ..,st,k,k',x,hk,h=>by simp[dw]at h
 | .refuse ..,st,k,k',x,hk,h=>by simp[dw]at h
theorem jr (hC:WV C C') {F:FI}:∀ {c:Code} {st:St} {k k':Ex→St→Option α} {x:α},Nl k k'→dw T C F c st k=some x→dw T C' F c st k'=some x
 | .skip,st,k,k',x,hk,h=>hk _ _ _ h
 | .region id ops draw,st,k,k',x,hk,h=>by
  simp only[dw]at h ⊢;cases draw with
  | false=>exact eF hC (fun st x h=>by rw[bU]at h ⊢;exact hk _ _ _ h) h
  | true =>
   simp only at h ⊢;cases hh:dN F.hides id with
   | none=>rw[hh]at h;cases h
   | some hd =>
    rw[hh]at h;simp only[bU]at h ⊢;split
    · rename_i hy;rw[hy]at h;exact eF hC (fun st x h=>nG (fun st x h=>hk _ _ _ h) h) h
    · rename_i j hy;rw[hy]at h;exact eF hC (fun st x h=>nG (fun st x h=>eF hC (fun st x h=>hk _ _ _ h) h) h) h
 | .seq y z,st,k,k',x,hk,h=>jr hC (c:=y) (CZ (fun st x h=>jr hC (c:=z) hk h) hk) h
 | .cond c y z,st,k,k',x,hk,h=>by
  simp only[dw]at h ⊢;split
  · rename_i b hb;rw[hb]at h;cases b with
    | true=>exact jr hC (c:=y) hk h
    | false=>exact jr hC (c:=z) hk h
  · rename_i hx;split at h
    · rename_i b hb;exact absurd hb (hx b)
    · cases h
 | .block id c,st,k,k',x,hk,h=>jr hC (c:=c) (GY hk) h
 | .loop c,st,k,k',x,hk,h=>Si (b:=fun st' k'=>dw T C F c st' k') (b':=fun st' k'=>dw T C' F c st' k') (fun st k k' x hk h=>jr hC (c:=c) hk h) (fun st k k' x hk h=>gW (c:=c) hk h) hk h
 | .exit id,st,k,k',x,hk,h=>hk _ _ _ h
 | .ret,st,k,k',x,hk,h=>hk _ _ _ h
 | .label _,st,k,k',x,hk,h=>hk _ _ _ h
 | .rangeFunc f ps y z,st,k,k',x,hk,h=>by obtain⟨g,caps,fi,r,h1,h2,h3,h4,h5,h⟩:=GX h;refine Np h1 h2 h3 h4 (hC _ _ _ _ h5) (qQ (fun st k k' x hk h=>?_) hk h);exact jr hC (c:=y) (CZ (fun st x h=>jr hC (c:=z) hk h) hk) h
 | .scope c,st,k,k',x,hk,h=>jr hC (c:=c) hk h
 | .goto ..,st,k,k',x,hk,h=>by simp[dw]at h
 | .refuse ..,st,k,k',x,hk,h=>by simp[dw]at h
theorem nH (hC:WV C C') {F:FI} {n:Nat}:∀ {c:Code} {st:St} {k k':Ex→St→Option α} {x:α},Nl k k'→bW T C F n c st k=some x→dw T C' F c st k'=some x
 | .skip,st,k,k',x,hk,h=>hk _ _ _ h
 | .region id ops draw,st,k,k',x,hk,h=>by
  simp only[dw,bW]at h ⊢;cases draw with
  | false=>exact eF hC (fun st x h=>by rw[bU]at h ⊢;exact hk _ _ _ h) h
  | true =>
   simp only at h ⊢;cases hh:dN F.hides id with
   | none=>rw[hh]at h;cases h
   | some hd =>
    rw[hh]at h;simp only[bU]at h ⊢;split
    · rename_i hy;rw[hy]at h;exact eF hC (fun st x h=>nG (fun st x h=>hk _ _ _ h) h) h
    · rename_i j hy;rw[hy]at h;exact eF hC (fun st x h=>nG (fun st x h=>eF hC (fun st x h=>hk _ _ _ h) h) h) h
 | .seq y z,st,k,k',x,hk,h=>nH hC (c:=y) (CZ (fun st x h=>nH hC (c:=z) hk h) hk) h
 | .cond c y z,st,k,k',x,hk,h=>by
  simp only[dw,bW]at h ⊢;split
  · rename_i b hb;rw[hb]at h;cases b with
    | true=>exact nH hC (c:=y) hk h
    | false=>exact nH hC (c:=z) hk h
  · rename_i hx;split at h
    · rename_i b hb;exact absurd hb (hx b)
    · cases h
 | .block id c,st,k,k',x,hk,h=>nH hC (c:=c) (GY hk) h
 | .loop c,st,k,k',x,hk,h => RY (f := fun m => qg (bQ F.cfg c) (fun st' k' => dw T C' F c st' k') m (bQ F.cfg c st) k') (n := n) (fun _ _ _ hnm h => nD (b := fun st' k' => dw T C' F c st' k') (b' := fun st' k' => dw T C' F c st' k') (fun st k k' x hk h => gW (c := c) hk h) hnm (Nl.refl _) h)
     (nD (b:=fun st' k'=>bW T C F n c st' k') (b':=fun st' k'=>dw T C' F c st' k') (fun st k k' x hk h=>nH hC (c:=c) hk h) (Nat.le_refl n) hk h)
 | .exit id,st,k,k',x,hk,h=>hk _ _ _ h
 | .ret,st,k,k',x,hk,h=>hk _ _ _ h
 | .label _,st,k,k',x,hk,h=>hk _ _ _ h
 | .rangeFunc f ps y z,st,k,k',x,hk,h=>by obtain⟨g,caps,fi,r,h1,h2,h3,h4,h5,h⟩:=xB h;refine Np h1 h2 h3 h4 (hC _ _ _ _ h5) (qQ (fun st k k' x hk h=>?_) hk h);exact nH hC (c:=y) (CZ (fun st x h=>nH hC (c:=z) hk h) hk) h
 | .scope c,st,k,k',x,hk,h=>nH hC (c:=c) hk h
 | .goto ..,st,k,k',x,hk,h=>by simp[bW]at h
 | .refuse ..,st,k,k',x,hk,h=>by simp[bW]at h
structure UH (Cn:Nat→aS) (C:aS):Prop where
 mono:∀ n m,n≤m→WV (Cn n) (Cn m)
 lim:∀ f a b x,C f a b=some x→∃ n,Cn n f a b=some x
structure Oi (kn:Nat→Ex→St→Option α) (k:Ex→St→Option α):Prop where
 mono:∀ n m,n≤m→Nl (kn n) (kn m)
 lim:∀ ex st x,k ex st=some x→∃ n,kn n ex st=some x
theorem ac1 {Cn:Nat→aS} (hC:UH Cn C) {all:List Oper} {o:Oper} {env:List AV} {h:Nat→Option cu} {y:Option Eff} (h1:Bf T C all o env h=some y):∃ n,Bf T (Cn n) all o env h=some y:=by
 rcases Lp (T:=T) env h o with ⟨D,hD⟩ | ⟨f,as_,bl,g,hD⟩
 · refine⟨0,?_⟩;unfold Bf at h1 ⊢;rw[hD]at h1 ⊢;exact h1
 · cases hc:C f as_ bl with
   | some r =>obtain⟨n,hn⟩:=hC.lim _ _ _ _ hc;refine⟨n,?_⟩;unfold Bf at h1 ⊢;rw[hD,hc]at h1;rw[hD,hn];exact h1
   | none =>
    refine⟨0,?_⟩;unfold Bf at h1 ⊢;rw[hD,hc]at h1;cases hg:o.guard with
    | none=>rw[hg]at h1;simp[DT.run]at h1
    | some gw =>
     obtain⟨g',want⟩:=gw;rw[hg]at h1;simp only at h1 ⊢;cases hd:uO all g' with
     | none=>rw[hd]at h1;cases h1
     | some t =>
      rw[hd]at h1;simp only at h1 ⊢;by_cases hx:∃ b,env.getD t .undef=.p (.bool b)
      · obtain⟨b,hb⟩:=hx;rw[hb]at h1 ⊢;simp only at h1 ⊢;split
        · rename_i hw;rw[if_pos hw]at h1;simp[DT.run]at h1
        · rename_i hw;rw[if_neg hw]at h1;exact h1
      · by_cases hh:env.getD t .undef=.qY []
        · rw[hh]at h1 ⊢;exact h1
        · split at h1
          · rename_i b hb;exact absurd ⟨b,hb⟩ hx
          · rename_i hb;exact absurd hb hh
          · cases h1
theorem aam {Cn:Nat→aS} (hC:UH Cn C) {draw:Bool} {hd:List Nat} {all:List Oper} {o:Oper} {st st':St} (h1:step1 T C draw hd all o st=some st'):∃ n,step1 T (Cn n) draw hd all o st=some st':=by
 unfold step1 at h1;cases ha:Bf T C all o st.env (lI hd (look st.heap)) with
 | none=>rw[ha]at h1;cases h1
 | some y =>obtain⟨n,hn⟩:=ac1 hC ha;refine⟨n,?_⟩;unfold step1;rw[ha]at h1;rw[hn];exact h1
theorem Sl {b:Option cu} {st:St} {kn:Nat→St→Option α} {k:St→Option α} {x:α} (hk:∀ st x,k st=some x→∃ n,kn n st=some x) (h:sW b st k=some x):∃ n,sW b st (kn n)=some x:=by
 unfold sW at h ⊢;split at h
 · split at h
   · exact hk _ _ h
   · cases h
 · exact hk _ _ h
theorem oM {Cn : Nat → aS} (hC : UH Cn C) {draw : Bool} {hd : List (List Nat)} {all : List Oper} {kn : Nat → St → Option α} {k : St → Option α} (hm : ∀ n m st x,n ≤ m → kn n st = some x → kn m st = some x) (hk : ∀ st x,k st = some x → ∃ n,kn n st = some x) :
    ∀ {l:List Oper} {j:Nat} {st:St} {x:α},fP T C draw hd all l j st k=some x→∃ n,fP T (Cn n) draw hd all l j st (kn n)=some x
  | [],j,st,x,h=>hk _ _ h
  | o::r,j,st,x,h=>by
   cases hy:rG draw st o with
   | none =>
    rw[qN _ _ hy]at h;cases h1:step1 T C draw (hd.getD j []) all o st with
    | none=>rw[h1]at h;cases h
    | some st1 =>rw[h1]at h;obtain⟨n1,hn1⟩:=aam hC h1;obtain⟨n2,hn2⟩:=oM hC hm hk (l:=r) h;refine⟨max n1 n2,?_⟩;rw[qN _ _ hy,Sj (hC.mono n1 (max n1 n2) (by omega)) hn1];exact eF (hC.mono n2 (max n1 n2) (by omega)) (fun st x h=>hm n2 _ st x (by omega) h) hn2
   | some p =>
    obtain⟨xs,vs⟩:=p;rw[rP _ _ hy]at h;cases hg:guardOf all o st.env with
    | none=>rw[hg]at h;cases h
    | some b =>
     rw[hg]at h;cases b with
     | false =>obtain⟨n,hn⟩:=oM hC hm hk (l:=r) h;refine⟨n,?_⟩;rw[rP _ _ hy,hg];exact hn
     | true =>obtain⟨no,h1,h2⟩:=Iu h;obtain⟨n1,hn1⟩:=oM hC hm hk (l:=r) h1;obtain⟨n2,hn2⟩:=oM hC hm hk (l:=r) h2;refine⟨max n1 n2,?_⟩;rw[rP _ _ hy,hg];exact VD (eF (hC.mono n1 (max n1 n2) (by omega)) (fun st x h=>hm n1 _ st x (by omega) h) hn1) (eF (hC.mono n2 (max n1 n2) (by omega)) (fun st x h=>hm n2 _ st x (by omega) h) hn2)
theorem YJ {kn : Nat → Ex → St → Option α} {k : Ex → St → Option α} (hk : Oi kn k) {fn : Nat → St → Option α} {f : St → Option α} (hm : ∀ n m st x,n ≤ m → fn n st = some x → fn m st = some x) (hl : ∀ st x,f st = some x → ∃ n,fn n st = some x) :
    Oi (fun n ex st'=>match ex with | .normal=>fn n st' | .exit id=>kn n (.exit id) st' | .ret=>kn n .ret st') (fun ex st'=>match ex with | .normal=>f st' | .exit id=>k (.exit id) st' | .ret=>k .ret st') :=
  ⟨fun n m h=>CZ (fun st x h'=>hm n m st x h h') (hk.mono n m h),fun ex st x h=>by
    cases ex with
    | normal=>exact hl _ _ h
    | exit id=>exact hk.lim _ _ _ h
    | ret=>exact hk.lim _ _ _ h⟩
theorem aan {kn : Nat → Ex → St → Option α} {k : Ex → St → Option α} {id : Nat} (hk : Oi kn k) :
    Oi (fun n ex st'=>match ex with | .normal=>kn n .normal st' | .exit i=>bif i==id then kn n .normal st' else kn n (.exit i) st' | .ret=>kn n .ret st') (fun ex st'=>match ex with | .normal=>k .normal st' | .exit i=>bif i==id then k .normal st' else k (.exit i) st' | .ret=>k .ret st') :=
  ⟨fun n m h=>GY (hk.mono n m h),fun ex st x h=>by
    cases ex with
    | normal=>exact hk.lim _ _ _ h
    | exit i =>
     simp only at h ⊢;cases hi:i==id with
     | true=>rw[hi]at h;exact hk.lim _ _ _ h
     | false=>rw[hi]at h;exact hk.lim _ _ _ h
    | ret=>exact hk.lim _ _ _ h⟩
theorem jF {Cn:Nat→aS} (hC:UH Cn C) {F:FI}:∀ {c:Code} {st:St} {kn:Nat→Ex→St→Option α} {k:Ex→St→Option α} {x:α},Oi kn k→dw T C F c st k=some x→∃ n,bW T (Cn n) F n c st (kn n)=some x
 | .skip,st,kn,k,x,hk,h=>hk.lim _ _ _ h
 | .region id ops draw,st,kn,k,x,hk,h=>by
  simp only[dw,bW]at h ⊢;cases draw with
  | false =>exact oM hC (kn:=fun n st'=>gZ (settle F.cfg ops.toList st') fun st'=>kn n .normal st') (fun n m st x hnm h=>by rw[bU]at h ⊢;exact hk.mono n m hnm _ _ _ h) (fun st x h=>by rw[bU]at h;obtain⟨n,hn⟩:=hk.lim _ _ _ h;exact⟨n,by rw[bU];exact hn⟩) h
  | true =>
   simp only[]at h ⊢;cases hh:dN F.hides id with
   | none=>rw[hh]at h;cases h
   | some hd =>
    rw[hh]at h;simp only[bU]at h ⊢;cases hy:ZH F.cfg.ys ops.toList with
    | none =>rw[hy]at h;exact oM hC (kn:=fun n st'=>sW (look (st.strike (present st.heap (vH ops.toList ops.toList))).heap ah) st' fun st'=>kn n .normal (settle F.cfg ops.toList st')) (fun n m st x hnm h=>nG (fun st x h=>hk.mono n m hnm _ _ _ h) h) (fun st x h=>Sl (kn:=fun n st'=>kn n .normal (settle F.cfg ops.toList st')) (fun st x h=>hk.lim _ _ _ h) h) h
    | some j =>
     rw[hy]at h
     exact oM hC (kn:=fun n st'=>sW (look (st.strike (present st.heap (vH ops.toList ops.toList))).heap ah) st' fun st'=>fP T (Cn n) false [] ops.toList (ops.toList.drop j) j st' fun st'=>kn n .normal (settle F.cfg ops.toList st'))
      (fun n m st x hnm h=>nG (fun st x h=>eF (hC.mono n m hnm) (fun st x h=>hk.mono n m hnm _ _ _ h) h) h)
      (fun st x h=>Sl (kn:=fun n st'=>fP T (Cn n) false [] ops.toList (ops.toList.drop j) j st' fun st'=>kn n .normal (settle F.cfg ops.toList st')) (fun st x h =>oM hC (kn:=fun n st'=>kn n .normal (settle F.cfg ops.toList st')) (fun n m st x hnm h=>hk.mono n m hnm _ _ _ h) (fun st x h=>hk.lim _ _ _ h) h) h) h
 | .seq y z,st,kn,k,x,hk,h=>jF hC (c:=y) (YJ hk (fn:=fun n st'=>bW T (Cn n) F n z (bQ F.cfg z st') (kn n)) (fun n m st x hnm h=>fK (hC.mono n m hnm) hnm (hk.mono n m hnm) h) (fun st x h=>jF hC (c:=z) hk h)) h
 | .cond c y z,st,kn,k,x,hk,h=>by
  simp only[dw,bW]at h ⊢;by_cases hx:∃ b,dJ st.env c=.p (.bool b)
  · obtain⟨b,hb⟩:=hx;rw[hb]at h ⊢;cases b with
    | true=>exact jF hC (c:=y) hk h
    | false=>exact jF hC (c:=z) hk h
  · split at h
    · rename_i b hb;exact absurd ⟨b,hb⟩ hx
    · cases h
 | .block id c,st,kn,k,x,hk,h=>jF hC (c:=c) (aan hk) h
 | .loop c,st,kn,k,x,hk,h=>by
  obtain⟨m,hm⟩:=xC h;have key:∀ m st x,qg (bQ F.cfg c) (fun st' k'=>dw T C F c st' k') m st k=some x→∃ n,qg (bQ F.cfg c) (fun st' k'=>bW T (Cn n) F n c st' k') n st (kn n)=some x:=by
   intro m;induction m with
   | zero=>intro st x h;simp[qg]at h
   | succ m ih =>
    intro st x h;rw[ET]at h
    have happ:Oi (fun n=>next (bQ F.cfg c) (fun st'=>qg (bQ F.cfg c) (fun st' k'=>bW T (Cn n) F n c st' k') n st' (kn n)) (kn n)) (next (bQ F.cfg c) (fun st'=>qg (bQ F.cfg c) (fun st' k'=>dw T C F c st' k') m st' k) k) :=
     ⟨fun n m hnm=>O3 (fun st x h=>nD (b:=fun st' k'=>bW T (Cn n) F n c st' k') (b':=fun st' k'=>bW T (Cn m) F m c st' k') (fun st k k' x hk h=>fK (hC.mono n m hnm) hnm (c:=c) hk h) hnm (hk.mono n m hnm) h) (hk.mono n m hnm),fun ex st x h=>by
       cases ex with
       | normal =>simp only[next,bU]at h ⊢;exact ih _ _ h
       | exit id=>exact hk.lim _ _ _ h
       | ret=>exact hk.lim _ _ _ h⟩
    obtain⟨n,hn⟩:=jF hC (c:=c) happ h;refine⟨n+1,?_⟩;rw[ET];exact fK (hC.mono n (n+1) (by omega)) (by omega) (O3 (fun st x h=>nD (b:=fun st' k'=>bW T (Cn n) F n c st' k') (b':=fun st' k'=>bW T (Cn (n+1)) F (n+1) c st' k') (fun st k k' x hk h=>fK (hC.mono n (n+1) (by omega)) (by omega) (c:=c) hk h) (by omega) (hk.mono n (n+1) (by omega)) h) (hk.mono n (n+1) (by omega))) hn
  obtain⟨n,hn⟩:=key m _ x hm;exact⟨n,hn⟩
 | .exit id,st,kn,k,x,hk,h=>hk.lim _ _ _ h
 | .ret,st,kn,k,x,hk,h=>hk.lim _ _ _ h
 | .label _,st,kn,k,x,hk,h=>hk.lim _ _ _ h
 | .rangeFunc f ps y z,st,kn,k,x,hk,h=>by
  obtain⟨g,caps,fi,r,h1,h2,h3,h4,h5,h⟩:=GX h;obtain⟨n0,h5⟩:=hC.lim _ _ _ _ h5;have agT:∀ n m,n≤m→LeB (AO (α:=α) T (Cn n) F n y z) (AO T (Cn m) F m y z):=fun n m hnm st k k' x hk h=>fK (hC.mono n m hnm) hnm (c:=y) (CZ (fun st x h=>fK (hC.mono n m hnm) hnm (c:=z) hk h) hk) h;have key:∀ (xs:List PV) (st:St) (x:α),lC (bQ F.cfg (.seq y z)) fi.cfg.yk ps.toList (nM ps y z) (fun st k=>dw T C F (.seq y z) st k) xs st k=some x→∃ n,lC (bQ F.cfg (.seq y z)) fi.cfg.yk ps.toList (nM ps y z) (AO T (Cn n) F n y z) xs st (kn n)=some x:=by
   intro xs;induction xs with
   | nil=>intro st x h;exact hk.lim _ _ _ h
   | cons v xs ih =>
    intro st x h;simp only[lC]at h ⊢;split at h
    · cases h
    · rename_i env he;rw[bU]at h
      have happ:Oi (fun n=>sZ (bQ F.cfg (.seq y z)) (nM ps y z) (fun st=>lC (bQ F.cfg (.seq y z)) fi.cfg.yk ps.toList (nM ps y z) (AO T (Cn n) F n y z) xs st (kn n)) (kn n)) (sZ (bQ F.cfg (.seq y z)) (nM ps y z) (fun st=>lC (bQ F.cfg (.seq y z)) fi.cfg.yk ps.toList (nM ps y z) (fun st k=>dw T C F (.seq y z) st k) xs st k) k) :=
       ⟨fun n m hnm=>YH (fun st x h=>qQ (agT n m hnm) (hk.mono n m hnm) h) (hk.mono n m hnm),fun ex st x h=>by
         cases ex with
         | normal =>simp only[sZ,bU]at h ⊢;exact ih _ _ h
         | exit id =>simp only[sZ,bU]at h ⊢;exact hk.lim _ _ _ h
         | ret =>simp only[sZ,bU]at h ⊢;exact hk.lim _ _ _ h⟩
      have h':=jF hC (c:=y) (YJ happ (fn:=fun n st'=>bW T (Cn n) F n z (bQ F.cfg z st') (sZ (bQ F.cfg (.seq y z)) (nM ps y z) (fun st=>lC (bQ F.cfg (.seq y z)) fi.cfg.yk ps.toList (nM ps y z) (AO T (Cn n) F n y z) xs st (kn n)) (kn n))) (fun n m st x hnm h=>fK (hC.mono n m hnm) hnm (c:=z) (happ.mono n m hnm) h) (fun st x h=>jF hC (c:=z) happ h)) h;obtain⟨n,hn⟩:=h';exact⟨n,by rw[bU];exact hn⟩
  obtain⟨n1,h⟩:=key _ _ _ h;refine⟨max n0 n1,YI h1 h2 h3 h4 (hC.mono n0 (max n0 n1) (by omega) _ _ _ _ h5) (qQ (agT n1 (max n0 n1) (by omega)) (hk.mono n1 (max n0 n1) (by omega)) h)⟩
 | .scope c,st,kn,k,x,hk,h=>jF hC (c:=c) hk h
 | .goto ..,st,kn,k,x,hk,h=>by simp[dw]at h
 | .refuse ..,st,kn,k,x,hk,h=>by simp[dw]at h
theorem agm {C:aS} {F:FI} {c:Code} {fg:St→St} {st:St} {k:Ex→St→Option α} {x:α} (h:dw T C F c st (next fg (fun st'=>RZ fg (fun st' k'=>dw T C F c st' k') st' k) k)=some x):RZ fg (fun st' k'=>dw T C F c st' k') st k=some x:=by
 have hb:LeB (fun st' k'=>dw (α:=α) T C F c st' k') (fun st' k'=>dw T C F c st' k'):=fun st k k' x hk h=>jr (WV.refl _) (c:=c) hk h
 have happ:Oi (fun n=>next fg (fun st'=>qg fg (fun st' k'=>dw T C F c st' k') n st' k) k) (next fg (fun st'=>RZ fg (fun st' k'=>dw T C F c st' k') st' k) k) :=
  ⟨fun n m hnm=>O3 (fun st x h=>nD hb hnm (Nl.refl _) h) (Nl.refl _),fun ex st x h=>by
    cases ex with
    | normal =>simp only[next,bU]at h ⊢;exact xC h
    | exit id=>exact⟨0,h⟩
    | ret=>exact⟨0,h⟩⟩
 have hC:UH (fun _=>C) C:=⟨fun _ _ _=>WV.refl _,fun _ _ _ _ h=>⟨0,h⟩⟩;obtain⟨n,hn⟩:=jF hC happ h;have:=nH (WV.refl C) (Nl.refl _) hn;exact RY (n:=n+1) (fun _ _ _ hnm h=>nD hb hnm (Nl.refl _) h) (by rw[ET];exact this)
theorem JI {X:Ext}:∀ {n m:Nat},n≤m→WV (lJ T X n) (lJ T X m)
 | 0,_,_=>fun f a b x h=>by simp[lJ]at h
 | n+1,0,hm=>by omega
 | n+1,m+1,hm=>fun f a b x h=>by
  simp only[lJ]at h ⊢;split at h
  · cases h
  · rename_i fi hf;split at h
    · exact h
    · rename_i hx;split at h
      · cases h
      · rename_i c hc;cases hb:yY fi.cfg b with
        | false=>rw[hb]at h;cases h
        | true =>
        rw[hb]at h;simp only[cond_true,gY,jD,bU]at h ⊢;exact fK (JI (by omega)) (by omega) (Nl.refl _) h
theorem aeV {X:Ext}:UH (lJ T X) (run T X):=⟨fun _ _ h=>JI h,fun _ _ _ _ h=>xC h⟩
theorem YK {X:Ext} {f:Nat} {a:List AV} {b:List cu}:ajZ fun n=>lJ T X n f a b:=fun _n _m x hnm h=>JI hnm f a b x h
theorem bF {X:Ext} {f:Nat} {args:List AV} {bl:List cu} {r:List AV × List cu} (hX:X f=none) (h:bG T (run T X) f args bl=some r):run T X f args bl=some r:=by
 unfold bG at h;split at h
 · cases h
 · rename_i fi hf;split at h
   · cases h
   · rename_i c hc;cases hb:yY fi.cfg bl with
     | false=>rw[hb]at h;cases h
     | true =>
     rw[hb]at h;simp only[cond_true,gY,jD,bU]at h;obtain⟨n,hn⟩:=jF aeV (kn:=fun _=>agl T fi bl) ⟨fun _ _ _=>Nl.refl _,fun _ _ _ h=>⟨0,h⟩⟩ h;refine RY (n:=n+1) YK ?_;simp only[lJ,hf,hX,hc,hb,cond_true,gY,jD,bU];refine fK (WV.refl _) (Nat.le_refl n) (fun ex st x h=>?_) hn;cases ex<;>exact h
theorem OM {X:Ext} {f:Nat} {fi:FI} {s:List AV→List cu→Option (List AV × List cu)} {args:List AV} {bl:List cu} {r:List AV × List cu} (hf:dN T.funcs f=some fi) (hX:X f=some s) (h:s args bl=some r):run T X f args bl=some r :=
 RY (n:=1) YK (by simp only[lJ,hf,hX];exact h)
theorem LH {P:Program} (ok:dZ P T) {X:Ext} {gl:Option (List (Nat × Obj))} (hX:sF P T gl X):jl P T gl (run T X):=by
 refine⟨fun f fi args bl rs jX hf hpb h=>?_,fun f fi args z off len a ks xs rs jX hf hv h=>?_,fun f fi args a ks xs rs jX hf hv h=>?_,hX.1⟩
 · obtain⟨n,hn⟩:=xC h;exact(GV ok hX n).plain f fi args bl rs jX hf hpb hn
 · obtain⟨n,hn⟩:=xC h;exact(GV ok hX n).var f fi args z off len a ks xs rs jX hf hv hn
 · obtain⟨n,hn⟩:=xC h;exact(GV ok hX n).take f fi args a ks xs rs jX hf hv hn
end
inductive Wy where
 | lp (p:List Nat)
 | rg (p:List Nat) (ss:List (Bool × List Kd)) (xs:List PV)
section
variable {α:Type} (T:Tab) (C:aS) (F:FI)
def C9:Code→List Nat→Code
 | c,[]=>c
 | .seq a _,0::p=>C9 a p
 | .seq _ b,_::p=>C9 b p
 | .cond _ a _,0::p=>C9 a p
 | .cond _ _ b,_::p=>C9 b p
 | .block _ c,_::p=>C9 c p
 | .scope c,_::p=>C9 c p
 | .loop c,_::p=>C9 c p
 | c,_=>c
def AP (c:Code) (p:List Nat):Code:=match C9 c p with
 | .loop b=>b
 | .rangeFunc _ _ a b=>.seq a b
 | _=>.skip
def aoM (c:Code) (p:List Nat):List Nat:=match C9 c p with
 | .rangeFunc _ ps _ _=>ps.toList
 | _=>[]
def aj0 (c:Code) (p:List Nat):List Nat:=match C9 c p with
 | .rangeFunc _ ps a b=>nM ps a b
 | _=>[]
noncomputable def Dc:Code→List Nat→(Ex→St→Option α)→Ex→St→Option α
 | .seq a b,0::p,k=>Dc a p fun ex st' =>
  match ex with
  | .normal=>dw T C F b (bQ F.cfg b st') k
  | .exit id=>k (.exit id) st'
  | .ret=>k .ret st'
 | .seq _ b,_::p,k=>Dc b p k
 | .cond _ a _,0::p,k=>Dc a p k
 | .cond _ _ b,_::p,k=>Dc b p k
 | .block id c,_::p,k=>Dc c p fun ex st' =>
  match ex with
  | .normal=>k .normal st'
  | .exit i=>bif i==id then k .normal st' else k (.exit i) st'
  | .ret=>k .ret st'
 | .scope c,_::p,k=>Dc c p k
 | _,_,k=>k
noncomputable def aj1 (c:Code) (p:List Nat) (k:Ex→St→Option α) (st:St):Option α:=RZ (bQ F.cfg (AP c p)) (fun st' k'=>dw T C F (AP c p) st' k') st (Dc T C F c p k)
noncomputable def aao (c:Code) (p:List Nat) (k:Ex→St→Option α):Ex→St→Option α:=next (bQ F.cfg (AP c p)) (aj1 T C F c p k) (Dc T C F c p k)
noncomputable def ahQ (c:Code) (p:List Nat) (ss:List (Bool × List Kd)) (k:Ex→St→Option α) (xs:List PV) (st:St):Option α :=
 lC (bQ F.cfg (AP c p)) ss (aoM c p) (aj0 c p) (fun st k=>dw T C F (AP c p) st k) xs st (Dc T C F c p k)
noncomputable def aeW (c:Code) (p:List Nat) (ss:List (Bool × List Kd)) (xs:List PV) (k:Ex→St→Option α):Ex→St→Option α:=sZ (bQ F.cfg (AP c p)) (aj0 c p) (ahQ T C F c p ss k xs) (Dc T C F c p k)
noncomputable def WG:Code→(Ex→St→Option α)→List Wy→St→Option α
 | _,_,[],_=>none
 | c,k,[.lp p],st=>aj1 T C F c p k st
 | c,k,[.rg p ss xs],st=>ahQ T C F c p ss k xs st
 | c,k,.lp p::q::r,st=>WG (AP c p) (aao T C F c p k) (q::r) st
 | c,k,.rg p ss xs::q::r,st=>WG (AP c p) (aeW T C F c p ss xs k) (q::r) st
noncomputable def Lr:Code→(Ex→St→Option α)→List Wy→St→Option α
 | _,_,[],_=>none
 | c,k,[.lp p],st=>dw T C F (AP c p) st (aao T C F c p k)
 | c,k,[.rg p ss xs],st=>ahQ T C F c p ss k xs st
 | c,k,.lp p::q::r,st=>Lr (AP c p) (aao T C F c p k) (q::r) st
 | c,k,.rg p ss xs::q::r,st=>Lr (AP c p) (aeW T C F c p ss xs k) (q::r) st
variable {T C F}
theorem Nq {x:α}:∀ {l:List Wy} {c:Code} {k:Ex→St→Option α} {st:St},Lr T C F c k l st=some x→WG T C F c k l st=some x
 | [],_,_,_,h=>by simp[Lr]at h
 | [.lp p],c,k,st,h=>agm h
 | [.rg p ss xs],c,k,st,h=>h
 | .lp p::q::r,c,k,st,h=>Nq (l:=q::r) h
 | .rg p ss xs::q::r,c,k,st,h=>Nq (l:=q::r) h
end
section
variable (T:Tab) (C:aS) (f:Nat) (bl:List cu)
noncomputable def ac2:FI:=match dN T.funcs f with | some fi=>fi | none=>⟨default,{},[]⟩
def codeOf (F:FI):Code:=match F.fn.body with | some c=>c | none=>.skip
noncomputable def L (l:List Wy) (st:St):Option (List AV × List cu):=WG T C (ac2 T f) (codeOf (ac2 T f)) (agl T (ac2 T f) bl) l st
noncomputable def R (l:List Wy) (st:St):Option (List AV × List cu):=Lr T C (ac2 T f) (codeOf (ac2 T f)) (agl T (ac2 T f) bl) l st
variable {T C f bl}
theorem dW {l:List Wy} {st:St} {x:List AV × List cu} (h:R T C f bl l st=some x):L T C f bl l st=some x:=Nq h
end
end Go.Skm
namespace Go.Skm
open Go.ChangeShapes Go.WideShapes
mutual
def PV.wf:PV→Prop
 | .int k n=>(Lit.int k n).wf=true
 | .str s=>s.size≤maxLen
 | .list _ _ xs=>xs.length≤maxLen∧PV.wfs xs
 | .agg cs=>PV.wfs cs
 | .nil=>False
 | _=>True
def PV.wfs:List PV→Prop
 | []=>True
 | v::r=>PV.wf v∧PV.wfs r
end
theorem IC:∀ {l:List PV},PV.wfs l↔∀ v∈l,v.wf
 | []=>by simp[PV.wfs]
 | v::r=>by simp[PV.wfs,IC]
section
variable (P:Program)
def nN:Nat→TypeId→Bool
 | 0,_=>false
 | n+1,t =>
  match P.underlying t with
  | some (.int _)=>Nat.beq (P.cellsOf t) 1
  | some .bool=>Nat.beq (P.cellsOf t) 1
  | some .string=>Nat.beq (P.cellsOf t) 1
  | some (.slice e)=>nN n e&&(Nat.blt 0 (P.cellsOf e)&&Nat.beq (P.cellsOf t) 1)
  | some (.struct fs)=>go n 0 fs.toList&&Nat.beq (P.cellsOf t) (sum fs.toList)
  | some (.array m e)=>nN n e&&Nat.beq (P.cellsOf t) (m*P.cellsOf e)
  | _=>false
where
 go (n:Nat):Nat→List Field→Bool
 | _,[]=>true
 | o,f::r=>f.offset==o&&(nN n f.type&&go n (o+P.cellsOf f.type) r)
 sum:List Field→Nat
 | []=>0
 | f::r=>P.cellsOf f.type+sum r
end
section
variable {H:Type} {enc:TypeId × Value→H} {P:Program} {w:World} {base:Nat} {sp:Nat→Bool} {held:Bool} {M:Nat→Prop}
theorem Sm:∀ {n:Nat} {t:TypeId},nN P n t=true→(dL P n t).2.length=P.cellsOf t
 | 0,t,h=>by simp[nN]at h
 | n+1,t,h=>by
  unfold nN at h;unfold dL;split at h
  · rename_i k hu;rw[hu];simpa using (Nat.eq_of_beq_eq_true h).symm
  · rename_i hu;rw[hu];simpa using (Nat.eq_of_beq_eq_true h).symm
  · rename_i hu;rw[hu];simpa using (Nat.eq_of_beq_eq_true h).symm
  · rename_i e hu;rw[hu];simp only[qBa]at h;simpa using (Nat.eq_of_beq_eq_true h.2.2).symm
  · rename_i fs hu;rw[hu];simp only[qBa]at h;rw[Nat.eq_of_beq_eq_true h.2];have:∀ (l:List Field) (o:Nat),nN.go P n o l=true→(l.flatMap fun f=>(dL P n f.type).2).length=nN.sum P l:=by
     intro l;induction l with
     | nil=>intro o _;rfl
     | cons f r ih =>intro o h;simp only[nN.go,qBa]at h;simp only[List.flatMap_cons,List.length_append,nN.sum,Sm h.2.1,ih _ h.2.2]
    exact this _ _ h.1
  · rename_i m e hu;rw[hu];simp only[qBa]at h;simp only[List.length_flatten,List.map_replicate,List.sum_replicate_nat,Sm h.1];exact(Nat.eq_of_beq_eq_true h.2).symm
  · cases h
def OJ (w:World) (M:Nat→Prop) (ks:List Kd) (cs:List Value) (ps:List PV):Prop :=
 gQ ks ps=true∧ps.length=cs.length∧(∀ (i:Nat) (p:PV),ps[i]?=some p→VR w M p (cs.getD i undef))∧PV.wfs ps
theorem GZ:∀ {k1 k2:List Kd} {p1 p2:List PV},gQ k1 p1=true→gQ k2 p2=true→gQ (k1++k2) (p1++p2)=true
 | [],k2,[],p2,_,h=>h
 | k::k1,k2,v::p1,p2,h1,h2=>by simp only[gQ,qBa]at h1;simp only[List.cons_append,gQ,qBa];exact⟨h1.1,GZ h1.2 h2⟩
 | [],_,_::_,_,h,_=>by simp[gQ]at h
 | _::_,_,[],_,h,_=>by simp[gQ]at h
theorem OJ.append {k1 k2:List Kd} {c1 c2:List Value} {p1 p2:List PV} (h1:OJ w M k1 c1 p1) (h2:OJ w M k2 c2 p2):OJ w M (k1++k2) (c1++c2) (p1++p2):=by
 refine⟨GZ h1.1 h2.1,by simp[h1.2.1,h2.2.1],fun i p hp=>?_,?_⟩
 · by_cases hi:i<p1.length
   · rw[List.getElem?_append_left hi]at hp;have:=h1.2.2.1 i p hp;rw[qLb]at this ⊢;rwa[List.getElem?_append_left (by rw[← h1.2.1];exact hi)]
   · rw[List.getElem?_append_right (by omega)]at hp;have:=h2.2.2.1 _ p hp;rw[qLb]at this ⊢;rwa[List.getElem?_append_right (by rw[← h1.2.1];omega),← h1.2.1]
 · rw[IC]at *;have a:=IC.1 h1.2.2.2;have b:=IC.1 h2.2.2.2;intro v hv;rcases List.mem_append.1 hv with hv | hv
   · exact a v hv
   · exact b v hv
def Df (a:Bool) (ps:List PV):PV:=match a with | true=>.agg ps | false=>ps.headD .nil
theorem Sr {n:Nat} {t:TypeId} (h:nN P n t=true) (ha:(dL P n t).1=false):(dL P n t).2.length=1:=by
 cases n with
 | zero=>simp[nN]at h
 | succ n =>
  unfold nN at h;unfold dL at ha ⊢;split at h<;>rename_i hu<;>first | (simp only[hu]at ha ⊢;done) | skip
  all_goals (try (simp only[hu]at ha ⊢;rfl))
  all_goals (simp only[hu]at ha)
  all_goals (cases ha)
theorem yG {n : Nat} {t : TypeId} {cs : List Value} {ps : List PV} (h : nN P n t = true) (hc : OJ w M (dL P n t).2 cs ps) :
    bZ (dL P n t).1 (dL P n t).2 (Df (dL P n t).1 ps)=true∧(Df (dL P n t).1 ps).cells=ps∧(Df (dL P n t).1 ps).wf:=by
  cases ha:(dL P n t).1 with
  | true=>exact⟨hc.1,rfl,by simp only[Df,PV.wf];exact hc.2.2.2⟩
  | false =>
   have h1:=Sr h ha;have hk:=hc.1
   match hks:(dL P n t).2,h1,hk with
   | [k],_,hk =>
    match ps,hk,hc with
    | [p],hk,hc =>
     simp only[gQ,Bool.and_true]at hk;have hl:=jH hk;refine⟨hk,?_,?_⟩
     · simp only[Df,List.headD_cons];cases p<;>first | rfl | simp[PV.leaf]at hl
     · exact(IC.1 hc.2.2.2) p (by simp)
    | [],hk,_=>simp[gQ]at hk
    | _::_::_,hk,_=>simp[gQ]at hk
theorem TB {a:Addr} {n i:Nat} {v:Value} (h:w.cell? (a.add i)=some v) (hi:i<n) (h0:i=0):a.spot=none:=by
 subst h0;simp only[Addr.add,if_true]at h;unfold World.cell? at h;split at h
 · cases hs:a.spot with
   | none=>rfl
   | some s=>rw[hs]at h;simp at h
 · cases h
theorem JJ {a:Addr} {n:Nat} {cs:List Value} (h:w.cells? base a n=some cs):cs.length=n∧∀ i,i<n→∃ v,cs[i]?=some v∧w.cell? (a.add i)=some v:=by
 unfold World.cells? at h;split at h
 · have hl:=mapM_some_length h;simp at hl;refine⟨hl,fun i hi=>?_⟩;have:=mapM_some_get h i i (by simp[hi]);have hlt:i<cs.length:=by omega
   rw[qLd hlt]at this;exact⟨cs[i],by simp,this⟩
 · cases h
theorem ac3 (hM:∀ b,b<w.heap.size→M b):∀ (fuel n:Nat) (t:TypeId) (cs:List Value) (x:DataW H × List MemPlace),DataW.trod enc P w base sp held fuel t cs=some x→nN P n t=true→∃ ps,OJ w M (dL P n t).2 cs ps:=by
 intro fuel;induction fuel with
 | zero=>intro n t cs x h;simp[DataW.trod]at h
 | succ fuel ih =>
  intro n t cs x h ha;cases n with
  | zero=>simp[nN]at ha
  | succ n =>
   unfold nN at ha;have one:∀ (k:Kd) (p:PV) (v:Value),kindOk k p=true→VR w M p v→p.wf→OJ w M [k] [v] [p]:=by
    intro k p v h1 h2 h3;refine⟨by simp[gQ,h1],rfl,fun i q hq=>?_,by simp[PV.wfs,h3]⟩;cases i with
    | zero=>simp at hq;subst hq;simpa using h2
    | succ i=>simp at hq
   split at ha
   · rename_i k hu;obtain⟨m,rfl,_,hw⟩:=DataW.trod_int hu h;have e:(dL P (n+1) t).2=[.int k]:=by (conv=>lhs;unfold dL);rw[hu]
     rw[e];exact⟨_,one _ (.int k m) _ (by simp[kindOk]) (.int k m) hw⟩
   · rename_i hu;obtain⟨b,rfl,_⟩:=DataW.trod_bool hu h;have e:(dL P (n+1) t).2=[.bool]:=by (conv=>lhs;unfold dL);rw[hu]
     rw[e];exact⟨_,one _ (.bool b) _ rfl (.bool b) trivial⟩
   · rename_i hu;obtain⟨s,rfl,_,hw⟩:=DataW.trod_string hu h;have e:(dL P (n+1) t).2=[.str]:=by (conv=>lhs;unfold dL);rw[hu]
     rw[e];exact⟨_,one _ (.str s) _ rfl (.str s) hw⟩
   · -- a slice
     rename_i e hu;simp only[qBa]at ha;have es:(dL P (n+1) t).2=[.slice (dL P n e).1 (dL P n e).2]:=by (conv=>lhs;unfold dL);rw[hu]
     rw[es];have hpos:0<P.cellsOf e:=Nat.le_of_ble_eq_true ha.2.1;have hlen:=Sm ha.1;rcases DataW.trod_slice hu h with ⟨rfl,_⟩ | ⟨a,len,cap,elems,rest,m,hm,rfl,_,hb,hlc,hcm,hel,hget,_,_⟩
     · exact⟨_,one _ (.list (dL P n e).1 (dL P n e).2 []) _ (by simp[kindOk,Kd.pG]) (.vZ _ _ none 0) (by simp[PV.wf,PV.wfs])⟩
     · cases hm;have good:∀ i,i<len→∃ (ps:List PV) (csi:List Value),w.cells? base (a.add (i*P.cellsOf e)) (P.cellsOf e)=some csi∧OJ w M (dL P n e).2 csi ps:=by intro i hi;have h1:=hget i hi;rw[qLd (by omega)]at h1;simp only[Option.bind_eq_some_iff]at h1;obtain⟨csi,h2,h3⟩:=h1;obtain⟨ps,h4⟩:=ih n e csi _ h3 ha.1;exact⟨ps,csi,h2,h4⟩
       by_cases h0:len=0
       · subst h0;exact⟨_,one _ (.list (dL P n e).1 (dL P n e).2 []) _ (by simp[kindOk,Kd.pG]) (.vZ _ _ (some a) cap) (by simp[PV.wf,PV.wfs])⟩
       · have hspot : a.spot = none := by
           obtain⟨ps,csi,h2,_⟩:=good 0 (by omega);obtain⟨_,h3⟩:=JJ h2;obtain⟨v,_,h4⟩:=h3 0 hpos;simp only[Nat.zero_mul]at h4;have e0:a.add 0=a:=by simp[Addr.add]
           rw[e0]at h4;exact TB h4 hpos rfl
         have addr:∀ i j,(a.add (i*P.cellsOf e)).add j=⟨a.block,a.off+i*P.cellsOf e+j,none⟩:=by intro i j;obtain⟨ab,ao,as⟩:=a;simp only at hspot;subst hspot;unfold Addr.add;by_cases h1:i*P.cellsOf e=0<;>by_cases h2:j=0<;>simp[h1,h2]
         have hex:∃ (f:Nat→List PV) (g:Nat→List Value),∀ i,i<len→w.cells? base (a.add (i*P.cellsOf e)) (P.cellsOf e)=some (g i)∧OJ w M (dL P n e).2 (g i) (f i) :=
          ⟨fun i=>if h:i<len then(good i h).choose else [],fun i=>if h:i<len then(good i h).choose_spec.choose else [],fun i hi=>by simp only[dif_pos hi];exact(good i hi).choose_spec.choose_spec⟩
         obtain⟨f,g,hfg⟩:=hex;have hblk:a.block<w.heap.size:=by
          obtain⟨h2,_⟩:=hfg 0 (by omega);obtain⟨_,h3⟩:=JJ h2;obtain⟨v,_,h4⟩:=h3 0 hpos;rw[addr]at h4;unfold World.cell? at h4;simp only at h4;rcases Nat.lt_or_ge a.block w.heap.size with h' | h'
          · exact h'
          · rw[Array.getElem?_eq_none h']at h4;cases h4
         have hxs:∀ (i:Nat) (x:PV),((List.range len).map fun i=>Df (dL P n e).1 (f i))[i]?=some x→i<len∧x=Df (dL P n e).1 (f i):=by
          intro i x hx;simp only[List.getElem?_map,Option.map_eq_some_iff]at hx;obtain⟨j,hj,rfl⟩:=hx;have hi:i<len:=by simpa using (qLa.1 hj).1
          rw[List.getElem?_range hi]at hj;cases hj;exact⟨hi,rfl⟩
         refine⟨[.list (dL P n e).1 (dL P n e).2 ((List.range len).map fun i=>Df (dL P n e).1 (f i))],one _ _ _ (by simp[kindOk,Kd.pG]) ?_ ?_⟩
         · have := VR.list (w := w) (M := M) (dL P n e).1 (dL P n e).2 ((List.range len).map fun i => Df (dL P n e).1 (f i)) a.block a.off cap (fun i j => (g i).getD j undef) (hM _ hblk) (by simpa using hlc)
             (fun i x j c hx hj=>by
               obtain⟨hi,rfl⟩:=hxs i x hx;obtain⟨h2,h3⟩:=hfg i hi;rw[(yG ha.1 h3).2.1]at hj;obtain⟨hl,h4⟩:=JJ h2;have hjl:j<P.cellsOf e:=by have:=(qLa.1 hj).1;rw[h3.2.1,hl]at this;exact this
               obtain⟨v,h5,h6⟩:=h4 j hjl;rw[addr]at h6;rw[hlen,h6,qLb,h5];rfl)
             (fun i x j c hx hj=>by obtain⟨hi,rfl⟩:=hxs i x hx;obtain⟨h2,h3⟩:=hfg i hi;rw[(yG ha.1 h3).2.1]at hj;exact h3.2.2.1 j c hj)
             (fun x hx=>by obtain⟨i,hi⟩:=List.mem_iff_getElem?.1 hx;obtain⟨hi',rfl⟩:=hxs i x hi;exact(yG ha.1 (hfg i hi').2).1)
           have ea:a=⟨a.block,a.off,none⟩:=by cases a;simp at hspot;simp[hspot]
           rw[List.length_map,List.length_range]at this;rw[ea];exact this
         · refine⟨by simpa using Nat.le_trans hlc hcm,IC.2 fun x hx=>?_⟩;obtain⟨i,hi⟩:=List.mem_iff_getElem?.1 hx;obtain⟨hi',rfl⟩:=hxs i x hi;exact(yG ha.1 (hfg i hi').2).2.2
   · -- a struct
     rename_i fs hu;simp only[qBa]at ha;have es:(dL P (n+1) t).2=fs.toList.flatMap fun f=>(dL P n f.type).2:=by (conv=>lhs;unfold dL);rw[hu]
     rw[es];obtain⟨xs,m,hm,_,hl,hxl,hget⟩:=DataW.trod_struct hu h;cases hm;have htot:=Nat.eq_of_beq_eq_true ha.2
     have key : ∀ (l : List Field) (o : Nat),nN.go P n o l = true → (∀ f ∈ l,∃ y,DataW.trod enc P w base sp held fuel f.type ((cs.drop f.offset).take (P.cellsOf f.type)) = some y) → o + nN.sum P l = cs.length →
         ∃ ps,OJ w M (l.flatMap fun f=>(dL P n f.type).2) (cs.drop o) ps:=by
       intro l;induction l with
       | nil =>intro o _ _ ho;simp only[nN.sum,Nat.add_zero]at ho;refine⟨[],rfl,?_,fun i p h=>by simp at h,trivial⟩;simp[ho]
       | cons f r ihl =>intro o hg hm ho;simp only[nN.go,qBa,beq_iff_eq]at hg;obtain⟨hoff,hf,hr⟩:=hg;obtain⟨y,hy⟩:=hm f (by simp);rw[hoff]at hy;obtain⟨p1,h1⟩:=ih n f.type _ y hy hf;simp only[nN.sum]at ho;obtain⟨p2,h2⟩:=ihl (o+P.cellsOf f.type) hr (fun g hg=>hm g (by simp[hg])) (by omega);refine⟨p1++p2,?_⟩;have:=h1.append h2;rw[← List.drop_drop]at this;rwa[List.take_append_drop]at this
     obtain⟨ps,hps⟩:=key fs.toList 0 ha.1 (fun f hf=>by
      obtain⟨i,hi⟩:=List.mem_iff_getElem?.1 hf;have hi':fs[i]?=some f:=by simpa using hi
      have hlt:i<xs.length:=by rw[hxl];exact(qAa.1 hi').1
      exact⟨xs[i],by rw[hget i f hi',qLd hlt]⟩) (by rw[Nat.zero_add,hl,htot])
     exact⟨ps,by simpa using hps⟩
   · -- an array
     rename_i m e hu;simp only[qBa]at ha;have es:(dL P (n+1) t).2=(List.replicate m (dL P n e).2).flatten:=by (conv=>lhs;unfold dL);rw[hu]
     rw[es];have h':(if cs.length=P.cellsOf t then((List.range m).mapM fun i=>DataW.trod enc P w base sp held fuel e ((cs.drop (i*P.cellsOf e)).take (P.cellsOf e))).map fun xs=>((.agg (xs.map (·.1)):DataW H),xs.flatMap (·.2)) else none)=some x:=by rw[← h,DataW.trod_step];unfold DataW.trodStep;rw[hu]
     clear h;split at h'
     · rename_i hl;simp only[Option.map_eq_some_iff]at h';obtain⟨xs,hxs,rfl⟩:=h';have htot:=Nat.eq_of_beq_eq_true ha.2;have hel:∀ i,i<m→∃ ps,OJ w M (dL P n e).2 ((cs.drop (i*P.cellsOf e)).take (P.cellsOf e)) ps:=by intro i hi;have h1:=mapM_some_get hxs i i (by simp[hi]);have hl:=mapM_some_length hxs;simp at hl;rw[qLd (by omega)]at h1;exact ih n e _ _ h1 ha.1
       have key:∀ (k:Nat),k≤m→∃ ps,OJ w M (List.replicate k (dL P n e).2).flatten (cs.drop ((m-k)*P.cellsOf e)) ps:=by
        intro k;induction k with
        | zero =>intro _;refine⟨[],rfl,?_,fun i p h=>by simp at h,trivial⟩;simp[hl,htot]
        | succ k ihk =>
         intro hk;obtain⟨p2,h2⟩:=ihk (by omega);obtain⟨p1,h1⟩:=hel (m-(k+1)) (by omega);refine⟨p1++p2,?_⟩;have:=h1.append h2;rw[List.replicate_succ,List.flatten_cons];have e1:m-k=m-(k+1)+1:=by omega
         rw[e1,Nat.add_mul,Nat.one_mul,← List.drop_drop,List.take_append_drop]at this;exact this
       obtain⟨ps,hps⟩:=key m (Nat.le_refl m);exact⟨ps,by simpa using hps⟩
     · cases h'
   · cases ha
theorem ac4 {w w':World} (hb:∀ b,b<w.heap.size→w'.heap[b]?=w.heap[b]?) {p:MemPlace} (hp:p.block<w.heap.size):w.sameAt w' p:=by
 cases p with
 | cell b off=>simp only[World.sameAt,World.cell?];rw[hb b hp]
 | map b=>exact hb b hp
theorem aap:∀ (fuel n:Nat) (t:TypeId) (cs:List Value) (x:DataW H × List MemPlace),DataW.trod enc P w base (fun _=>true) held fuel t cs=some x→nN P n t=true→(∀ p∈x.2,sp p.block=true)→DataW.trod enc P w base sp held fuel t cs=some x:=by
 intro fuel;induction fuel with
 | zero=>intro n t cs x h;simp[DataW.trod]at h
 | succ fuel ih =>
  intro n t cs x h ha hs;cases n with
  | zero=>simp[nN]at ha
  | succ n =>
   unfold nN at ha;split at ha
   · rename_i k hu;obtain⟨m,rfl,rfl,hw⟩:=DataW.trod_int hu h;rw[DataW.trod_step];simp[DataW.trodStep,hu,hw]
   · rename_i hu;obtain⟨b,rfl,rfl⟩:=DataW.trod_bool hu h;rw[DataW.trod_step];simp[DataW.trodStep,hu]
   · rename_i hu;obtain⟨s,rfl,rfl,hw⟩:=DataW.trod_string hu h;rw[DataW.trod_step];simp[DataW.trodStep,hu,hw]
   · rename_i e hu;simp only[qBa]at ha;have hpos:0<P.cellsOf e:=Nat.le_of_ble_eq_true ha.2.1;rcases DataW.trod_slice hu h with ⟨rfl,rfl⟩ | ⟨a,len,cap,elems,rest,m,hm,rfl,rfl,hb,hlc,hcm,hel,hget,hrest,_⟩
     · rw[DataW.trod_step];simp[DataW.trodStep,hu]
     · cases hm;obtain⟨hrl,hrg⟩:=hrest rfl;rw[DataW.trod_step]at h ⊢;unfold DataW.trodStep at h ⊢;rw[hu]at h ⊢;simp only[hb,hlc,hcm,and_self,if_true,Option.bind_eq_some_iff,Option.map_eq_some_iff]at h ⊢;obtain⟨el,he,rs,hr,hd⟩:=h;have hall:∀ y∈el++rs,∀ p∈y.2,sp p.block=true:=by intro y hy p hp;refine hs p ?_;rw[← (Prod.mk.inj hd).2];exact List.mem_append.2 (.inr (List.mem_flatMap.2 ⟨y,hy,hp⟩))
       refine⟨el,mapM_carry he fun i y hi hy hf=>?_,rs,?_,hd⟩
       · simp only[Option.bind_eq_some_iff]at hf ⊢;obtain⟨cs',h1,h2⟩:=hf;exact⟨cs',h1,ih n e cs' y h2 ha.1 (hall y (by simp[hy]))⟩
       · split
         · refine mapM_carry hr fun i y hi hy hf=>?_;simp only[Option.bind_eq_some_iff]at hf ⊢;obtain⟨cs',h1,h2⟩:=hf;exact⟨cs',h1,ih n e cs' y h2 ha.1 (hall y (by simp[hy]))⟩
         · rename_i hsp;by_cases hz:rs=[]
           · rw[hz]
           · exfalso;refine hsp (hs (.cell a.block a.off) ?_);rw[← (Prod.mk.inj hd).2];refine List.mem_append.2 (.inl (MemPlace.mem_row.2 ⟨0,?_,by simp⟩));have:0<rs.length:=List.length_pos_iff.2 hz;exact Nat.mul_pos (by omega) hpos
   · rename_i fs hu;simp only[qBa]at ha;obtain⟨xs,m,hm,rfl,hl,hxl,hget⟩:=DataW.trod_struct hu h;cases hm;have h':(if cs.length=P.cellsOf t then(fs.toList.mapM fun f=>DataW.trod enc P w base (fun _=>true) held fuel f.type ((cs.drop f.offset).take (P.cellsOf f.type))).map fun xs=>((.agg (xs.map (·.1)):DataW H),xs.flatMap (·.2)) else none)=some (.agg (xs.map (·.1)),xs.flatMap (·.2)):=by rw[← h,DataW.trod_step];unfold DataW.trodStep;rw[hu]
     rw[DataW.trod_step];unfold DataW.trodStep;rw[hu];show (if cs.length=P.cellsOf t then(fs.toList.mapM fun f=>DataW.trod enc P w base sp held fuel f.type ((cs.drop f.offset).take (P.cellsOf f.type))).map fun xs=>((.agg (xs.map (·.1)):DataW H),xs.flatMap (·.2)) else none)=_;rw[if_pos hl]at h' ⊢;simp only[Option.map_eq_some_iff]at h' ⊢;obtain⟨ys,hy,hd⟩:=h';have hfs:∀ (l:List Field) (o:Nat),nN.go P n o l=true→∀ f∈l,nN P n f.type=true:=by
      intro l;induction l with
      | nil=>intro o _ f hf;simp at hf
      | cons g r ihl =>
       intro o hg f hf;simp only[nN.go,qBa]at hg;rcases List.mem_cons.1 hf with rfl | hf
       · exact hg.2.1
       · exact ihl _ hg.2.2 f hf
     refine⟨ys,mapM_carry hy fun f y hf hy' h1=>ih n f.type _ y h1 (hfs _ _ ha.1 f hf) fun p hp=>hs p ?_,hd⟩;rw[← (Prod.mk.inj hd).2];exact List.mem_flatMap.2 ⟨y,hy',hp⟩
   · rename_i m e hu;simp only[qBa]at ha;have h':(if cs.length=P.cellsOf t then((List.range m).mapM fun i=>DataW.trod enc P w base (fun _=>true) held fuel e ((cs.drop (i*P.cellsOf e)).take (P.cellsOf e))).map fun xs=>((.agg (xs.map (·.1)):DataW H),xs.flatMap (·.2)) else none)=some x:=by rw[← h,DataW.trod_step];unfold DataW.trodStep;rw[hu]
     rw[DataW.trod_step];unfold DataW.trodStep;rw[hu];show (if cs.length=P.cellsOf t then((List.range m).mapM fun i=>DataW.trod enc P w base sp held fuel e ((cs.drop (i*P.cellsOf e)).take (P.cellsOf e))).map fun xs=>((.agg (xs.map (·.1)):DataW H),xs.flatMap (·.2)) else none)=_;split at h'
     · rename_i hl;rw[if_pos hl];simp only[Option.map_eq_some_iff]at h' ⊢;obtain⟨ys,hy,hd⟩:=h';refine⟨ys,mapM_carry hy fun i y hi hy' h1=>ih n e _ y h1 ha.1 fun p hp=>hs p ?_,hd⟩;rw[← hd];exact List.mem_flatMap.2 ⟨y,hy',hp⟩
     · cases h'
   · cases ha
inductive AQ (P:Program) (w:World) (M:Nat→Prop):List TypeId→List Value→List PV→Prop
 | nil:AQ P w M [] [] []
 | cons (t:TypeId) (ts:List TypeId) (v:Value) (vs:List Value) (x:PV) (xs:List PV) (h1:VR w M x v) (h2:bZ (dL P 8 t).1 (dL P 8 t).2 x=true) (h3:x.wf) (h:AQ P w M ts vs xs):AQ P w M (t::ts) (v::vs) (x::xs)
theorem aeX {b0 : Nat} (hM : ∀ b,b < w.heap.size → M b) {t : TypeId} {v : Value} {d : DataW H} {ps : List MemPlace} (ha : nN P 8 t = true) (hok : Value.okWide P w .any b0 t v) (h : DataW.Trod enc P w base sp held t v d ps) :
    ∃ x,VR w M x v∧bZ (dL P 8 t).1 (dL P 8 t).2 x=true∧x.wf:=by
  obtain⟨fuel,h⟩:=h;obtain⟨qs,hq⟩:=ac3 hM fuel 8 t _ _ h ha;obtain⟨e1,e2,e3⟩:=yG ha hq;refine⟨_,?_,e1,e3⟩;cases hs:(dL P 8 t).1 with
  | true =>
   have hagg:(∃ fs,P.underlying t=some (.struct fs))∨∃ m e,P.underlying t=some (.array m e):=by
    unfold dL at hs;split at hs<;>first | (cases hs;done) | skip
    · exact .inl ⟨_,‹_›⟩
    · exact .inr ⟨_,_,‹_›⟩
   have hv:∃ cs,v=.agg cs:=by
    unfold Value.okWide at hok;rcases hagg with ⟨fs,hu⟩ | ⟨m,e,hu⟩
    · rw[hu]at hok;obtain⟨cs,rfl,_⟩:=hok;exact⟨cs,rfl⟩
    · rw[hu]at hok;obtain⟨cs,rfl,_⟩:=hok;exact⟨cs,rfl⟩
   obtain⟨cs,rfl⟩:=hv;have hc:(Value.agg cs).cells.toList=cs.toList:=rfl;rw[hc]at hq;refine .agg qs cs (by simpa using hq.2.1.symm) (fun c hc=>?_) fun i c hi=>?_
   · obtain⟨j,hj⟩:=List.mem_iff_getElem?.1 hc;have hk:=lK hq.1;have hjl:j<(dL P 8 t).2.length:=by rw[hk.1];exact(qLa.1 hj).1
     exact jH (hk.2 j _ c (qLd hjl) hj)
   · have:=hq.2.2.1 i c hi;rwa[qLb,Array.getElem?_toList,← qAb]at this
  | false =>
   have h1:=Sr ha hs;have hk:=lK hq.1
   match qs,hq,hk with
   | [q],hq,hk =>
    have hl:q.leaf=true:=by refine jH (hk.2 0 ((dL P 8 t).2[0]'(by omega)) q (by simp) rfl)
    have hv:v.cells.toList=[v]:=by
     have hl1:=hq.2.1;cases v<;>first | rfl | skip
     rename_i cs;exfalso;unfold Value.okWide at hok;split at hok
     · rename_i fs hu;unfold dL at hs;rw[hu]at hs;cases hs
     · rename_i m e hu;unfold dL at hs;rw[hu]at hs;cases hs
     · rename_i hns hna;unfold nN at ha;split at ha<;>rename_i hu<;>first | (cases ha;done) | skip
       · obtain⟨m,hc,_⟩:=DataW.trod_int hu h;simp[Value.cells]at hc;unfold Cell.okWide Cell.ok at hok;rw[hu]at hok;simp at hok
       · unfold Cell.okWide Cell.ok at hok;rw[hu]at hok;simp at hok
       · unfold Cell.okWide Cell.ok at hok;rw[hu]at hok;simp at hok
       · unfold Cell.okWide Cell.ok at hok;rw[hu]at hok;simp at hok
       · exact hns _ hu
       · exact hna _ _ hu
    rw[hv]at hq;simpa [Df] using hq.2.2.1 0 q rfl
   | [],hq,hk=>have:=hk.1;rw[h1]at this;simp at this
   | _::_::_,hq,hk=>have:=hk.1;rw[h1]at this;simp at this
theorem Jd {w' : World} (hb : ∀ b,b < w.heap.size → w'.heap[b]? = w.heap[b]?) : ∀ {ts : List TypeId} {vs : List Value} {ds : List (DataW H)} {ps : List MemPlace},DataW.TrodAll enc P w base (fun _ => true) held ts vs ds ps → (∀ t ∈ ts,nN P 8 t = true) →
    DataW.TrodAll enc P w' base (fun b=>decide (b<w.heap.size)) held ts vs ds ps
  | [],[],[],ps,h,_=>h
  | t::ts,v::vs,d::ds,ps,⟨p,q,h1,h2,e⟩,ha=>by refine⟨p,q,?_,Jd hb h2 (fun u hu=>ha u (by simp[hu])),e⟩;obtain⟨fuel,h1⟩:=h1;have hlt:=DataW.trod_lt _ _ _ _ h1;exact⟨fuel,aap fuel 8 t _ _ (DataW.trod_carry fuel t _ _ h1 fun p hp=>ac4 hb (hlt p hp)) (ha t (by simp)) fun p hp=>by simpa using hlt p hp⟩
theorem UJ {b0 : Nat} (hM : ∀ b,b < w.heap.size → M b) : ∀ {ts : List TypeId} {vs : List Value} {ds : List (DataW H)} {ps : List MemPlace},DataW.TrodAll enc P w base sp held ts vs ds ps → (∀ t ∈ ts,nN P 8 t = true) → (∀ (j : Nat) t v,ts[j]? = some t → vs[j]? = some v → Value.okWide P w .any b0 t v) →
    ∃ xs,AQ P w M ts vs xs
  | [],[],[],ps,_,_,_=>⟨[],.nil⟩
  | t::ts,v::vs,d::ds,ps,⟨p,q,h1,h2,e⟩,ha,hv=>by obtain⟨xs,hxs⟩:=UJ hM h2 (fun u hu=>ha u (by simp[hu])) fun j t v h1 h2=>hv (j+1) t v (by simpa using h1) (by simpa using h2);obtain⟨x,e1,e2,e3⟩:=aeX hM (ha t (by simp)) (hv 0 t v rfl rfl) h1;exact⟨x::xs,.cons t ts v vs x xs e1 e2 e3 hxs⟩
theorem AQ.length {ts:List TypeId} {vs:List Value} {xs:List PV} (h:AQ P w M ts vs xs):xs.length=vs.length:=by
 induction h with
 | nil=>rfl
 | cons _ _ _ _ _ _ _ _ _ _ ih=>simp[ih]
theorem AQ.get {ts:List TypeId} {vs:List Value} {xs:List PV} (h:AQ P w M ts vs xs):∀ (i:Nat) (x:PV),xs[i]?=some x→∃ v,vs[i]?=some v∧VR w M x v:=by
 induction h with
 | nil=>intro i x h;simp at h
 | cons t ts v vs x xs h1 h2 h3 h ih =>
  intro i y hy;cases i with
  | zero=>simp at hy;subst hy;exact⟨v,rfl,h1⟩
  | succ i=>simp at hy;simpa using ih i y hy
theorem ac5 {T : Tab} (ok : dZ P T) {X : Ext} {gl : Option (List (Nat × Obj))} (hX : sF P T gl X) {f : Nat} {fi : FI} (hf : dN T.funcs f = some fi) {fn : Func} (hfn : fi.fn = fn) {tb : TypeId} (hres : fn.resultTypes = #[tb]) (aeY : fi.cfg.rets = [])
    (hub:P.underlying tb=some .bool) {s:ChangeSpec} (hvars:s.vars=[]) {W:World} {args:Array Value} {ds gs:List (DataW H)} {before:List MemPlace} {b0:Nat}
    (hval:∀ (j:Nat) t v,fn.params[j]?=some t→args[j]?=some v→Value.okWide P W .any b0 t v) (hW:DataW.Whole enc P fn.params.toList s.vars false W args.toList ds gs before)
    (hpar:fn.params.toList.all (nN P 8)=true) (hs:s.fn H ds={ results:=[.lit (.bool true)],args:=ds })
    (hgl:∀ p∈gl.getD [],p.1<W.heap.size∧W.heap[p.1]?=some p.2) (hrun:∀ xs,AQ P W (fun b=>b<W.heap.size) fn.params.toList args.toList xs→run T X f (xs.map .p) []=some ([.p (.bool true)],[])) :
    Calls P f args W fun e W'=>∃ v,e=.returned v∧s.post enc P fn false true false false W args v W':=by
  subst hfn;have hW0:=hW;obtain⟨p,q,hA,hV,hbef,hz,hn⟩:=hW;have hall:∀ t∈fi.fn.params.toList,nN P 8 t=true:=fun t ht=>List.all_eq_true.1 hpar t ht;rw[hvars]at hV;cases gs with
  | cons g gr=>exact hV.elim
  | nil =>
   obtain⟨xs,hxs⟩:=UJ (M:=fun b=>b<W.heap.size) (fun _ h=>h) hA hall (base:=0) (fun j t v h1 h2=>by exact hval j t v (by simpa using h1) (by simpa using h2));have aoN:=(LH ok hX).plain f fi (xs.map .p) [] _ [] hf (by simp) (hrun xs hxs);have hpre:tZ W (fun b=>b<W.heap.size) (fun _=>none) (xs.map .p) [] args:=by refine⟨by simp[hxs.length],fun i v hi=>?_,fun i b0 hi=>by simp at hi,fun i b o hi=>by simp at hi,fun i j b o o' hi=>by simp at hi,fun b hb=>hb⟩;simp only[List.getElem?_map,Option.map_eq_some_iff]at hi;obtain⟨x,hx,rfl⟩:=hi;obtain⟨v,h1,h2⟩:=hxs.get i x hx;rw[qAb,← Array.getElem?_toList,h1];exact .p _ _ h2
   refine Calls.mono (aoN.2 W _ _ args hgl hpre) fun e W' hpost=>?_;obtain⟨cs,ps,M',rfl,post⟩:=hpost;have hkeep:∀ b,b<W.heap.size→W'.heap[b]?=W.heap[b]?:=fun b hb=>post.keep b hb fun i o hi=>by simp at hi
   have hr:=post.res;rw[hres,aeY]at hr;have hcs:cs=[.bool true]:=by
    cases hr with
    | cons _ _ _ _ _ c cs' p ps' h1 h2 _ =>
     cases h2;cases h1 with
     | deep _ x _ _ hv=>cases hv;rfl
   subst hcs;refine⟨.bool true,rfl,ds,[],before,[],p,[],hW0,?_,?_,?_,?_,fun h=>by cases h⟩
   · rw[List.append_nil,hs,hres];exact⟨[],[],⟨1,by simp[DataW.trod,Value.cells,hub]⟩,rfl,rfl⟩
   · rw[List.append_nil,hs];exact Jd hkeep hA hall
   · rw[List.append_nil,hs,hvars];rfl
   · refine⟨post.os,post.output,fun i hi=>?_⟩;rw[hkeep i hi];cases hh:W.heap[i]? with
     | none=>simp
     | some o=>cases o<;>simp
end
def WH (P:Program):List (Nat × TI)→Prop
 | []=>True
 | (t,i)::r=>afU P t=some i∧WH P r
structure WI (P:Program) (T:Tab) (f:Nat) (fi:FI):Prop where
 fn:P.funcs[f]?=some fi.fn
 name : (fi.fn.name == "runtime.NumGoroutine") = false
 draws:(match fi.fn.body with | some c=>eU T fi.hides c | none=>true)=true
 flat:(fi.cfg.vY||(fi.cfg.shares||sU T fi.cfg.rets fi.fn.resultTypes.toList))=true
 nvars:Nat.ble fi.cfg.nvars 100000=true
def agU (T : Tab) (fi : FI) : Bool := !(fi.fn.name == "runtime.NumGoroutine") && ((match fi.fn.body with | some c => eU T fi.hides c | none => true) && ((fi.cfg.vY || (fi.cfg.shares || sU T fi.cfg.rets fi.fn.resultTypes.toList)) && Nat.ble fi.cfg.nvars 100000))
theorem WI.of {P:Program} {T:Tab} {f:Nat} {fi:FI} (h:P.funcs[f]?=some fi.fn) (q:agU T fi=true):WI P T f fi:=by simp only[agU,qBa,qBb]at q;exact⟨h,q.1,q.2.1,q.2.2.1,q.2.2.2⟩
def WJ (P:Program) (T:Tab):List (Nat × FI)→Prop
 | []=>True
 | (f,i)::r=>WI P T f i∧WJ P T r
theorem Oj {P:Program}:∀ {l:List (Nat × TI)} {t:Nat} {i:TI},WH P l→dN l t=some i→afU P t=some i
 | [],t,i,_,h=>by simp[dN]at h
 | (k,x)::r,t,i,hk,h=>by
  simp only[dN]at h;cases he:k==t with
  | true =>
   rw[he]at h;have e:k=t:=by simpa using he
   subst e;cases h;exact hk.1
  | false=>rw[he]at h;exact Oj hk.2 h
theorem G5 {P:Program} {T:Tab}:∀ {l:List (Nat × FI)} {f:Nat} {i:FI},WJ P T l→dN l f=some i→WI P T f i
 | [],f,i,_,h=>by simp[dN]at h
 | (k,x)::r,f,i,hk,h=>by
  simp only[dN]at h;cases he:k==f with
  | true =>
   rw[he]at h;have e:k=f:=by simpa using he
   subst e;cases h;exact hk.1
  | false=>rw[he]at h;exact G5 hk.2 h
def UZ (P:Program) (T:Tab):Prop:=∀ f fi,dN T.funcs f=some fi→agP P f fi.cfg.Jg
theorem aeZ {P:Program} {T:Tab} (h1:WH P T.types) (h2:WJ P T T.funcs) (h3:P.follows .mixedOrders=true) (h4:UZ P T):dZ P T:=by
 refine⟨fun t i h=>Oj h1 h,fun f fi h=>?_,h3,fun f fi h=>Nat.le_of_ble_eq_true (G5 h2 h).nvars,h4⟩;have g:=G5 h2 h;refine⟨g.fn,g.name,fun c hc=>?_,fun hb hs=>?_⟩
 · have:=g.draws;rw[hc]at this;exact this
 · have:=g.flat
   rw[hb,hs]at this;exact this
end Go.Skm
namespace Go.Skm
theorem wrap_eq {x:Int} (h1:-9223372036854775808≤x) (h2:x≤9223372036854775807):IntKind.i64.wrap x=x:=by
 have:∀ y:Int,y=x%2 ^ 64→(if(true&&decide (y ≥ 2 ^ (64-1)))=true then y-2 ^ 64 else y)=x:=by
  intro y hy;by_cases h:y ≥ 2 ^ (64-1)
  · rw[if_pos (by simpa using h)];omega
  · rw[if_neg (by simpa using h)];omega
 exact this _ rfl
theorem Kq {α:Type} (p:Prop) [Decidable p] (a b:α):cond (decide p) a b=if p then a else b:=by by_cases h:p<;>simp[h]
theorem adP {α:Type} (x y:Int) (a b:α):cond (x==y) a b=if x=y then a else b:=by
 by_cases h:x=y
 · simp[h]
 · have:(x==y)=false:=by simpa using h
   simp[h,this]
theorem adQ {α:Type} (p q:Bool) (a b:α):cond (p&&q) a b=cond p (cond q a b) b:=by cases p<;>rfl
@[simp] theorem toInt_int (k:IntKind) (n:Int):(PV.int k n).toInt=n:=rfl
@[simp] theorem bD (b:Bool):(PV.bool b).toBool=b:=rfl
@[simp] theorem ac6 (s:ByteArray):(PV.str s).toStr=s:=rfl
@[simp] theorem G6 (a:Bool) (ks:List Kd) (xs:List PV):(PV.list a ks xs).toList=xs:=rfl
@[simp] theorem dA (v:PV):(AV.p v).pv=v:=rfl
@[simp] theorem dM (a:Bool) (ks:List Kd) (xs:List PV):(AV.fresh a ks xs).aU=xs:=rfl
@[simp] theorem kJ (s z o l:Nat):(AV.slice s z o l).qV=o:=rfl
@[simp] theorem kK (s z o l:Nat):(AV.slice s z o l).sLen=l:=rfl
@[simp] theorem yM (a:Bool) (ks:List Kd) (xs:List PV):(cu.arr a ks xs).xs=xs:=rfl
@[simp] theorem DJ (cs:List PV) (j:Nat):(PV.agg cs).cell j=cs.getD j .nil:=rfl
@[simp] theorem air (a:Bool) (ks:List Kd) (xs:List PV) (j:Nat):(PV.list a ks xs).cell j=.list a ks xs:=rfl
@[simp] theorem P6 (k:IntKind) (n:Int) (j:Nat):(PV.int k n).cell j=.int k n:=rfl
structure V3 where
 x:Int
 y:Int
 z:Int
 deriving DecidableEq
namespace V3
instance:Inhabited V3:=⟨⟨0,0,0⟩⟩
end V3
abbrev kV:List Kd:=[.int .i64,.int .i64,.int .i64]
def dn (v:V3):PV:=.agg [.int .i64 v.x,.int .i64 v.y,.int .i64 v.z]
def dh (l:List V3):List PV:=l.map dn
def encI (l:List Int):List PV:=l.map fun n=>.int .i64 n
@[simp] theorem lH (l:List V3):(dh l).length=l.length:=by simp[dh]
@[simp] theorem agV (l:List Int):(encI l).length=l.length:=by simp[encI]
@[simp] theorem aj2:dh []=[]:=rfl
theorem Lu (l:List V3) (i:Nat):(dh l)[i]?=(l[i]?).map dn:=by simp[dh]
theorem Nr (l:List V3) {i:Nat} (h:i<l.length):(dh l).getD i .nil=dn (l.getD i default):=by rw[qLb,qLb,Lu];simp[h]
@[simp] theorem Jl (l:List V3) (i:Nat):(((dh l).getD i .nil).cell 0).toInt=(l.getD i default).x:=by
 by_cases h:i<l.length
 · rw[Nr l h];rfl
 · have h1:(dh l).getD i .nil=.nil:=by rw[qLb,Lu];simp[h]
   have h2:l.getD i default=default:=by rw[qLb];simp[h]
   rw[h1,h2];rfl
@[simp] theorem Jm (l:List V3) (i:Nat):(((dh l).getD i .nil).cell 1).toInt=(l.getD i default).y:=by
 by_cases h:i<l.length
 · rw[Nr l h];rfl
 · have h1:(dh l).getD i .nil=.nil:=by rw[qLb,Lu];simp[h]
   have h2:l.getD i default=default:=by rw[qLb];simp[h]
   rw[h1,h2];rfl
@[simp] theorem Qa (l:List V3) (i:Nat):(((dh l).getD i .nil).cell 2).toInt=(l.getD i default).z:=by
 by_cases h:i<l.length
 · rw[Nr l h];rfl
 · have h1:(dh l).getD i .nil=.nil:=by rw[qLb,Lu];simp[h]
   have h2:l.getD i default=default:=by rw[qLb];simp[h]
   rw[h1,h2];rfl
def V3.ok (v:V3):Prop:=(-9223372036854775808≤v.x∧v.x≤9223372036854775807)∧(-9223372036854775808≤v.y∧v.y≤9223372036854775807)∧(-9223372036854775808≤v.z∧v.z≤9223372036854775807)
theorem wf_i64 {n:Int}:(PV.int .i64 n).wf↔-9223372036854775808≤n∧n≤9223372036854775807:=by simp[PV.wf,Lit.wf,IntKind.min,IntKind.max,IntKind.bits,IntKind.signed]
theorem ahR {x:PV} (h:bZ true kV x=true) (hw:x.wf):∃ v:V3,x=dn v∧v.ok:=by
 cases x<;>simp only[bZ,Bool.false_eq_true]at h;rename_i cs
 match cs,h,hw with
 | [a,b,c],h,hw =>simp only[gQ,Bool.and_true,qBa]at h;obtain⟨ha,hb,hc⟩:=h;cases a<;>simp[kindOk]at ha;cases b<;>simp[kindOk]at hb;cases c<;>simp[kindOk]at hc;subst ha hb hc;rename_i p q r;simp only[PV.wf,PV.wfs,and_true]at hw;exact⟨⟨p,q,r⟩,rfl,wf_i64.1 hw.1,wf_i64.1 hw.2.1,wf_i64.1 hw.2.2⟩
 | [],h,_=>simp[gQ]at h
 | [_],h,_=>simp[gQ]at h
 | [_,_],h,_=>simp[gQ]at h
 | _::_::_::_::_,h,_=>simp[gQ]at h
theorem abp:∀ {xs:List PV},(∀ x∈xs,bZ true kV x=true)→PV.wfs xs→∃ l:List V3,xs=dh l∧∀ v∈l,v.ok
 | [],_,_=>⟨[],rfl,by simp⟩
 | x::xs,h,hw=>by
  obtain⟨v,rfl,h1⟩:=ahR (h x (by simp)) hw.1;obtain⟨l,rfl,h2⟩:=abp (fun y hy=>h y (by simp[hy])) hw.2;exact⟨v::l,rfl,fun u hu=>by 
   rcases List.mem_cons.1 hu with rfl | hu
   · exact h1
   · exact h2 u hu⟩
section
variable {P:Program} {w:World} {M:Nat→Prop}
theorem AQ.one {t:TypeId} {ts:List TypeId} {vs:List Value} {xs:List PV} (h:AQ P w M (t::ts) vs xs):∃ x ys v us,xs=x::ys∧vs=v::us∧VR w M x v∧bZ (dL P 8 t).1 (dL P 8 t).2 x=true∧x.wf∧AQ P w M ts us ys:=by
 cases h with
 | cons _ _ v vs x xs h1 h2 h3 h=>exact⟨x,xs,v,vs,rfl,rfl,h1,h2,h3,h⟩
theorem AQ.none {vs:List Value} {xs:List PV} (h:AQ P w M [] vs xs):xs=[]:=by cases h;rfl
theorem adO {x : PV} {v : Value} {t : TypeId} (ht : dL P 8 t = (false,[.slice true kV])) (h : VR w M x v) (h1 : bZ (dL P 8 t).1 (dL P 8 t).2 x = true) (h2 : x.wf) :
    ∃ l:List V3,x=.list true kV (dh l)∧(∀ v∈l,v.ok)∧l.length≤maxLen:=by
  rw[ht]at h1;simp only[bZ]at h1;cases x<;>simp only[kindOk,Bool.false_eq_true]at h1
  · rename_i a ks xs;simp only[qBa,beq_iff_eq]at h1;obtain⟨rfl,h3⟩:=h1;have h3:=Kd.rJ _ _ h3;subst h3;simp only[PV.wf]at h2;have hsh:∀ y∈xs,bZ true kV y=true:=by
     cases h with
     | list _ _ _ b o cap f _ _ _ _ hs=>exact hs
     | vZ _ _ base cap=>simp
    obtain⟨l,rfl,h4⟩:=abp hsh h2.2;exact⟨l,rfl,h4,by simpa using h2.1⟩
  · exact h2.elim
theorem afB {x:PV} {t:TypeId} (ht:dL P 8 t=(false,[.int .i64])) (h1:bZ (dL P 8 t).1 (dL P 8 t).2 x=true) (h2:x.wf):∃ n:Int,x=.int .i64 n∧-9223372036854775808≤n∧n≤9223372036854775807:=by rw[ht]at h1;simp only[bZ]at h1;cases x<;>simp[kindOk]at h1;subst h1;exact⟨_,rfl,wf_i64.1 h2⟩
end
end Go.Skm
namespace Go.Skm
theorem ba_eq {a b:ByteArray}:a=b↔a.data.toList=b.data.toList:=by
 constructor
 · rintro rfl;rfl
 · intro h;cases a with | mk a=>cases b with | mk b =>simp only at h;rw[show a=b from by rw[← Array.toArray_toList (xs:=a),h,Array.toArray_toList]]
theorem ae0 (a b:ByteArray):(a.toList==b.toList)=decide (a=b):=by
 rw[ByteArray.toList_eq,ByteArray.toList_eq];by_cases h:a=b
 · subst h;simp
 · have:a.data.toList≠b.data.toList:=fun e=>h (ba_eq.2 e);rw[show (a.data.toList==b.data.toList)=false from by simpa using this,show decide (a=b)=false from by simpa using h]
def ba (l:List UInt8):ByteArray:=⟨l.toArray⟩
@[simp] theorem al7 (l:List UInt8):(ba l).data.toList=l:=rfl
section
variable {α β γ:Type}
theorem fF {p:Prop} {i:Decidable p} {a b x:α} (h:p) (h2:a=x):cond (@decide p i) a b=x:=by rw[decide_eq_true h];exact h2
theorem dO {p:Prop} {i:Decidable p} {a b x:α} (h:¬ p) (h2:b=x):cond (@decide p i) a b=x:=by rw[decide_eq_false h];exact h2
end
end Go.Skm
