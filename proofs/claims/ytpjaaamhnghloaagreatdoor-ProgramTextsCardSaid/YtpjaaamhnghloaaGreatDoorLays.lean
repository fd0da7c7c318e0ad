import Derived.Test.YtpjaaamhnghloaaGreatDoorQB
import Derived.Shelf.LaysM
import Derived.Shelf.LaysC
import Derived.Shelf.Strings.BuilderK
import Derived.Shelf.Strings.SplitShaped
import Derived.Shelf.Strconv.AtoiAll
import Derived.Shelf.SlGeneric
import Derived.Shelf.Strconv.Itoa3
import Derived.Shelf.Strings.OnBuilder
import Derived.Shelf.SlicesE.Clone
import Derived.Ground.SlgnProg
import Derived.Test.YtpjaaamhnghloaaGreatDoorProg
set_option linter.all false
namespace Go.Skm.Prg
open Go Go.Skm Go.Proofs Go.RowKit Go.Shelf
variable {W:World}
attribute [local go_sem] Oper.semAt_some Bv
set_option maxRecDepth 100000 in
theorem ae6:List.range 146=[0,1,2,3,4,5,6,7,8,9,10,11,12,13,14,15,16,17,18,19,20,21,22,23,24,25,26,27,28,29,30,31,32,33,34,35,36,37,38,39,40,41,42,43,44,45,46,47,48,49,50,51,52,53,54,55,56,57,58,59,60,61,62,63,64,65,66,67,68,69,70,71,72,73,74,75,76,77,78,79,80,81,82,83,84,85,86,87,88,89,90,91,92,93,94,95,96,97,98,99,100,101,102,103,104,105,106,107,108,109,110,111,112,113,114,115,116,117,118,119,120,121,122,123,124,125,126,127,128,129,130,131,132,133,134,135,136,137,138,139,140,141,142,143,144,145]:=rfl
theorem Lh{w:List (List UInt8)}{n:Nat}{l:List Int}(h:mF w n=some l):l.length=n:=by
 unfold mF at h;split at h
 .split at h
  .cases h;assumption
  .cases h
 .cases h
section
variable {gl:Option (List (Nat × Obj))}{X:Ext} (hX:Mine X) (Vy:Reads X) (hC:dS Tryz.prog tab gl (run tab X)) {w:World} (hgl:∀p∈gl.getD [],p.1<w.heap.size/\w.heap[p.1]?=some p.2)
include hC hgl
include Vy in
theorem ZE(l:List UInt8)(j:l.length<=100000000)(g:Below w.heap.size w W) :
    Calls Tryz.prog 74 #[.string (ba l),.string ⟨#[32]⟩] W λe W'=>∃v b o,e=.returned v/\Lies W' (yQ (bG 32 l)) v b o/\(b<w.heap.size\/W.heap.size<=b)/\Below W.heap.size W W':=by
  refine(PW hC (f:=74) (fi:=ad7) τ (t:=22) τ rfl (xs:=[.str (ba l),.str ⟨#[32]⟩]) (M:=λb=>b<w.heap.size) (Vy.split l j) (Bq hgl g) (λb d=>Nat.lt_of_lt_of_le d g.size) rfl λi x hi=>?_).mono ?_
  .match i,hi with
   |0,hi=>cases hi;exact .str _
   |1,hi=>cases hi;exact .str _
   |i+2,hi=>simp at hi
  .rintro e W' ⟨v,M',rfl,h,-,c,a,d⟩;obtain⟨b,o,k,m⟩:=Ub h c (mO 32 l);exact⟨v,b,o,rfl,m,a b k,d⟩
include hX Vy in
theorem Eu(g:List (List UInt8))(H:g.length<=1000000)(I:∀s∈g,s.length<=1000000)(n:Nat)(F:Below w.heap.size w W){b:Nat}(C:b<W.heap.size){G:Value}(D:VR W (λx=>x=b) (.list false [.str] (eN g)) G) :
    Calls Tryz.prog 75 #[G,.int .i64 (n:Int)] W λe W'=>∃(l:List Int) (c:Value) (a:Option Addr) (r:Nat),e=.returned (.tuple #[.slice a l.length r,.bool (mF g n).isSome])/\(∀m,mF g n=some m->l=m)/\c=Value.slice a l.length r /\
     (l≠[]->∃j v,Lies W' (PX l) c j v/\(j<w.heap.size\/j=b\/W.heap.size<=j))/\Below W.heap.size W W':=by
  obtain⟨l,o,B⟩:=c75 X hX Vy g n H I;refine(Ua hC (f:=75) (fi:=ajs) τ (t:=59) (u:=4) τ rfl (xs:=[.list false [.str] (eN g),.int .i64 (n:Int)]) (M:=λx=>x<w.heap.size\/x=b) o (λp hp=>⟨.inl (hgl p hp).1,(Bq hgl F p hp).2⟩) (λx k=>?_) rfl λi x hi=>?_).mono ?_
  .rcases k with k |rfl
   .exact Nat.lt_of_lt_of_le k F.size
   .exact C
  .match i,hi with
   |0,hi=>cases hi;exact D.mono λx k=>⟨.inr k,rfl⟩
   |1,hi=>cases hi;exact .int _ _
   |i+2,hi=>simp at hi
  .rintro e W' ⟨c,d,M',rfl,y,hd,-,A,q,J⟩;cases hd;obtain⟨a,r,rfl⟩:=Jf y;rw[uG]at y ⊢;refine⟨l,_,a,r,rfl,B,rfl,λz=>?_,J⟩;obtain⟨j,v,K,E⟩:=Uc y A z;exact⟨j,v,E,(q j K).elim (λh=>h.elim .inl λh=>.inr (.inl h)) λh=>.inr (.inr h)⟩
include hX Vy in
set_option maxRecDepth 100000 in
set_option maxHeartbeats 4000000 in
theorem acK(u:List UInt8)(hl:u.length<=100000){wr:World}(Q:Below w.heap.size w wr){B Pb L:Nat}{D:Nat->Prop}{q:Pg}(hst:St wr B Pb D q)(hwB:w.heap.size<=B)(hD:∀b,D b->B<=b/\b<wr.heap.size)(Z:Sz q L)(hL:L<=1000000)(R:Ending->World->Prop)
    (hR1:N8 q u=none->∀W',Below wr.heap.size wr W'->R (.returned (.bool false)) W')
    (hR2:∀q',N8 q u=some q'->∀W',Kp wr W' D Pb->St W' B Pb (λb=>D b\/wr.heap.size<=b) q'->R (.returned (.bool true)) W') :
    Calls Tryz.prog 39 #[.pointer (some ⟨Pb,0,none⟩),.string (ba u)] wr R:=by
  have h74:(FW none).fn 74:=trivial;have h75:(FW none).fn 75:=trivial;refine jv (rd:=none) (n:=0) (callsIn_of_wp_marks Tryz.func39 rfl trivial ?_);simp only[Tryz.ntmps39,List.size_toArray,qLl,List.length_nil,Nat.reduceAdd,Nat.reduceSub,Array.replicate_succ,Array.replicate_zero,List.push_toArray,List.append_toArray,List.nil_append,List.cons_append];obtain⟨d,Y⟩:∃d,bG 32 u=d:=⟨_,rfl⟩;have hwn:d≠[]:=Y▸mO 32 u;have hwl:d.length<=1000000:=by rw[<-Y];have:=tX 32 u;omega
  have hwp:∀p∈d,p.length<=1000000:=λp hp=>by have:=wu (c:=32) (l:=u) (p:=p) (Y.symm▸hp);omega
  have hrp:N8 q u=WO q d:=by rw[N8,Y]
  rw[hrp]at hR1 hR2;obtain⟨hPs,hBP⟩:=hst.lt
  gi_wp2
  refine⟨rfl,(bW none (ZE Vy hC hgl u ω Q)).mono ?_⟩;rintro e W2 ⟨c,b,o,rfl,j,hb2,hB2⟩;rw[Y]at j;obtain⟨⟨cw,rfl,hcw⟩,-,hat⟩:=id j;have hlen:(yQ d).length=d.length:=by simp[yQ]
  rw[hlen]at j hcw ⊢;have hm1:1<=d.length:=List.length_pos_iff.2 hwn;have hc0:W2.cell? ⟨b,o,none⟩=some (.string (ba (d.headD []))):=hat 0 _ (by cases d with |nil=>exact absurd rfl hwn |cons y r=>rfl);obtain⟨m,hm⟩:∃m,d.length=m:=⟨_,rfl⟩;rw[hm]at j hcw hm1 hwl ⊢;obtain⟨w0,J⟩:∃w0,d.headD []=w0:=⟨_,rfl⟩;rw[J]at hc0;clear hat hlen;have acI:=hB2.size;have hlow2:=Q.trans (hB2.mono Q.size);have hst2:=hst.below hB2;have hbD:¬D b:=λh=>by have:=hD b h;omega
  have hbP:b≠Pb:=ω
  have HF:Hid (WO q d=none->∀W',Below W2.heap.size W2 W'->R (.returned (.bool false)) W'):=λh W' h2=>hR1 h W' (hB2.trans (h2.mono acI));have HY:Hid (∀q',WO q d=some q'->∀W3 W' (D':Nat->Prop),Below W2.heap.size W2 W3->Kp W3 W' D Pb->St W' B Pb D' q'->(∀b,D' b->D b\/W3.heap.size<=b)->R (.returned (.bool true)) W'):=λq' h W3 W' D' V h2 h3 h4=>hR2 q' h W' ((ae2 (hB2.trans (V.mono acI))).trans h2 λb h=>.inl h) (h3.mono λb _ _ _ hb=>(h4 b hb).imp id λh=>by have:=V.size;omega);clear hR1 hR2 hrp Q hst;by_cases hk:w0=vY
  .have HM:Hid (w0=vY):=hk;clear hk;have z:((ba w0).toList==[97,105,114,99,114,97,102,116])=true:=by rw[kW];exact decide_eq_true HM.out
   have C:((ba w0).toList==[97,99,116])=false:=by rw[kW];exact decide_eq_false (by rw[HM.out];decide)
   have H:((ba w0).toList==[109,111,118,101])=false:=by rw[kW];exact decide_eq_false (by rw[HM.out];decide)
   have Y6:WO q d=(mF (d.drop 2) 3).bind (jQ q d):=aa2 (J.trans HM.out);obtain⟨F,hkk,hkm,T⟩:∃F:Nat,min (2:Int) (m:Int)=(F:Int)/\F<=m/\d.drop F=d.drop 2:=by
    by_cases h:m<2
    .exact⟨m,ω,ω,by rw[List.drop_eq_nil_of_le ω,List.drop_eq_nil_of_le ω]⟩
    .exact⟨2,ω,ω,rfl⟩
   rcases(by omega:cw=F\/¬cw=F)with O |O
   all_goals
    dsimp only
    gi_wp2_with (simp only[z,hkk,qBf,qBt])
    refine⟨rfl,(bW none (Eu hX Vy hC hgl (d.drop 2) (by rw[List.length_drop];omega) (λs h=>hwp s (List.mem_of_mem_drop h)) 3 hlow2 j.lt ?_)).mono ?_⟩
    .first
       |(have e:=j.strs (k:=F) ω (cw-F) ω;rw[hm,T]at e;exact e)
       |(rw[<-T,List.drop_eq_nil_of_le ω,show m-F=0 by omega];exact .iM _ _ _ _)
    rintro e W3 ⟨l,c,ai,cp,rfl,M,rfl,K,f⟩;have RV:=f.size;have hL3:=j.keep (f.block b j.lt) RV;have v:=hst2.below f;cases I:mF (d.drop 2) 3 with
    |none=>
     simp only[Option.isSome_none]
     gi_wp2_with (simp only[z,C,H,qBf,qBt])
     show LeavesInM (FW none) 0 Tryz.prog Tryz.f39 _ _ [] .returning _;exact⟨_,results_tmp (t:=4) rfl _ _ _,HF.out (by rw[Y6,I];rfl) _ f⟩
    |some nl=>
     obtain rfl:=M nl I;have S:l.length=3:=Lh I;rw[S];simp only[Option.isSome_some];have hdl:(d.drop 2).length=3:=by rw[<-S,<-(Bj _ _ l I).1]
     obtain⟨bi,oi,G,hbi⟩:=K (by rintro rfl;simp at S);obtain⟨_,hv,-⟩:=G.val;obtain rfl:=(Value.slice.inj hv).1;clear hv K M;have ag9:=G.lt;have E:∀i,i<3->W3.cell? ⟨bi,oi+i,none⟩=some (.int .i64 (l.getD i 0)):=λi hi=>G.at_ i _ (by
      have V:i<l.length:=ω
      simp[PX,V])
     have Ob:¬D bi:=λh=>by
      have h2:=hD bi h;rcases hbi with h3 |rfl |h3
      .omega
      .exact hbD h
      .omega
     have hm4:1<m:=by rw[List.length_drop]at hdl;omega
     have hc1':W3.cell? ⟨b,o+1,none⟩=some (.string (ba (d.getD 1 []))):=hL3.at_ 1 _ (by
      have V:1<d.length:=ω
      simp[yQ,V])
     have hstep:WO q d=some ⟨q.names++[d.getD 1 []],q.homes++[⟨l.getD 0 0,l.getD 1 0,l.getD 2 0⟩],q.acts⟩:=by rw[Y6,I,qOb,jQ,J,if_pos ⟨HM.out,S⟩]
     gi_wp2_with (simp only[z,qBf,qBt])
     refine ajn (g:=d.getD 1 []) (x:=⟨l.getD 0 0,l.getD 1 0,l.getD 2 0⟩) (by rfl) (by rfl) (by rfl) hm4 hc1' hbD (by rfl) δ (E 0 δ) (E 1 δ) (E 2 δ) Ob v ω (by have:=Z.names;omega) (by have:=Z.homes;omega) ?_;intro a5 W5 X4 N qV A P;obtain⟨u',hu',rfl⟩:=tV a5 (n:=146) X4 N;have HN:=HY.out _ hstep W3 W5 _ f P A λb h=>h;clear v A P qV X4 N;rw[ae6];simp only[List.map_cons,List.map_nil]
     gi_wp2
     show LeavesInM (FW none) 0 Tryz.prog Tryz.f39 _ _ [] .returning _;exact⟨_,results_tmp (t:=4) rfl _ _ _,HN⟩
  by_cases hk2:w0=uI
  .have hk:=hk2;clear hk2;have HM:Hid (w0=uI):=hk;clear hk;have z:((ba w0).toList==[97,105,114,99,114,97,102,116])=false:=by rw[kW];exact decide_eq_false (by rw[HM.out];decide)
   have C:((ba w0).toList==[97,99,116])=true:=by rw[kW];exact decide_eq_true HM.out
   have H:((ba w0).toList==[109,111,118,101])=false:=by rw[kW];exact decide_eq_false (by rw[HM.out];decide)
   have Y6:WO q d=(mF (d.drop 2) 1).bind (jQ q d):=aa3 (J.trans HM.out);obtain⟨F,hkk,hkm,T⟩:∃F:Nat,min (2:Int) (m:Int)=(F:Int)/\F<=m/\d.drop F=d.drop 2:=by
    by_cases h:m<2
    .exact⟨m,ω,ω,by rw[List.drop_eq_nil_of_le ω,List.drop_eq_nil_of_le ω]⟩
    .exact⟨2,ω,ω,rfl⟩
   rcases(by omega:cw=F\/¬cw=F)with O |O
   all_goals
    dsimp only
    gi_wp2_with (simp only[z,C,hkk,qBf,qBt])
    refine⟨rfl,(bW none (Eu hX Vy hC hgl (d.drop 2) (by rw[List.length_drop];omega) (λs h=>hwp s (List.mem_of_mem_drop h)) 1 hlow2 j.lt ?_)).mono ?_⟩
    .first
       |(have e:=j.strs (k:=F) ω (cw-F) ω;rw[hm,T]at e;exact e)
       |(rw[<-T,List.drop_eq_nil_of_le ω,show m-F=0 by omega];exact .iM _ _ _ _)
    rintro e W3 ⟨l,c,ai,cp,rfl,M,rfl,K,f⟩;have RV:=f.size;have hL3:=j.keep (f.block b j.lt) RV;have v:=hst2.below f;cases I:mF (d.drop 2) 1 with
    |none=>
     simp only[Option.isSome_none]
     gi_wp2_with (simp only[z,C,H,qBf,qBt])
     show LeavesInM (FW none) 0 Tryz.prog Tryz.f39 _ _ [] .returning _;exact⟨_,results_tmp (t:=4) rfl _ _ _,HF.out (by rw[Y6,I];rfl) _ f⟩
    |some nl=>
     obtain rfl:=M nl I;have S:l.length=1:=Lh I;rw[S];simp only[Option.isSome_some];have hdl:(d.drop 2).length=1:=by rw[<-S,<-(Bj _ _ l I).1]
     obtain⟨bi,oi,G,hbi⟩:=K (by rintro rfl;simp at S);obtain⟨_,hv,-⟩:=G.val;obtain rfl:=(Value.slice.inj hv).1;clear hv K M;have ag9:=G.lt;have E:∀i,i<1->W3.cell? ⟨bi,oi+i,none⟩=some (.int .i64 (l.getD i 0)):=λi hi=>G.at_ i _ (by
      have V:i<l.length:=ω
      simp[PX,V])
     have Ob:¬D bi:=λh=>by
      have h2:=hD bi h;rcases hbi with h3 |rfl |h3
      .omega
      .exact hbD h
      .omega
     have hm4:1<m:=by rw[List.length_drop]at hdl;omega
     have hc1':W3.cell? ⟨b,o+1,none⟩=some (.string (ba (d.getD 1 []))):=hL3.at_ 1 _ (by
      have V:1<d.length:=ω
      simp[yQ,V])
     have hstep:WO q d=some ⟨q.names,q.homes,q.acts++[⟨d.getD 1 [],l.getD 0 0,[]⟩]⟩:=by rw[Y6,I,qOb,jQ,J,if_neg (λh=>absurd (HM.out.symm.trans h.1) δ),if_pos ⟨HM.out,S⟩]
     gi_wp2_with (simp only[z,C,qBf,qBt])
     refine ag6 (g:=d.getD 1 []) (by rfl) (by rfl) (by rfl) hm4 hc1' hbD (by rfl) δ (E 0 δ) Ob v ω (by have:=Z.acts;omega) ?_;intro a5 W5 X4 N qV A P;obtain⟨u',hu',rfl⟩:=tV a5 (n:=146) X4 N;have HN:=HY.out _ hstep W3 W5 _ f P A λb h=>h;clear v A P qV X4 N;rw[ae6];simp only[List.map_cons,List.map_nil]
     gi_wp2
     show LeavesInM (FW none) 0 Tryz.prog Tryz.f39 _ _ [] .returning _;exact⟨_,results_tmp (t:=4) rfl _ _ _,HN⟩
  by_cases hk3:w0=vZ
  .have hk:=hk3;clear hk3;have HM:Hid (w0=vZ):=hk;clear hk;have z:((ba w0).toList==[97,105,114,99,114,97,102,116])=false:=by rw[kW];exact decide_eq_false (by rw[HM.out];decide)
   have C:((ba w0).toList==[97,99,116])=false:=by rw[kW];exact decide_eq_false (by rw[HM.out];decide)
   have H:((ba w0).toList==[109,111,118,101])=true:=by rw[kW];exact decide_eq_true HM.out
   have Y6:WO q d=(mF (d.drop 1) 6).bind (jQ q d):=aa4 (J.trans HM.out);obtain⟨F,hkk,hkm,T⟩:∃F,F=1/\F<=m/\d.drop F=d.drop 1:=⟨1,rfl,hm1,rfl⟩;subst hkk;rcases(by omega:cw=1\/¬cw=1)with O |O
   all_goals
    dsimp only
    gi_wp2_with (simp only[z,C,H,qBf,qBt])
    refine⟨rfl,(bW none (Eu hX Vy hC hgl (d.drop 1) (by rw[List.length_drop];omega) (λs h=>hwp s (List.mem_of_mem_drop h)) 6 hlow2 j.lt ?_)).mono ?_⟩
    .first
       |(have e:=j.strs (k:=1) ω (cw-1) ω;rw[hm]at e;exact e)
       |(rw[List.drop_eq_nil_of_le ω,show m-1=0 by omega];exact .iM _ _ _ _)
    rintro e W3 ⟨l,c,ai,cp,rfl,M,rfl,K,f⟩;have RV:=f.size;have hL3:=j.keep (f.block b j.lt) RV;have v:=hst2.below f;cases I:mF (d.drop 1) 6 with
    |none=>
     simp only[Option.isSome_none]
     gi_wp2_with (simp only[z,C,H,qBf,qBt])
     show LeavesInM (FW none) 0 Tryz.prog Tryz.f39 _ _ [] .returning _;exact⟨_,results_tmp (t:=4) rfl _ _ _,HF.out (by rw[Y6,I];rfl) _ f⟩
    |some nl=>
     obtain rfl:=M nl I;have S:l.length=6:=Lh I;rw[S];simp only[Option.isSome_some];have hdl:(d.drop 1).length=6:=by rw[<-S,<-(Bj _ _ l I).1]
     obtain⟨bi,oi,G,hbi⟩:=K (by rintro rfl;simp at S);obtain⟨_,hv,-⟩:=G.val;obtain rfl:=(Value.slice.inj hv).1;clear hv K M;have ag9:=G.lt;have E:∀i,i<6->W3.cell? ⟨bi,oi+i,none⟩=some (.int .i64 (l.getD i 0)):=λi hi=>G.at_ i _ (by
      have V:i<l.length:=ω
      simp[PX,V])
     have Ob:¬D bi:=λh=>by
      have h2:=hD bi h;rcases hbi with h3 |rfl |h3
      .omega
      .exact hbD h
      .omega
     obtain⟨z0,d0,z1,d1,z2,d2,hPc⟩:=v.cells;have hP2:W3.cell? ⟨Pb,2,none⟩=some (.slice z2 q.acts.length d2):=by simp[World.cell?,hPc]
     obtain⟨Ln,U⟩:∃Ln,q.acts.length=Ln:=⟨_,rfl⟩;rw[U]at hP2;have hLs:Ln<=1000000:=by have:=Z.acts;omega
     clear hPc;have hsl:jQ q d l=if q.acts≠[]then some ⟨q.names,q.homes,DJ q.acts (g6 l)⟩else none:=by
      rw[jQ,J,if_neg (λh=>absurd (HM.out.symm.trans h.1) δ),if_neg (λh=>absurd (HM.out.symm.trans h.1) δ)];by_cases h:q.acts≠[]
      .rw[if_pos ⟨HM.out,S,h⟩,if_pos h]
      .rw[if_neg (λh2=>h h2.2.2),if_neg h]
     rcases(by omega:Ln=0\/0<Ln)with hL0 |hL0
     .have hnil:q.acts=[]:=List.length_eq_zero_iff.1 (U.trans hL0);subst hL0
      gi_wp2_with (simp only[z,C,H,qBf,qBt])
      show LeavesInM (FW none) 0 Tryz.prog Tryz.f39 _ _ [] .returning _;exact⟨_,results_tmp (t:=4) rfl _ _ _,HF.out (by rw[Y6,I,qOb,hsl,if_neg (λh=>h hnil)]) _ f⟩
     obtain⟨es,xa,hes⟩:∃es xa,q.acts=es++[xa]:=by
      rcases List.eq_nil_or_concat q.acts with h |⟨l',a,h⟩
      .rw[h]at U;simp at U;omega
      .exact⟨l',a,by rw[h,List.concat_eq_append]⟩
     have hel:es.length<=1000000:=by rw[hes]at U;simp at U;omega
     have hmx:xa.dG.length+1<=1000000:=by have:=(Z.act xa (by rw[hes];simp)).1;omega
     have hstep:WO q d=some ⟨q.names,q.homes,DJ q.acts (g6 l)⟩:=by rw[Y6,I,qOb,hsl,if_pos (by rw[hes];simp)]
     gi_wp2_with (simp only[z,C,H,qBf,qBt])
     rename_i K3 hK3;refine ag7 hes hel (by rfl) (by rfl) v ?_;intro a4 ga ha4 hd4 PZ h12 aqO;refine hK3 _ _ ?_;apply wpIn_seq_k;intro K4 hK4;refine ag8 (w0:={W3 with drawn:=W3.drawn+1}) (y:=g6 l) hes ha4 h12 ((PZ 10 ω ω).trans rfl) δ (E 0 δ) (E 1 δ) (E 2 δ) (E 3 δ) (E 4 δ) (E 5 δ) Ob (aqO.grows λ_ _=>rfl) (by show B<=W3.heap.size;omega) hmx ?_;intro a5 W5 X4 N qV A P;obtain⟨u',hu',rfl⟩:=tV a5 (n:=146) (X4.trans ha4) (N.trans hd4);have HN:=HY.out _ hstep W3 W5 _ f P.drew A λb h=>h;clear v A P qV X4 N;rw[ae6];simp only[List.map_cons,List.map_nil]
     gi_wp2
     show LeavesInM (FW none) 0 Tryz.prog Tryz.f39 _ _ [] .returning _;exact⟨_,results_tmp (t:=4) rfl _ _ _,HN⟩
  have z:((ba w0).toList==[97,105,114,99,114,97,102,116])=false:=by rw[kW];exact decide_eq_false hk
  have C:((ba w0).toList==[97,99,116])=false:=by rw[kW];exact decide_eq_false hk2
  have H:((ba w0).toList==[109,111,118,101])=false:=by rw[kW];exact decide_eq_false hk3
  dsimp only
  gi_wp2_with (simp only[z,C,H,qBf,qBt])
  show LeavesInM (FW none) 0 Tryz.prog Tryz.f39 _ _ [] .returning _;exact⟨_,results_tmp (t:=4) rfl _ _ _,HF.out (by rw[WO,J,if_neg hk,if_neg hk2,if_neg hk3]) _ (Below.refl _ _)⟩
end
end Go.Skm.Prg
namespace Go.Proofs
open Go.Shelf
theorem tSS{α:Type}{x:Option α}{a b:α}(h:x=some a)(e:a=b):x=some b:=h.trans (congrArg some e)
def Tryz.lays156_ren:Go.Shelf.Ren:=⟨λ|156=>103 |165=>127 |166=>102 |169=>65 |240=>126 |241=>154 |276=>153 |277=>178 |n=>n,λ|31=>22 |9=>9 |3=>3 |4=>4 |0=>0 |20=>20 |72=>123 |76=>163 |70=>120 |37=>121 |75=>162 |127=>166 |164=>211 |5=>5 |80=>83 |n=>n,λ|n=>n⟩
theorem Tryz.lays156:Go.Proofs.Lays.n156 Tryz.prog Tryz.lays156_ren:={
 mixed:=τ
 f156:=tSS Tryz.func103 τ
 f165:=tSS Tryz.func127 τ
 f166:=tSS Tryz.func102 τ
 f169:=tSS Tryz.func65 τ
 f240:=tSS Tryz.func126 τ
 f241:=tSS Tryz.func154 τ
 f276:=tSS Tryz.func153 τ
 f277:=tSS Tryz.func178 τ
 t0:=Tryz.underlying0
 a0:=Tryz.isAgg0
 z0:=Tryz.sizeOf0
 v0:=Tryz.zeroValue0
 t3:=Tryz.underlying3
 a3:=Tryz.isAgg3
 z3:=Tryz.sizeOf3
 v3:=Tryz.zeroValue3
 t4:=Tryz.underlying4
 a4:=Tryz.isAgg4
 z4:=Tryz.sizeOf4
 v4:=Tryz.zeroValue4
 t9:=Tryz.underlying9
 a9:=Tryz.isAgg9
 z9:=Tryz.sizeOf9
 v9:=Tryz.zeroValue9
 t20:=Tryz.underlying20
 a20:=Tryz.isAgg20
 z20:=Tryz.sizeOf20
 v20:=Tryz.zeroValue20
 t31:=Tryz.underlying22
 a31:=Tryz.isAgg22
 z31:=Tryz.sizeOf22
 v31:=Tryz.zeroValue22
 t37:=Tryz.underlying121
 a37:=Tryz.isAgg121
 z37:=Tryz.sizeOf121
 v37:=Tryz.zeroValue121
 t70:=Tryz.underlying120
 a70:=Tryz.isAgg120
 z70:=Tryz.sizeOf120
 v70:=Tryz.zeroValue120
 t72:=Tryz.underlying123
 a72:=Tryz.isAgg123
 z72:=Tryz.sizeOf123
 v72:=Tryz.zeroValue123
 t75:=Tryz.underlying162
 a75:=Tryz.isAgg162
 z75:=Tryz.sizeOf162
 v75:=Tryz.zeroValue162
 t76:=Tryz.underlying163
 a76:=Tryz.isAgg163
 z76:=Tryz.sizeOf163
 v76:=Tryz.zeroValue163
 t127:=Tryz.underlying166
 a127:=Tryz.isAgg166
 z127:=Tryz.sizeOf166
 v127:=Tryz.zeroValue166
 t164:=Tryz.underlying211
 a164:=Tryz.isAgg211
 z164:=Tryz.sizeOf211
 v164:=Tryz.zeroValue211}
theorem Tryz.Builder_Extra_156:Builder.Extra Tryz.prog Tryz.lays156_ren:={
 sizeBuilder:=τ
 liesBuilder:=τ
 t5:=Tryz.underlying5
 a5:=Tryz.isAgg5
 z5:=Tryz.sizeOf5
 v5:=Tryz.zeroValue5
 infoByte:=τ
 cellsByte:=τ
 sizeByte:=τ
 neB5:=δ}
def Tryz.U8:Go.Shelf.Ren:=⟨λ|171=>101 |243=>125 |246=>152 |283=>174 |284=>175 |285=>176 |286=>177 |129=>188 |317=>196 |318=>197 |319=>198 |320=>199 |337=>207 |338=>208 |n=>n,λ|3=>3 |9=>9 |2=>2 |4=>4 |171=>231 |0=>0 |53=>172 |37=>121 |5=>5 |173=>233 |212=>254 |51=>255 |20=>20 |213=>256 |46=>149 |232=>272 |233=>273 |n=>n,λ|17=>3 |18=>8 |19=>9 |n=>n⟩
theorem Tryz.laysM171:Go.Proofs.LaysM.n171 Tryz.prog Tryz.U8:={
 mixed:=τ
 f129:=tSS Tryz.func188 τ
 f171:=tSS Tryz.func101 τ
 f243:=tSS Tryz.func125 τ
 f246:=tSS Tryz.func152 τ
 f283:=tSS Tryz.func174 τ
 f284:=tSS Tryz.func175 τ
 f285:=tSS Tryz.func176 τ
 f286:=tSS Tryz.func177 τ
 f317:=tSS Tryz.func196 τ
 f318:=tSS Tryz.func197 τ
 f319:=tSS Tryz.func198 τ
 f320:=tSS Tryz.func199 τ
 f337:=tSS Tryz.func207 τ
 f338:=tSS Tryz.func208 τ
 t0:=Tryz.underlying0
 a0:=Tryz.isAgg0
 z0:=Tryz.sizeOf0
 v0:=Tryz.zeroValue0
 t2:=Tryz.underlying2
 a2:=Tryz.isAgg2
 z2:=Tryz.sizeOf2
 v2:=Tryz.zeroValue2
 t3:=Tryz.underlying3
 a3:=Tryz.isAgg3
 z3:=Tryz.sizeOf3
 v3:=Tryz.zeroValue3
 t4:=Tryz.underlying4
 a4:=Tryz.isAgg4
 z4:=Tryz.sizeOf4
 v4:=Tryz.zeroValue4
 t5:=Tryz.underlying5
 a5:=Tryz.isAgg5
 z5:=Tryz.sizeOf5
 v5:=Tryz.zeroValue5
 t9:=Tryz.underlying9
 a9:=Tryz.isAgg9
 z9:=Tryz.sizeOf9
 v9:=Tryz.zeroValue9
 t20:=Tryz.underlying20
 a20:=Tryz.isAgg20
 z20:=Tryz.sizeOf20
 v20:=Tryz.zeroValue20
 t37:=Tryz.underlying121
 a37:=Tryz.isAgg121
 z37:=Tryz.sizeOf121
 v37:=Tryz.zeroValue121
 t46:=Tryz.underlying149
 a46:=Tryz.isAgg149
 z46:=Tryz.sizeOf149
 v46:=Tryz.zeroValue149
 t51:=Tryz.underlying255
 a51:=Tryz.isAgg255
 z51:=Tryz.sizeOf255
 v51:=Tryz.zeroValue255
 t53:=Tryz.underlying172
 a53:=Tryz.isAgg172
 z53:=Tryz.sizeOf172
 v53:=Tryz.zeroValue172
 t171:=Tryz.underlying231
 a171:=Tryz.isAgg231
 z171:=Tryz.sizeOf231
 v171:=Tryz.zeroValue231
 t173:=Tryz.underlying233
 a173:=Tryz.isAgg233
 z173:=Tryz.sizeOf233
 v173:=Tryz.zeroValue233
 t212:=Tryz.underlying254
 a212:=Tryz.isAgg254
 z212:=Tryz.sizeOf254
 v212:=Tryz.zeroValue254
 t213:=Tryz.underlying256
 a213:=Tryz.isAgg256
 z213:=Tryz.sizeOf256
 t232:=Tryz.underlying272
 a232:=Tryz.isAgg272
 z232:=Tryz.sizeOf272
 v232:=Tryz.zeroValue272
 t233:=Tryz.underlying273
 a233:=Tryz.isAgg273
 z233:=Tryz.sizeOf273
 v233:=Tryz.zeroValue273
 g17:=τ
 g18:=τ
 g19:=τ
 i0:=τ
 i2:=τ
 i3:=τ
 i4:=τ
 i5:=τ
 i9:=τ
 i20:=τ
 i37:=τ
 i46:=τ
 i51:=τ
 i53:=τ
 i171:=τ
 i173:=τ
 i212:=τ
 i232:=τ
 i233:=τ
 m17:=τ
 m18:=τ
 m19:=τ}
def Tryz.U9:Go.Shelf.Ren:=⟨λ|172=>108 |244=>132 |245=>133 |247=>159 |279=>160 |280=>161 |281=>162 |282=>163 |287=>183 |316=>184 |171=>101 |205=>185 |321=>201 |322=>202 |243=>125 |246=>152 |283=>174 |284=>175 |285=>176 |286=>177 |129=>188 |317=>196 |318=>197 |319=>198 |320=>199 |337=>207 |338=>208 |n=>n,λ|9=>9 |3=>3 |75=>162 |76=>163 |4=>4 |5=>5 |167=>216 |37=>121 |0=>0 |85=>217 |2=>2 |168=>219 |53=>172 |175=>237 |46=>149 |210=>241 |127=>166 |145=>267 |143=>265 |21=>21 |171=>231 |173=>233 |212=>254 |51=>255 |20=>20 |213=>256 |232=>272 |233=>273 |80=>83 |n=>n,λ|15=>1 |16=>2 |17=>3 |18=>8 |19=>9 |n=>n⟩
theorem Tryz.laysC172:Go.Proofs.LaysC.n172 Tryz.prog Tryz.U9:={
 mixed:=τ
 f129:=tSS Tryz.func188 τ
 f171:=tSS Tryz.func101 τ
 f172:=tSS Tryz.func108 τ
 f205:=tSS Tryz.func185 τ
 f243:=tSS Tryz.func125 τ
 f244:=tSS Tryz.func132 τ
 f245:=tSS Tryz.func133 τ
 f246:=tSS Tryz.func152 τ
 f247:=tSS Tryz.func159 τ
 f279:=tSS Tryz.func160 τ
 f280:=tSS Tryz.func161 τ
 f281:=tSS Tryz.func162 τ
 f282:=tSS Tryz.func163 τ
 f283:=tSS Tryz.func174 τ
 f284:=tSS Tryz.func175 τ
 f285:=tSS Tryz.func176 τ
 f286:=tSS Tryz.func177 τ
 f287:=tSS Tryz.func183 τ
 f316:=tSS Tryz.func184 τ
 f317:=tSS Tryz.func196 τ
 f318:=tSS Tryz.func197 τ
 f319:=tSS Tryz.func198 τ
 f320:=tSS Tryz.func199 τ
 f321:=tSS Tryz.func201 τ
 f322:=tSS Tryz.func202 τ
 f337:=tSS Tryz.func207 τ
 f338:=tSS Tryz.func208 τ
 t0:=Tryz.underlying0
 a0:=Tryz.isAgg0
 z0:=Tryz.sizeOf0
 v0:=Tryz.zeroValue0
 t2:=Tryz.underlying2
 a2:=Tryz.isAgg2
 z2:=Tryz.sizeOf2
 v2:=Tryz.zeroValue2
 t3:=Tryz.underlying3
 a3:=Tryz.isAgg3
 z3:=Tryz.sizeOf3
 v3:=Tryz.zeroValue3
 t4:=Tryz.underlying4
 a4:=Tryz.isAgg4
 z4:=Tryz.sizeOf4
 v4:=Tryz.zeroValue4
 t5:=Tryz.underlying5
 a5:=Tryz.isAgg5
 z5:=Tryz.sizeOf5
 v5:=Tryz.zeroValue5
 t9:=Tryz.underlying9
 a9:=Tryz.isAgg9
 z9:=Tryz.sizeOf9
 v9:=Tryz.zeroValue9
 t20:=Tryz.underlying20
 a20:=Tryz.isAgg20
 z20:=Tryz.sizeOf20
 v20:=Tryz.zeroValue20
 t21:=Tryz.underlying21
 a21:=Tryz.isAgg21
 z21:=Tryz.sizeOf21
 v21:=Tryz.zeroValue21
 t37:=Tryz.underlying121
 a37:=Tryz.isAgg121
 z37:=Tryz.sizeOf121
 v37:=Tryz.zeroValue121
 t46:=Tryz.underlying149
 a46:=Tryz.isAgg149
 z46:=Tryz.sizeOf149
 v46:=Tryz.zeroValue149
 t51:=Tryz.underlying255
 a51:=Tryz.isAgg255
 z51:=Tryz.sizeOf255
 v51:=Tryz.zeroValue255
 t53:=Tryz.underlying172
 a53:=Tryz.isAgg172
 z53:=Tryz.sizeOf172
 v53:=Tryz.zeroValue172
 t75:=Tryz.underlying162
 a75:=Tryz.isAgg162
 z75:=Tryz.sizeOf162
 v75:=Tryz.zeroValue162
 t76:=Tryz.underlying163
 a76:=Tryz.isAgg163
 z76:=Tryz.sizeOf163
 v76:=Tryz.zeroValue163
 t85:=Tryz.underlying217
 a85:=Tryz.isAgg217
 z85:=Tryz.sizeOf217
 v85:=Tryz.zeroValue217
 t127:=Tryz.underlying166
 a127:=Tryz.isAgg166
 z127:=Tryz.sizeOf166
 v127:=Tryz.zeroValue166
 t143:=Tryz.underlying265
 a143:=Tryz.isAgg265
 z143:=Tryz.sizeOf265
 v143:=Tryz.zeroValue265
 t145:=Tryz.underlying267
 a145:=Tryz.isAgg267
 z145:=Tryz.sizeOf267
 v145:=Tryz.zeroValue267
 t167:=Tryz.underlying216
 a167:=Tryz.isAgg216
 z167:=Tryz.sizeOf216
 v167:=Tryz.zeroValue216
 t168:=Tryz.underlying219
 a168:=Tryz.isAgg219
 z168:=Tryz.sizeOf219
 v168:=Tryz.zeroValue219
 t171:=Tryz.underlying231
 a171:=Tryz.isAgg231
 z171:=Tryz.sizeOf231
 v171:=Tryz.zeroValue231
 t173:=Tryz.underlying233
 a173:=Tryz.isAgg233
 z173:=Tryz.sizeOf233
 v173:=Tryz.zeroValue233
 t175:=Tryz.underlying237
 a175:=Tryz.isAgg237
 z175:=Tryz.sizeOf237
 v175:=Tryz.zeroValue237
 t210:=Tryz.underlying241
 a210:=Tryz.isAgg241
 z210:=Tryz.sizeOf241
 v210:=Tryz.zeroValue241
 t212:=Tryz.underlying254
 a212:=Tryz.isAgg254
 z212:=Tryz.sizeOf254
 v212:=Tryz.zeroValue254
 t213:=Tryz.underlying256
 a213:=Tryz.isAgg256
 z213:=Tryz.sizeOf256
 t232:=Tryz.underlying272
 a232:=Tryz.isAgg272
 z232:=Tryz.sizeOf272
 v232:=Tryz.zeroValue272
 t233:=Tryz.underlying273
 a233:=Tryz.isAgg273
 z233:=Tryz.sizeOf273
 v233:=Tryz.zeroValue273
 g15:=τ
 g16:=τ
 g17:=τ
 g18:=τ
 g19:=τ
 t80:=Tryz.underlying83
 a80:=Tryz.isAgg83
 z80:=Tryz.sizeOf83
 v80:=Tryz.zeroValue83
 i0:=τ
 i2:=τ
 i3:=τ
 i4:=τ
 i5:=τ
 i9:=τ
 i20:=τ
 i21:=τ
 i37:=τ
 i46:=τ
 i51:=τ
 i53:=τ
 i75:=τ
 i76:=τ
 i80:=τ
 i85:=τ
 i127:=τ
 i143:=τ
 i145:=τ
 i167:=τ
 i168:=τ
 i171:=τ
 i173:=τ
 i175:=τ
 i210:=τ
 i212:=τ
 i232:=τ
 i233:=τ
 m15:=τ
 m16:=τ
 m17:=τ
 m18:=τ
 m19:=τ
 c0:=τ
 c2:=τ
 c3:=τ
 c4:=τ
 c5:=τ
 c9:=τ
 c20:=τ
 c21:=τ
 c37:=τ
 c46:=τ
 c51:=τ
 c53:=τ
 c75:=τ
 c76:=τ
 c80:=τ
 c85:=τ
 c127:=τ
 c143:=τ
 c145:=τ
 c167:=τ
 c168:=τ
 c171:=τ
 c173:=τ
 c175:=τ
 c210:=τ
 c212:=τ
 c213:=τ
 c232:=τ
 c233:=τ}
def Tryz.Va:Go.Shelf.Ren:=⟨λ|146=>74 |221=>107 |268=>129 |138=>130 |143=>131 |195=>155 |197=>156 |218=>157 |219=>158 |260=>179 |217=>106 |225=>180 |224=>181 |267=>182 |266=>128 |314=>200 |n=>n,λ|9=>9 |31=>22 |3=>3 |4=>4 |0=>0 |105=>214 |21=>21 |5=>5 |46=>149 |119=>258 |139=>261 |138=>260 |146=>262 |51=>255 |n=>n,λ|1=>0 |3=>4 |4=>5 |n=>n⟩
theorem Tryz.laysM146:Go.Proofs.LaysM.n146 Tryz.prog Tryz.Va:={
 mixed:=τ
 f138:=tSS Tryz.func130 τ
 f143:=tSS Tryz.func131 τ
 f146:=tSS Tryz.func74 τ
 f195:=tSS Tryz.func155 τ
 f197:=tSS Tryz.func156 τ
 f217:=tSS Tryz.func106 τ
 f218:=tSS Tryz.func157 τ
 f219:=tSS Tryz.func158 τ
 f221:=tSS Tryz.func107 τ
 f224:=tSS Tryz.func181 τ
 f225:=tSS Tryz.func180 τ
 f260:=tSS Tryz.func179 τ
 f266:=tSS Tryz.func128 τ
 f267:=tSS Tryz.func182 τ
 f268:=tSS Tryz.func129 τ
 f314:=tSS Tryz.func200 τ
 t0:=Tryz.underlying0
 a0:=Tryz.isAgg0
 z0:=Tryz.sizeOf0
 v0:=Tryz.zeroValue0
 t3:=Tryz.underlying3
 a3:=Tryz.isAgg3
 z3:=Tryz.sizeOf3
 v3:=Tryz.zeroValue3
 t4:=Tryz.underlying4
 a4:=Tryz.isAgg4
 z4:=Tryz.sizeOf4
 v4:=Tryz.zeroValue4
 t5:=Tryz.underlying5
 a5:=Tryz.isAgg5
 z5:=Tryz.sizeOf5
 v5:=Tryz.zeroValue5
 t9:=Tryz.underlying9
 a9:=Tryz.isAgg9
 z9:=Tryz.sizeOf9
 v9:=Tryz.zeroValue9
 t21:=Tryz.underlying21
 a21:=Tryz.isAgg21
 z21:=Tryz.sizeOf21
 v21:=Tryz.zeroValue21
 t31:=Tryz.underlying22
 a31:=Tryz.isAgg22
 z31:=Tryz.sizeOf22
 v31:=Tryz.zeroValue22
 t46:=Tryz.underlying149
 a46:=Tryz.isAgg149
 z46:=Tryz.sizeOf149
 v46:=Tryz.zeroValue149
 t51:=Tryz.underlying255
 a51:=Tryz.isAgg255
 z51:=Tryz.sizeOf255
 v51:=Tryz.zeroValue255
 t105:=Tryz.underlying214
 a105:=Tryz.isAgg214
 z105:=Tryz.sizeOf214
 v105:=Tryz.zeroValue214
 t119:=Tryz.underlying258
 a119:=Tryz.isAgg258
 z119:=Tryz.sizeOf258
 t138:=Tryz.underlying260
 a138:=Tryz.isAgg260
 z138:=Tryz.sizeOf260
 v138:=Tryz.zeroValue260
 t139:=Tryz.underlying261
 a139:=Tryz.isAgg261
 z139:=Tryz.sizeOf261
 v139:=Tryz.zeroValue261
 t146:=Tryz.underlying262
 a146:=Tryz.isAgg262
 z146:=Tryz.sizeOf262
 v146:=Tryz.zeroValue262
 g1:=τ
 g3:=τ
 g4:=τ
 i0:=τ
 i3:=τ
 i4:=τ
 i5:=τ
 i9:=τ
 i21:=τ
 i31:=τ
 i46:=τ
 i51:=τ
 i105:=τ
 i138:=τ
 i139:=τ
 i146:=τ
 m1:=τ
 s1_3:=λw h=>Go.Proofs.cell_of_shapedOpen_int (zero:=#[.int .i64 0]) (t:=3) h (of_decide_eq_true τ) τ rfl τ τ Tryz.underlying3
 m3:=τ
 m4:=τ}
def Tryz.Xo:Go.Shelf.Ren:=⟨λ|137=>73 |217=>106 |266=>128 |n=>n,λ|9=>9 |5=>5 |3=>3 |n=>n,λ|n=>n⟩
theorem Tryz.lays137:Go.Proofs.Lays.n137 Tryz.prog Tryz.Xo:={
 mixed:=τ
 f137:=tSS Tryz.func73 τ
 f217:=tSS Tryz.func106 τ
 f266:=tSS Tryz.func128 τ
 t3:=Tryz.underlying3
 a3:=Tryz.isAgg3
 z3:=Tryz.sizeOf3
 v3:=Tryz.zeroValue3
 t5:=Tryz.underlying5
 a5:=Tryz.isAgg5
 z5:=Tryz.sizeOf5
 v5:=Tryz.zeroValue5
 t9:=Tryz.underlying9
 a9:=Tryz.isAgg9
 z9:=Tryz.sizeOf9
 v9:=Tryz.zeroValue9}
def Tryz.Dz:Go.Shelf.Ren:=⟨λ|41=>63 |n=>n,λ|22=>70 |23=>82 |4=>4 |n=>n,λ|n=>n⟩
theorem Tryz.Xi:Go.Proofs.SlLaysE0.n41 Tryz.prog Tryz.Dz:={
 mixed:=τ
 f41:=⟨Tryz.f63.name,δ,tSS Tryz.func63 τ⟩
 t4:=Tryz.underlying4
 a4:=Tryz.isAgg4
 z4:=Tryz.sizeOf4
 v4:=Tryz.zeroValue4
 t22:=Tryz.underlying70
 a22:=Tryz.isAgg70
 z22:=Tryz.sizeOf70
 v22:=Tryz.zeroValue70}
def Tryz.DC:Go.Shelf.Ren:=⟨λ|41=>99 |n=>n,λ|22=>22 |23=>9 |4=>4 |n=>n,λ|n=>n⟩
theorem Tryz.Xj:Go.Proofs.SlLaysE0.n41 Tryz.prog Tryz.DC:={
 mixed:=τ
 f41:=⟨Tryz.f99.name,δ,tSS Tryz.func99 τ⟩
 t4:=Tryz.underlying4
 a4:=Tryz.isAgg4
 z4:=Tryz.sizeOf4
 v4:=Tryz.zeroValue4
 t22:=Tryz.underlying22
 a22:=Tryz.isAgg22
 z22:=Tryz.sizeOf22
 v22:=Tryz.zeroValue22}
def Tryz.DF:Go.Shelf.Ren:=⟨λ|41=>81 |n=>n,λ|22=>23 |23=>66 |4=>4 |n=>n,λ|n=>n⟩
theorem Tryz.Xk:Go.Proofs.SlLaysE0.n41 Tryz.prog Tryz.DF:={
 mixed:=τ
 f41:=⟨Tryz.f81.name,δ,tSS Tryz.func81 τ⟩
 t4:=Tryz.underlying4
 a4:=Tryz.isAgg4
 z4:=Tryz.sizeOf4
 v4:=Tryz.zeroValue4
 t22:=Tryz.underlying23
 a22:=Tryz.isAgg23
 z22:=Tryz.sizeOf23
 v22:=Tryz.zeroValue23}
def Tryz.AX:Go.Shelf.Ren:=⟨λ|41=>100 |n=>n,λ|22=>24 |23=>72 |4=>4 |n=>n,λ|n=>n⟩
theorem Tryz.U6:Go.Proofs.SlLaysE0.n41 Tryz.prog Tryz.AX:={
 mixed:=τ
 f41:=⟨Tryz.f100.name,δ,tSS Tryz.func100 τ⟩
 t4:=Tryz.underlying4
 a4:=Tryz.isAgg4
 z4:=Tryz.sizeOf4
 v4:=Tryz.zeroValue4
 t22:=Tryz.underlying24
 a22:=Tryz.isAgg24
 z22:=Tryz.sizeOf24
 v22:=Tryz.zeroValue24}
end Go.Proofs
