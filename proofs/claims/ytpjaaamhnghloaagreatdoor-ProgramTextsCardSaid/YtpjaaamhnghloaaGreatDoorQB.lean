import Derived.Test.YtpjaaamhnghloaaGreatDoorQA
set_option linter.all false
namespace Go.Skm.Prg
open Go Go.Skm Go.Proofs Go.RowKit Go.Shelf
variable {W w:World}{Pb b:Nat}{D:Nat->Prop}{x0 x1 y0 y1 y2:Value}
theorem Bv(rd:Option Nat):(FW rd).round=rd:=rfl
attribute [local go_sem] Oper.semAt_some Bv
set_option maxRecDepth 100000 in
theorem abn:List.range 165=[0,1,2,3,4,5,6,7,8,9,10,11,12,13,14,15,16,17,18,19,20,21,22,23,24,25,26,27,28,29,30,31,32,33,34,35,36,37,38,39,40,41,42,43,44,45,46,47,48,49,50,51,52,53,54,55,56,57,58,59,60,61,62,63,64,65,66,67,68,69,70,71,72,73,74,75,76,77,78,79,80,81,82,83,84,85,86,87,88,89,90,91,92,93,94,95,96,97,98,99,100,101,102,103,104,105,106,107,108,109,110,111,112,113,114,115,116,117,118,119,120,121,122,123,124,125,126,127,128,129,130,131,132,133,134,135,136,137,138,139,140,141,142,143,144,145,146,147,148,149,150,151,152,153,154,155,156,157,158,159,160,161,162,163,164]:=rfl
theorem tV(a:Act){n:Nat}(h:a.tmps.size=n)(hd:a.defers=[]):∃u:Nat->Value,(∀i,a.tmps.getD i undef=u i)/\a={tmps:=((List.range n).map u).toArray,defers:=[]}:=by
 refine⟨λi=>a.tmps.getD i undef,λ_=>rfl,?_⟩;cases a with
 |mk t d=>
  simp only at hd h;subst hd;rw[Act.mk.injEq];refine⟨?_,rfl⟩;apply Array.ext
  .simp[h]
  .intro i c e;simp[Array.getD,c]
theorem aqI(W:World)(p q:Array Value){W1:World}(a:Below ((W.alloc (Obj.cells p 26)).alloc (Obj.cells q 26)).heap.size ((W.alloc (Obj.cells p 26)).alloc (Obj.cells q 26)) W1) :
    W1.heap[W.heap.size]?=some (.cells p 26 (0,0))/\W1.heap[W.heap.size+1]?=some (.cells q 26 (0,0))/\Below W.heap.size W W1:=by
  have c:((W.alloc (Obj.cells p 26)).alloc (Obj.cells q 26)).heap.size=W.heap.size+2:=σ
  refine⟨(a.block _ ω).trans ?_,(a.block _ ω).trans ?_,(((Below.refl _ W).alloc (qNr _) _).alloc σ _).trans (a.mono ω)⟩
  .rw[Below.heap_alloc _ _ _ σ];exact World.alloc_heap_new W _
  .have:=World.alloc_heap_new (W.alloc (Obj.cells p 26)) (Obj.cells q 26);rw[World.size_alloc]at this;exact this
theorem ae3(h:W.heap[Pb]?=some (.cells #[.slice none 0 0,.slice none 0 0,.slice none 0 0] 26 (0,0))):St W Pb Pb D ⟨[],[],[]⟩:=by
 refine⟨.slice none 0 0,.slice none 0 0,.slice none 0 0,[],⟨h,qNr _,λr a=>?_,?_⟩,rfl,λb c=>?_⟩
 .simp only[yP,List.map_nil,List.mem_cons,List.not_mem_nil,or_false]at a;rcases a with rfl|rfl|rfl<;>exact World.ownsRow_nil ..
 .simp[yP,Jb,JC,wo,ZA,Value.ownBlock]
 .rcases c with e |e |e |⟨p,hp,_⟩
  .cases e
  .cases e
  .cases e
  .cases hp
theorem abo(a:ByteArray):∀(n i:Nat) (r:List UInt8),i+n=a.size->ByteArray.toList.loop a i r=r.reverse++a.data.toList.drop i
 |0,i,r,h=>by have e:a.data.toList.length=a.size:=Array.length_toList;rw[ByteArray.toList.loop,if_neg ω,List.drop_eq_nil_of_le ω,List.append_nil]
 |n+1,i,r,h=>by
  have e:a.data.toList.length=a.size:=Array.length_toList;have hi:i<a.data.toList.length:=ω
  have c:a.get! i=a.data.toList[i]:=by show Eq (a.data[i]!) _;rw[getElem!_pos a.data i (by rw[Array.length_toList]at hi;exact hi)];simp only[Array.getElem_toList]
  rw[ByteArray.toList.loop,if_pos ω,abo a n (i+1) _ ω,List.reverse_cons,List.append_assoc,qLc hi,c];rfl
theorem ae4(l:List UInt8):(ba l).toList=l:=by rw[ByteArray.toList,abo _ l.length 0 [] (by show 0+l.length=l.toArray.size;rw[List.size_toArray,qNz])];rfl
theorem kW(l r:List UInt8):((ba l).toList==r)=decide (l=r):=by rw[ae4,Bool.eq_iff_iff,beq_iff_eq,qDa]
theorem Vw(h:W.heap[b]?=some (.cells #[y0,y1,y2] 26 (0,0))) :
    (W.cell? ⟨b,0,none⟩=some y0/\W.frozen? ⟨b,0,none⟩=false)/\((W.setCell ⟨b,0,none⟩ x0).cell? ⟨b,1,none⟩=some y1/\(W.setCell ⟨b,0,none⟩ x0).frozen? ⟨b,1,none⟩=false) /\
    (((W.setCell ⟨b,0,none⟩ x0).setCell ⟨b,1,none⟩ x1).cell? ⟨b,2,none⟩=some y2/\((W.setCell ⟨b,0,none⟩ x0).setCell ⟨b,1,none⟩ x1).frozen? ⟨b,2,none⟩=false):=by
  have a:=setCell_at (k:=0) x0 h;have c:=setCell_at (k:=1) x1 a;refine⟨⟨?_,?_⟩,⟨?_,?_⟩,?_,?_⟩
  all_goals first
   |(simp[World.cell?,c];done)
   |(simp[World.frozen?,c];done)
   |(simp[World.cell?,a];done)
   |(simp[World.frozen?,a];done)
   |(simp[World.cell?,h];done)
   |(simp[World.frozen?,h];done)
theorem cells3{x y z:Value}{t:TypeId}(h:W.heap[b]?=some (.cells #[x,y,z] t (0,0))):W.cell? ⟨b,0,none⟩=some x/\W.cell? ⟨b,1,none⟩=some y/\W.cell? ⟨b,2,none⟩=some z:=by refine⟨?_,?_,?_⟩<;>simp[World.cell?,h]
theorem ae5{x2:Value}(h:W.heap[b]?=some (.cells #[y0,y1,y2] 26 (0,0)))(d:x0.oneCell'=true)(c:x1.oneCell'=true)(a:x2.oneCell'=true) :
    (store ⟨b,0,none⟩ x0).run Tryz.prog W=.ok () (W.setCell ⟨b,0,none⟩ x0)/\(store ⟨b,1,none⟩ x1).run Tryz.prog (W.setCell ⟨b,0,none⟩ x0)=.ok () ((W.setCell ⟨b,0,none⟩ x0).setCell ⟨b,1,none⟩ x1) /\
    (store ⟨b,2,none⟩ x2).run Tryz.prog ((W.setCell ⟨b,0,none⟩ x0).setCell ⟨b,1,none⟩ x1)=.ok () (((W.setCell ⟨b,0,none⟩ x0).setCell ⟨b,1,none⟩ x1).setCell ⟨b,2,none⟩ x2):=by
  obtain⟨⟨c0,g⟩,⟨c1,f⟩,i,e⟩:=Vw (x0:=x0) (x1:=x1) h;refine⟨?_,?_,?_⟩
  .simp only[run_store Tryz.prog _ _ x0 .plain d,c0,g,Bool.false_eq_true,if_false]
  .simp only[run_store Tryz.prog _ _ x1 .plain c,c1,f,Bool.false_eq_true,if_false]
  .simp only[run_store Tryz.prog _ _ x2 .plain a,i,e,Bool.false_eq_true,if_false]
abbrev Ip(W:World)(b:Nat)(x0 x1 x2:Value):World:=((W.setCell ⟨b,0,none⟩ x0).setCell ⟨b,1,none⟩ x1).setCell ⟨b,2,none⟩ x2
theorem iO(x0 x1 x2:Value)(h:W.heap[b]?=some (.cells #[y0,y1,y2] 26 (0,0))) :
    (Ip W b x0 x1 x2).heap[b]?=some (.cells #[x0,x1,x2] 26 (0,0))/\(∀S,S<=b->Below S W (Ip W b x0 x1 x2))/\(∀c,c≠b->(Ip W b x0 x1 x2).heap[c]?=W.heap[c]?)/\(Ip W b x0 x1 x2).heap.size=W.heap.size:=by
  have e:=setCell_at (k:=2) x2 (setCell_at (k:=1) x1 (setCell_at (k:=0) x0 h));refine⟨by simpa using e,λS d=>(((Below.refl S W).setCell d _).setCell d _).setCell d _,λc a=>?_,by simp[Ip,World.setCell]⟩;exact((Below.heap_setCell _ _ _ c a).trans (Below.heap_setCell _ _ _ c a)).trans (Below.heap_setCell _ _ _ c a)
theorem Es{fn:Func}(h:fn.results=#[.cell 2 26,.tmp 3]){tmps:Array Value}{cs:Array Value}{v:Value}(f:tmps.getD 2 undef=.pointer (some ⟨b,0,none⟩))(e:tmps.getD 3 undef=v)(d:W.heap[b]?=some (.cells cs 26 (0,0)))(a:cs.size=3) :
    (results fn tmps).run Tryz.prog W=.ok (.tuple #[.agg cs,v]) W:=by
  have hi:(Tryz.prog.info? 26).map (·.size)=some cs.size:=by rw[a];kernel_rfl
  have c:=run_loadVar_row W b 26 26 cs (0,0) _ d Tryz.underlying26 rfl hi;rw[results_cell_tmp h,f,e];simp only[asAddr,Sem.run_pure,qRa,c]
theorem St.set{B g:Nat}{D':Nat->Prop}{q:Pg}(h:St W B Pb D q)(d:∀c,c≠g->w.heap[c]?=W.heap[c]?)(n:∀b,B<=b->b<W.heap.size->b≠Pb->D b->D' b)(o:g<B:=by omega):St w B Pb D' q:=by obtain⟨e,f,i,l,a,k,hd⟩:=(h.mono n).own;refine⟨e,f,i,l,⟨(d Pb (by have:=a.base;omega)).trans a.box,a.base,a.rows.keep λr j b m=>d b ?_⟩,k,hd⟩;have:=(a.rows.lt j m).1;omega
structure aqJ (w:World) (s:List UInt8) (bl ol cl:Nat) (k:Nat) (q:Pg) (a:Act) (W:World):Prop where
 size:a.tmps.size=165
 defers:a.defers=[]
 t0:a.tmps.getD 0 undef=.string (ba s)
 t2:a.tmps.getD 2 undef=.pointer (some ⟨w.heap.size,0,none⟩)
 t3:a.tmps.getD 3 undef=.int .i64 0
 t4:a.tmps.getD 4 undef=.pointer (some ⟨w.heap.size+1,0,none⟩)
 t5:a.tmps.getD 5 undef=.slice (some ⟨bl,ol,none⟩) (bG 10 s).length cl
 t6:a.tmps.getD 6 undef=.int .i64 (k:Int)
structure ZC (w:World) (s:List UInt8) (bl ol cl:Nat) (k:Nat) (q:Pg) (W:World):Prop where
 le:k<=(lY s).length
 low:Below w.heap.size w W
 st:St W (w.heap.size+1) (w.heap.size+1) (λb=>b≠bl) q
 lies:Lies W (yQ (bG 10 s)) (.slice (some ⟨bl,ol,none⟩) (bG 10 s).length cl) bl ol
 hbl:bl<w.heap.size\/w.heap.size+1<bl
 box:W.heap[w.heap.size]?=some (.cells #[.slice none 0 0,.slice none 0 0,.slice none 0 0] 26 (0,0))
 fold:iw rdR ⟨[],[],[]⟩ ((lY s).take k)=some q
def alR(w:World)(s:List UInt8)(bl ol cl:Nat)(a:Act)(W:World):Prop:=∃k q,aqJ w s bl ol cl k q a W/\ZC w s bl ol cl k q W
set_option maxRecDepth 100000 in
set_option maxHeartbeats 4000000 in
theorem X3{gl:Option (List (Nat × Obj))}{X:Ext}(hX:Mine X)(hC:dS Tryz.prog tab gl (run tab X))(hgl:∀p∈gl.getD [],p.1<w.heap.size/\w.heap[p.1]?=some p.2)(s:List UInt8)(hs:s.length<=100000)(hsm:∀q,iw rdR ⟨[],[],[]⟩ (lY s)=some q->Small q)(R:Ending->World->Prop)(hR1:N9 s=none->∀W',Below w.heap.size w W'->R (.returned (.tuple #[.agg #[.slice none 0 0,.slice none 0 0,.slice none 0 0],.int .i64 6])) W')
    (hR2:∀q,N9 s=some q->∀W' vn vh va,Below w.heap.size w W'->VR W' (λb=>w.heap.size<=b/\b<W'.heap.size) (eG q) (.agg #[vn,vh,va])->R (.returned (.tuple #[.agg #[vn,vh,va],.int .i64 0])) W') :
    Calls Tryz.prog 11 #[.string (ba s)] w R:=by
  have h41:(FW none).fn 41:=trivial;have h42:(FW none).fn 42:=trivial;have h8:(FW none).fn 8:=trivial;have h9:(FW none).fn 9:=trivial;refine jv (rd:=none) (n:=0) (callsIn_of_wp_marks Tryz.func11 rfl trivial ?_);simp only[Tryz.ntmps11,List.size_toArray,qLl,List.length_nil,Nat.reduceAdd,Nat.reduceSub,Array.replicate_succ,Array.replicate_zero,List.push_toArray,List.append_toArray,List.nil_append,List.cons_append]
  gi_wp2
  refine⟨rfl,(bW none (PY hX hC hgl 10 s ω (((Below.refl _ w).alloc (qNr _) _).alloc σ _))).mono ?_⟩;rintro e W1 ⟨c,bl,ol,rfl,hl1,hb1,hB1⟩;obtain⟨hP,hQ,hB0⟩:=aqI w _ _ hB1;obtain⟨⟨cl,rfl,hcl⟩,-,-⟩:=id hl1;have hlen:(yQ (bG 10 s)).length=(bG 10 s).length:=by simp[yQ]
  rw[hlen]at hl1 hcl ⊢;have hsz:w.heap.size+2<=W1.heap.size:=by have:=hB1.size;simpa using this
  have hbl:bl<w.heap.size\/w.heap.size+1<bl:=by
   rcases hb1 with h |h
   .exact .inl h
   .simp at h;exact .inr ω
  have hown:St W1 (w.heap.size+1) (w.heap.size+1) (λb=>b≠bl) ⟨[],[],[]⟩:=ae3 hQ;have HS:Hid (ZC w s bl ol cl 0 ⟨[],[],[]⟩ W1):=⟨Nat.zero_le _,hB0,hown,hl1,hbl,hP,rfl⟩;clear hB1 hb1 hB0 hP hQ hown hl1 hcl hlen hsz hbl;dsimp only
  gi_wp2
  refine wpIn_loop (alR w s bl ol cl) (λa _=>(bG 10 s).length-(intOf (a.tmps.getD 6 undef)).toNat) ?_ ?_
  .exact⟨0,_,⟨rfl,rfl,rfl,rfl,rfl,rfl,rfl,rfl⟩,HS.out⟩
  clear HS;rintro a wr ⟨k,q,⟨e1,e2,t0,t2,t3,t4,t5,t6⟩,hin⟩;obtain⟨u,hu,rfl⟩:=tV a e1 e2;rw[hu]at t0 t2 t3 t4 t5 t6;rw[abn];simp only[List.map_cons,List.map_nil,t0,t2,t3,t4,t5,t6];clear e1 e2 t0 t2 t3 t4 t5 t6 hu;have HI:Hid (ZC w s bl ol cl k q wr):=hin;obtain⟨n,hn⟩:∃n,(bG 10 s).length=n:=⟨_,rfl⟩;have hn1:n<=200000:=by rw[<-hn];have:=tX 10 s;omega
  have hlr:(lY s).length=n-1:=by rw[lY,List.length_dropLast,hn]
  have aub:k<=n-1:=by rw[<-hlr];exact hin.le
  have aoZ:IntKind.i64.wrap ((k:Int)+1)=((k+1:Nat):Int):=cZ k ω;rw[hn];clear hin;by_cases hkn:k+1<n
  .have hkl:k<(bG 10 s).length:=ω
   have hc:=HI.out.lies.at_ k (.string (ba (bG 10 s)[k])) (by simp[yQ,hkl]);obtain⟨x,hx⟩:∃x,(bG 10 s)[k]=x:=⟨_,rfl⟩;rw[hx]at hc
   gi_wp2
   have hxl:x.length<=100000:=by have:=wu (c:=10) (l:=s) (p:=x) (hx▸List.getElem_mem hkl);omega
   refine⟨rfl,(bW none (PY hX hC hgl 32 x ω HI.out.low)).mono ?_⟩;rintro e W2 ⟨c,b,o,rfl,K,hb2,H⟩;obtain⟨z,hwd⟩:∃z,bG 32 x=z:=⟨_,rfl⟩;have hwn:z≠[]:=hwd▸mO 32 x;have hwl:z.length<=1000000:=by rw[<-hwd];have:=tX 32 x;omega
   have hwp:∀p∈z,p.length<=1000000:=λp hp=>by have:=wu (c:=32) (l:=x) (p:=p) (hwd.symm▸hp);omega
   rw[hwd]at K;obtain⟨⟨cw,rfl,hcw⟩,-,hat⟩:=id K;have hlen:(yQ z).length=z.length:=by simp[yQ]
   rw[hlen]at K hcw ⊢;have hm1:1<=z.length:=List.length_pos_iff.2 hwn;have hc0:W2.cell? ⟨b,o,none⟩=some (.string (ba (z.headD []))):=hat 0 _ (by cases z with |nil=>exact absurd rfl hwn |cons y r=>rfl);obtain⟨m,hm⟩:∃m,z.length=m:=⟨_,rfl⟩;rw[hm]at K hcw hm1 hwl ⊢;clear hc hat hlen;have hlow2:Below w.heap.size w W2:=HI.out.low.trans (H.mono HI.out.low.size);have V:=HI.out.st.grow (D':=λx=>w.heap.size+1<=x/\x<wr.heap.size/\x≠bl) H λb' E S _ h4=>⟨E,S,h4⟩;have hPr:w.heap.size+1<wr.heap.size:=HI.out.st.lt.1;have ajq:=HI.out.lies.keep (H.block bl HI.out.lies.lt) H.size;have Et:=(H.block w.heap.size ω).trans HI.out.box;have hbD:¬(w.heap.size+1<=b/\b<wr.heap.size/\b≠bl):=by rintro ⟨E,S,_⟩;omega
   obtain⟨⟨c0,f0⟩,⟨c1,f1⟩,c2,f2⟩:=Vw (x0:=.slice none 0 0) (x1:=.slice none 0 0) Et;obtain⟨w0,P⟩:∃w0,z.headD []=w0:=⟨_,rfl⟩;rw[P]at hc0;have hkr:k<(lY s).length:=ω
   have hxr:(lY s)[k]=x:=by rw[<-hx];simp[lY]
   have hfold:iw rdR ⟨[],[],[]⟩ ((lY s).take (k+1))=Vk q z:=by rw[Zy HI.out.fold hkr,hxr,rdR,hwd]
   have hno:Vk q z=none->N9 s=none:=λh=>by rw[N9,Zz (k:=k+1) (hfold.trans h)];rfl
   have MX:∀{W:World},Below W2.heap.size W2 W->Vk q z=none->R (.returned (.tuple #[.agg #[.slice none 0 0,.slice none 0 0,.slice none 0 0],.int .i64 6])) (Ip W w.heap.size (.slice none 0 0) (.slice none 0 0) (.slice none 0 0)):=λ{W} hW h=>hR1 (hno h) _ ((hlow2.trans (hW.mono hlow2.size)).trans ((iO _ _ _ ((hW.block w.heap.size (by have:=H.size;omega)).trans Et)).2.1 _ (qNr _)));have hsz:Sz q (mW ((lY s).take k)):=by have:=Ov aeG _ _ _ 0 HI.out.fold Vq;rwa[qNz]at this
   have aqK:mW ((lY s).take k)<=100001:=by have:=TU (lY s) k;have:=Vo s;omega
   have acI:=H.size;have auc:=HI.out.lies.lt;have aqL:=HI.out.hbl;have HX:Hid (∀{W3 Wb:World}{q':Pg}{D':Nat->Prop},Below W2.heap.size W2 W3->Kp W3 Wb (λx=>w.heap.size+1<=x/\x<wr.heap.size/\x≠bl) (w.heap.size+1)->St Wb (w.heap.size+1) (w.heap.size+1) D' q'->(∀b,D' b->(w.heap.size+1<=b/\b<wr.heap.size/\b≠bl)\/W3.heap.size<=b)->Vk q z=some q'->ZC w s bl ol cl (k+1) q' Wb):=by
    intro W3 Wb q' D' E S h3 h4 h5;have h1s:=E.size
    exact⟨ω,(hlow2.trans (E.mono hlow2.size)).trans (S.below (by have:=hlow2.size;omega) ω λb hb=>ω),h3.mono λb _ _ _ hb=>by rcases h4 b hb with h |h<;>omega,
     (ajq.keep (E.block bl ω) h1s).keep (S.block bl ω ω λh=>h.2.2 rfl) S.size,aqL,(S.block w.heap.size ω ω λh=>ω).trans ((E.block w.heap.size ω).trans Et),hfold.trans h5⟩
   by_cases hmv:w0=vZ
   .have HM:Hid (w0=vZ):=hmv;clear hmv;have Z:((ba w0).toList==[109,111,118,101])=true:=by rw[kW];exact decide_eq_true HM.out
    have C:((ba w0).toList==[97,105,114,99,114,97,102,116])=false:=by rw[kW];exact decide_eq_false (by rw[HM.out];decide)
    have J:((ba w0).toList==[97,99,116])=false:=by rw[kW];exact decide_eq_false (by rw[HM.out];decide)
    have hfw:DK z=1:=by rw[DK,P,if_pos HM.out]
    have hge:decide ((1:Int)<=(m:Int))=true:=decide_eq_true ω;rcases(by omega:cw=1\/¬cw=1)with hcw2 |hcw2
    all_goals
     dsimp only
     gi_wp2_with (simp only[Z,hge,qBf,qBt])
     refine⟨rfl,(bW none (Ue hX hC hgl z ω hwp hlow2 K.lt (k:=1) ?_)).mono ?_⟩
     .first
        |(have e:=K.strs (k:=1) ω (cw-1) ω;rw[hm]at e;exact e)
        |(rw[List.drop_eq_nil_of_le ω,show m-1=0 by omega];exact .iM _ _ _ _)
     rintro e W3 ⟨c,ai,cp,rfl,rfl,F,d⟩;obtain⟨on,hon⟩:∃on,qp (z.drop 1)=on:=⟨_,rfl⟩;rw[hon]at F ⊢;have hrd:Vk q z=on.bind (jQ q z):=by rw[Vk,hfw,if_pos ω,hon]
     have yg:Below w.heap.size w W3:=hlow2.trans (d.mono hlow2.size);have T:=(d.block w.heap.size ω).trans Et;obtain⟨⟨c0,f0⟩,⟨c1,f1⟩,c2,f2⟩:=Vw (x0:=.slice none 0 0) (x1:=.slice none 0 0) T;have hL3:=K.keep (d.block b K.lt) d.size;have hc0:W3.cell? ⟨b,o,none⟩=some (.string (ba w0)):=hL3.at_ 0 (.string (ba w0)) (by rw[<-P];cases z with |nil=>exact absurd rfl hwn |cons y r=>rfl);have RV:=d.size;cases on with
     |none=>
      simp only[Option.getD_none,Option.isSome_none,List.length_nil]
      gi_wp2
      show LeavesInM (FW none) 0 Tryz.prog Tryz.f11 _ _ [] .returning _;exact⟨_,Es rfl rfl rfl (iO _ _ _ T).1 rfl,MX d hrd⟩
     |some B=>
      simp only[Option.getD_some,Option.isSome_some]at F ⊢;obtain⟨j,hj⟩:∃j,B.length=j:=⟨_,rfl⟩;rw[hj];have A:=V.below d;have Vx:Vk q z=jQ q z B:=hrd;obtain⟨z0,d0,z1,d1,z2,d2,hPc⟩:=A.cells;have hP2:W3.cell? ⟨w.heap.size+1,2,none⟩=some (.slice z2 q.acts.length d2):=by simp[World.cell?,hPc]
      obtain⟨L,hLn⟩:∃L,q.acts.length=L:=⟨_,rfl⟩;rw[hLn]at hP2;have hLs:L<=100000:=by have:=hsz.acts;omega
      clear hPc;by_cases hok:j=6/\0<L
      .obtain⟨hj6,hL0⟩:=hok;subst hj6;obtain⟨es,xa,hes⟩:∃es xa,q.acts=es++[xa]:=by
        rcases List.eq_nil_or_concat q.acts with h |⟨l',a,h⟩
        .rw[h]at hLn;simp at hLn;omega
        .exact⟨l',a,by rw[h,List.concat_eq_append]⟩
       obtain⟨ec,hec⟩:∃ec,es.length=ec:=⟨_,rfl⟩;have hLe:L=ec+1:=by rw[<-hLn,hes,<-hec];simp
       subst hLe;have hwr:IntKind.i64.wrap (((ec+1:Nat):Int)-1)=(ec:Int):=by rw[show((ec+1:Nat):Int)-1=(ec:Int) by omega];exact wrap_eq ω ω
       have aug:IntKind.i64.wrap ((ec:Int)+1-1)=(ec:Int):=hwr;obtain⟨bi,oi,Q,hbi⟩:=F (by rintro rfl;simp at hj);obtain⟨_,hv,-⟩:=Q.val;obtain rfl:=(Value.slice.inj hv).1;clear hv F;have G:∀i,i<6->W3.cell? ⟨bi,oi+i,none⟩=some (.int .i64 (B.getD i 0)):=λi hi=>Q.at_ i _ (by
        have E:i<B.length:=ω
        simp[PX,E])
       have Ob:¬(w.heap.size+1<=bi/\bi<wr.heap.size/\bi≠bl):=by rintro ⟨E,S,_⟩;omega
       have hmx:xa.dG.length+1<=1000000:=by have:=(hsz.act xa (by rw[hes];simp)).1;omega
       have hstep:Vk q z=some ⟨q.names,q.homes,DJ q.acts (g6 B)⟩:=by rw[Vx,jQ,P,if_neg (λh=>absurd (HM.out.symm.trans h.1) δ),if_neg (λh=>absurd (HM.out.symm.trans h.1) δ),if_pos ⟨HM.out,hj,by rw[hes];simp⟩]
       gi_wp2_with (simp only[Z,C,J,qBf,qBt])
       refine ag5 (y:=g6 B) hes (by rfl) (by rfl) (by rw[hec];rfl) (by rfl) δ (G 0 δ) (G 1 δ) (G 2 δ) (G 3 δ) (G 4 δ) (G 5 δ) Ob A ω hmx ?_;intro O W5 X4 hd5 N I hK5;have HN:=HX.out d hK5 I (λb h=>h) hstep;have q0:O.tmps.getD 0 undef=.string (ba s):=N 0 ω;have q2:O.tmps.getD 2 undef=.pointer (some ⟨w.heap.size,0,none⟩):=N 2 ω;have q3:O.tmps.getD 3 undef=.int .i64 0:=N 3 ω;have q4:O.tmps.getD 4 undef=.pointer (some ⟨w.heap.size+1,0,none⟩):=N 4 ω;have q5:O.tmps.getD 5 undef=.slice (some ⟨bl,ol,none⟩) n cl:=N 5 ω;have q6:O.tmps.getD 6 undef=.int .i64 (k:Int):=N 6 ω;obtain⟨u',U,rfl⟩:=tV O (n:=165) X4 hd5;rw[U]at q0 q2 q3 q4 q5 q6;have HN':Hid (ZC w s bl ol cl (k+1) ⟨q.names,q.homes,DJ q.acts (g6 B)⟩ W5):=HN;clear G hc0 A I hK5 N X4 hd5 HN U c0 c1 c2 f0 f1 f2;rw[abn];simp only[List.map_cons,List.map_nil,q0,q2,q3,q4,q5,q6]
       gi_wp2
       refine⟨⟨k+1,_,⟨rfl,rfl,rfl,rfl,rfl,rfl,by rw[hn];rfl,rfl⟩,HN'.out⟩,?_⟩;show n-((k:Int)+1).toNat<n-(k:Int).toNat
       omega
      .have Y:jQ q z B=none:=by rw[jQ,P,hj,if_neg (λh=>absurd (HM.out.symm.trans h.1) δ),if_neg (λh=>absurd (HM.out.symm.trans h.1) δ),if_neg (λh=>hok ⟨h.2.1,by rw[<-hLn];exact List.length_pos_iff.2 h.2.2⟩)]
       clear F;rcases(by omega:(¬j=6)\/(j=6/\L=0))with hj6 |⟨hj6,hL0⟩
       .gi_wp2_with (simp only[C,J,Z,qBf,qBt])
        show LeavesInM (FW none) 0 Tryz.prog Tryz.f11 _ _ [] .returning _;exact⟨_,Es rfl rfl rfl (iO _ _ _ T).1 rfl,MX d (Vx.trans Y)⟩
       .subst hj6 hL0
        gi_wp2_with (simp only[C,J,Z,qBf,qBt])
        show LeavesInM (FW none) 0 Tryz.prog Tryz.f11 _ _ [] .returning _;exact⟨_,Es rfl rfl rfl (iO _ _ _ T).1 rfl,MX d (Vx.trans Y)⟩
   .have Z:((ba w0).toList==[109,111,118,101])=false:=by rw[kW];exact decide_eq_false hmv
    have hfw:DK z=2:=by rw[DK,P,if_neg hmv]
    by_cases hml:m<2
    .have hge:decide ((2:Int)<=(m:Int))=false:=decide_eq_false ω;dsimp only
     gi_wp2_with (simp only[Z,hge,qBf])
     show LeavesInM (FW none) 0 Tryz.prog Tryz.f11 _ _ [] .returning _;exact⟨_,Es rfl rfl rfl (iO _ _ _ Et).1 rfl,MX (Below.refl _ _) (by rw[Vk,hfw,if_neg ω])⟩
    .have hge:decide ((2:Int)<=(m:Int))=true:=decide_eq_true ω;rcases(by omega:cw=2\/¬cw=2)with hcw2 |hcw2
     all_goals
      dsimp only
      gi_wp2_with (simp only[Z,hge,qBf,qBt])
      refine⟨rfl,(bW none (Ue hX hC hgl z ω hwp hlow2 K.lt (k:=2) ?_)).mono ?_⟩
      .first
         |(have e:=K.strs (k:=2) ω (cw-2) ω;rw[hm]at e;exact e)
         |(rw[List.drop_eq_nil_of_le ω,show m-2=0 by omega];exact .iM _ _ _ _)
      rintro e W3 ⟨c,ai,cp,rfl,rfl,F,d⟩;obtain⟨on,hon⟩:∃on,qp (z.drop 2)=on:=⟨_,rfl⟩;rw[hon]at F ⊢;have hrd:Vk q z=on.bind (jQ q z):=by rw[Vk,hfw,if_pos ω,hon]
      have yg:Below w.heap.size w W3:=hlow2.trans (d.mono hlow2.size);have T:=(d.block w.heap.size ω).trans Et;obtain⟨⟨c0,f0⟩,⟨c1,f1⟩,c2,f2⟩:=Vw (x0:=.slice none 0 0) (x1:=.slice none 0 0) T;have hL3:=K.keep (d.block b K.lt) d.size;have hc0:W3.cell? ⟨b,o,none⟩=some (.string (ba w0)):=hL3.at_ 0 (.string (ba w0)) (by rw[<-P];cases z with |nil=>exact absurd rfl hwn |cons y r=>rfl);have RV:=d.size;cases on with
      |none=>
       simp only[Option.getD_none,Option.isSome_none,List.length_nil]
       gi_wp2
       show LeavesInM (FW none) 0 Tryz.prog Tryz.f11 _ _ [] .returning _;exact⟨_,Es rfl rfl rfl (iO _ _ _ T).1 rfl,MX d hrd⟩
      |some B=>
       simp only[Option.getD_some,Option.isSome_some]at F ⊢;obtain⟨j,hj⟩:∃j,B.length=j:=⟨_,rfl⟩;rw[hj];have A:=V.below d;have Vx:Vk q z=jQ q z B:=hrd;have hdl:(z.drop 2).length=j:=by rw[<-hj,<-(PN _ B hon).1]
       rcases(by by_cases E:w0=vY/\j=3;exact .inl ⟨E.1,E.2⟩;by_cases S:w0=uI/\j=1;exact .inr (.inl ⟨S.1,S.2⟩);exact .inr (.inr ⟨E,S⟩):(Hid (w0=vY)/\j=3)\/(Hid (w0=uI)/\j=1)\/(Hid (¬(w0=vY/\j=3))/\Hid (¬(w0=uI/\j=1))))with⟨alT,hj3⟩ |⟨hact,hj1⟩ |⟨hn1,hn2⟩
       .subst hj3;have C:((ba w0).toList==[97,105,114,99,114,97,102,116])=true:=by rw[kW];exact decide_eq_true alT.out
        obtain⟨bi,oi,Q,hbi⟩:=F (by rintro rfl;simp at hj);obtain⟨_,hv,-⟩:=Q.val;obtain rfl:=(Value.slice.inj hv).1;clear hv F;have hm4:1<m:=by rw[List.length_drop]at hdl;omega
        have hc1':W3.cell? ⟨b,o+1,none⟩=some (.string (ba (z.getD 1 []))):=hL3.at_ 1 _ (by
         have E:1<z.length:=ω
         simp[yQ,E])
        have G:∀i,i<3->W3.cell? ⟨bi,oi+i,none⟩=some (.int .i64 (B.getD i 0)):=λi hi=>Q.at_ i _ (by
         have E:i<B.length:=ω
         simp[PX,E])
        have Ob:¬(w.heap.size+1<=bi/\bi<wr.heap.size/\bi≠bl):=by rintro ⟨E,S,_⟩;omega
        have ag9:=Q.lt;have hstep:Vk q z=some ⟨q.names++[z.getD 1 []],q.homes++[⟨B.getD 0 0,B.getD 1 0,B.getD 2 0⟩],q.acts⟩:=by rw[Vx,jQ,P,if_pos ⟨alT.out,hj⟩]
        gi_wp2_with (simp only[C,qBf,qBt])
        rename_i K3 hK3;refine ag2 (g:=z.getD 1 []) (by rfl) (by rfl) (by rfl) hm4 hc1' hbD A ω (by have:=hsz.names;omega) ?_;intro a4 W4 ha4 hd4 PZ acJ hK4;refine hK3 _ _ ?_;have alU:=hK4.block bi ag9 ω Ob;have aha:∀i,i<3->W4.cell? ⟨bi,oi+i,none⟩=some (.int .i64 (B.getD i 0)):=λi hi=>(World.cell?_of_block (w:=W3) alU).trans (G i hi);refine ag3 (x:=⟨B.getD 0 0,B.getD 1 0,B.getD 2 0⟩) ha4 ((PZ 4 ω).trans rfl) ((PZ 9 ω).trans rfl) δ (aha 0 δ) (aha 1 δ) (aha 2 δ) (by rintro (h |h);exact Ob h;omega) acJ (by have:=hK4.size;omega) (by have:=hsz.homes;simp only;omega) ?_;intro O W5 X4 hd5 N I hK5;have HN:=HX.out d (hK4.trans hK5 λb h=>h) I (λb h=>by have:=hK4.size;rcases h with (h |h) |h;exact .inl h;exact .inr h;exact .inr ω) hstep;have q0:O.tmps.getD 0 undef=.string (ba s):=(N 0 ω).trans (PZ 0 ω);have q2:O.tmps.getD 2 undef=.pointer (some ⟨w.heap.size,0,none⟩):=(N 2 ω).trans (PZ 2 ω);have q3:O.tmps.getD 3 undef=.int .i64 0:=(N 3 ω).trans (PZ 3 ω);have q4:O.tmps.getD 4 undef=.pointer (some ⟨w.heap.size+1,0,none⟩):=(N 4 ω).trans (PZ 4 ω);have q5:O.tmps.getD 5 undef=.slice (some ⟨bl,ol,none⟩) n cl:=(N 5 ω).trans (PZ 5 ω);have q6:O.tmps.getD 6 undef=.int .i64 (k:Int):=(N 6 ω).trans (PZ 6 ω);obtain⟨u',U,rfl⟩:=tV O (n:=165) (X4.trans ha4) (hd5.trans hd4);rw[U]at q0 q2 q3 q4 q5 q6;have HN':Hid (ZC w s bl ol cl (k+1) ⟨q.names++[z.getD 1 []],q.homes++[⟨B.getD 0 0,B.getD 1 0,B.getD 2 0⟩],q.acts⟩ W5):=HN;clear aha G hc0 hc1' A acJ I hK4 hK5 PZ N ha4 X4 hd4 hd5 alU HN U c0 c1 c2 f0 f1 f2;rw[abn];simp only[List.map_cons,List.map_nil,q0,q2,q3,q4,q5,q6]
        gi_wp2
        refine⟨⟨k+1,_,⟨rfl,rfl,rfl,rfl,rfl,rfl,by rw[hn];rfl,rfl⟩,HN'.out⟩,?_⟩;show n-((k:Int)+1).toNat<n-(k:Int).toNat
        omega
       .subst hj1;have C:((ba w0).toList==[97,105,114,99,114,97,102,116])=false:=by rw[kW];exact decide_eq_false (by rw[hact.out];decide)
        have J:((ba w0).toList==[97,99,116])=true:=by rw[kW];exact decide_eq_true hact.out
        obtain⟨bi,oi,Q,hbi⟩:=F (by rintro rfl;simp at hj);obtain⟨_,hv,-⟩:=Q.val;obtain rfl:=(Value.slice.inj hv).1;clear hv F;have hm4:1<m:=by rw[List.length_drop]at hdl;omega
        have hc1':W3.cell? ⟨b,o+1,none⟩=some (.string (ba (z.getD 1 []))):=hL3.at_ 1 _ (by
         have E:1<z.length:=ω
         simp[yQ,E])
        have G:W3.cell? ⟨bi,oi,none⟩=some (.int .i64 (B.getD 0 0)):=Q.at_ 0 _ (by
         have E:0<B.length:=ω
         simp[PX,E])
        have Ob:¬(w.heap.size+1<=bi/\bi<wr.heap.size/\bi≠bl):=by rintro ⟨E,S,_⟩;omega
        have hstep:Vk q z=some ⟨q.names,q.homes,q.acts++[⟨z.getD 1 [],B.getD 0 0,[]⟩]⟩:=by rw[Vx,jQ,P,if_neg (λh=>absurd (hact.out.symm.trans h.1) δ),if_pos ⟨hact.out,hj⟩]
        gi_wp2_with (simp only[C,J,qBf,qBt])
        refine ag4 (g:=z.getD 1 []) (by rfl) (by rfl) (by rfl) hm4 hc1' hbD (by rfl) δ G Ob A ω (by have:=hsz.acts;omega) ?_;intro O W5 X4 hd5 N I hK5;have HN:=HX.out d hK5 I (λb h=>h) hstep;have q0:O.tmps.getD 0 undef=.string (ba s):=N 0 ω;have q2:O.tmps.getD 2 undef=.pointer (some ⟨w.heap.size,0,none⟩):=N 2 ω;have q3:O.tmps.getD 3 undef=.int .i64 0:=N 3 ω;have q4:O.tmps.getD 4 undef=.pointer (some ⟨w.heap.size+1,0,none⟩):=N 4 ω;have q5:O.tmps.getD 5 undef=.slice (some ⟨bl,ol,none⟩) n cl:=N 5 ω;have q6:O.tmps.getD 6 undef=.int .i64 (k:Int):=N 6 ω;obtain⟨u',U,rfl⟩:=tV O (n:=165) X4 hd5;rw[U]at q0 q2 q3 q4 q5 q6;have HN':Hid (ZC w s bl ol cl (k+1) ⟨q.names,q.homes,q.acts++[⟨z.getD 1 [],B.getD 0 0,[]⟩]⟩ W5):=HN;clear G hc0 hc1' A I hK5 N X4 hd5 HN U c0 c1 c2 f0 f1 f2;rw[abn];simp only[List.map_cons,List.map_nil,q0,q2,q3,q4,q5,q6]
        gi_wp2
        refine⟨⟨k+1,_,⟨rfl,rfl,rfl,rfl,rfl,rfl,by rw[hn];rfl,rfl⟩,HN'.out⟩,?_⟩;show n-((k:Int)+1).toNat<n-(k:Int).toNat
        omega
       .have hs3:=Z;have Y:jQ q z B=none:=by rw[jQ,P,hj,if_neg hn1.out,if_neg hn2.out,if_neg (λh=>hmv h.1)]
        clear F;rcases(by by_cases E:w0=vY;exact .inl E;by_cases S:w0=uI;exact .inr (.inl S);exact .inr (.inr ⟨E,S⟩):Hid (w0=vY)\/Hid (w0=uI)\/Hid (¬w0=vY/\¬w0=uI))with ho |ho |ho
        .have C:((ba w0).toList==[97,105,114,99,114,97,102,116])=true:=by rw[kW];exact decide_eq_true ho.out
         have J:((ba w0).toList==[97,99,116])=false:=by rw[kW];exact decide_eq_false (by rw[ho.out];decide)
         have hj3:¬j=3:=λe=>hn1.out ⟨ho.out,e⟩
         gi_wp2_with (simp only[C,J,hs3,qBf,qBt])
         show LeavesInM (FW none) 0 Tryz.prog Tryz.f11 _ _ [] .returning _;exact⟨_,Es rfl rfl rfl (iO _ _ _ T).1 rfl,MX d (Vx.trans Y)⟩
        .have C:((ba w0).toList==[97,105,114,99,114,97,102,116])=false:=by rw[kW];exact decide_eq_false (by rw[ho.out];decide)
         have J:((ba w0).toList==[97,99,116])=true:=by rw[kW];exact decide_eq_true ho.out
         have hj3:¬j=1:=λe=>hn2.out ⟨ho.out,e⟩
         gi_wp2_with (simp only[C,J,hs3,qBf,qBt])
         show LeavesInM (FW none) 0 Tryz.prog Tryz.f11 _ _ [] .returning _;exact⟨_,Es rfl rfl rfl (iO _ _ _ T).1 rfl,MX d (Vx.trans Y)⟩
        .have C:((ba w0).toList==[97,105,114,99,114,97,102,116])=false:=by rw[kW];exact decide_eq_false ho.out.1
         have J:((ba w0).toList==[97,99,116])=false:=by rw[kW];exact decide_eq_false ho.out.2
         gi_wp2_with (simp only[C,J,hs3,qBf,qBt])
         show LeavesInM (FW none) 0 Tryz.prog Tryz.f11 _ _ [] .returning _;exact⟨_,Es rfl rfl rfl (iO _ _ _ T).1 rfl,MX d (Vx.trans Y)⟩
  .have hke:k=(lY s).length:=ω
   have hq:iw rdR ⟨[],[],[]⟩ (lY s)=some q:=by have:=HI.out.fold;rwa[hke,List.take_length]at this
   have hrq:N9 s=if bU q=true/\kT q=s then some q else none:=by rw[N9,hq];rfl
   obtain⟨vn,vh,va,hP,hVR,⟨o0,o1,o2⟩,hcall⟩:=F8 hX hC hgl (f:=8) (fi:=fi8) τ (t:=4) τ rfl (x:=.bool (bU q)) (v:=.bool (bU q)) (λW M c h=>by cases h;rfl) (c8 X hX q (hsm q hq)) HI.out.low HI.out.st;obtain⟨p0,p1,p2⟩:=cells3 hP;have hPl:=HI.out.st.lt.1;have hbox:=HI.out.box;have hlow:=HI.out.low;have Y:=HI.out.st;have HV:Hid (VR wr (λb=>b<wr.heap.size) (eG q) (.agg #[vn,vh,va])):=hVR;clear hVR HI
   gi_wp2
   refine⟨rfl,(bW none hcall).mono ?_⟩;rintro e W2 ⟨rfl,H⟩;clear hcall;have hP2:=(H.block _ hPl).trans hP;have Et:=(H.block w.heap.size ω).trans hbox;have hlow2:=hlow.trans (H.mono hlow.size);have V:=Y.below H;have acI:=H.size;cases hv:bU q with
   |false=>
    obtain⟨⟨c0,f0⟩,⟨c1,f1⟩,c2,f2⟩:=Vw (x0:=.slice none 0 0) (x1:=.slice none 0 0) Et;dsimp only
    gi_wp2
    show LeavesInM (FW none) 0 Tryz.prog Tryz.f11 _ _ [] .returning _;exact⟨_,Es rfl rfl rfl (iO _ _ _ Et).1 rfl,hR1 (by rw[hrq,if_neg (λh=>by rw[hv]at h;cases h.1)]) _ (hlow2.trans ((iO _ _ _ Et).2.1 _ (qNr _)))⟩
   |true=>
    obtain⟨vn',vh',va',hP',ajr,-,hcall⟩:=F8 hX hC hgl (f:=9) (fi:=fi9) τ (t:=9) τ rfl (x:=.str (ba (kT q))) (v:=.string (ba (kT q))) (λW M c h=>by cases h;rfl) (c9 X hX q hv) hlow2 V;have hee:#[vn,vh,va]=#[vn',vh',va']:=by have:=hP2.symm.trans hP';simpa using this
    rw[<-hee]at hcall;clear ajr hP' hee vn' vh' va';obtain⟨p0,p1,p2⟩:=cells3 hP2;dsimp only
    gi_wp2
    refine⟨rfl,(bW none hcall).mono ?_⟩;rintro e W3 ⟨rfl,d⟩;clear hcall;have hP3:=(d.block _ ω).trans hP2;have T:=(d.block w.heap.size ω).trans Et;have yg:=hlow2.trans (d.mono hlow2.size);have A:=V.below d;have RV:=d.size;have hts:((ba (kT q)).toList==(ba s).toList)=decide (kT q=s):=by rw[ae4 s,kW]
    by_cases hte:kT q=s
    .have X5:=hts.trans (decide_eq_true hte);have HT:Hid (kT q=s):=hte;clear hts hte;obtain⟨p0,p1,p2⟩:=cells3 hP3;obtain⟨r0,r1,r2⟩:=ae5 T o0 o1 o2;dsimp only
     gi_wp2_with (simp only[X5,qBf,qBt])
     show LeavesInM (FW none) 0 Tryz.prog Tryz.f11 _ _ [] .returning _;refine⟨_,Es rfl rfl rfl (iO vn vh va T).1 rfl,hR2 q (by rw[hrq,if_pos ⟨hv,HT.out⟩]) _ vn vh va (yg.trans ((iO vn vh va T).2.1 _ (qNr _))) ?_⟩;obtain⟨C,J,hs3,hs4⟩:=iO vn vh va T;have acJ:St (Ip W3 w.heap.size vn vh va) (w.heap.size+1) (w.heap.size+1) (λb=>w.heap.size<=b/\b<(Ip W3 w.heap.size vn vh va).heap.size) q:=by refine St.set A hs3 (λb E S _ _=>⟨ω,by rw[hs4];exact S⟩)
     obtain⟨a0,a1,a2,e1,e2,-⟩:=acJ.vr (M:=λb=>w.heap.size<=b/\b<(Ip W3 w.heap.size vn vh va).heap.size) λ_ h=>h;have hee:#[vn,vh,va]=#[a0,a1,a2]:=by have:=((hs3 (w.heap.size+1) ω).trans hP3).symm.trans e1;simpa using this
     rw[hee];exact e2
    .have X5:=hts.trans (decide_eq_false hte);obtain⟨⟨c0,f0⟩,⟨c1,f1⟩,c2,f2⟩:=Vw (x0:=.slice none 0 0) (x1:=.slice none 0 0) T;dsimp only
     gi_wp2_with (simp only[X5,qBf,qBt])
     show LeavesInM (FW none) 0 Tryz.prog Tryz.f11 _ _ [] .returning _;exact⟨_,Es rfl rfl rfl (iO _ _ _ T).1 rfl,hR1 (by rw[hrq,if_neg (λh=>hte h.2)]) _ (yg.trans ((iO _ _ _ T).2.1 _ (qNr _)))⟩
end Go.Skm.Prg
