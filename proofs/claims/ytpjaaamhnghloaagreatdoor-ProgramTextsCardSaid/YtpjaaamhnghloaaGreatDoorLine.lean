import Derived.Test.YtpjaaamhnghloaaGreatDoorQF
import Derived.Test.YtpjaaamhnghloaaGreatDoorQQ
import Derived.Test.YtpjaaamhnghloaaGreatDoorTab
import Derived.Test.YtpjaaamhnghloaaGreatDoorLays
import Derived.Test.YtpjaaamhnghloaaGreatDoorSkmI
import Derived.Test.YtpjaaamhnghloaaGreatDoorSkmG
import Derived.Lib.AppendIntMem
import Derived.WalkKit
import Derived.BigCall
import Derived.Maps.AppendAt
set_option linter.all false
namespace Go.Skm.Prg
open Go Go.Skm Go.Proofs
section
open Go.RowKit Go.Shelf
variable {cs tmps:Array Value}{W w:World}{b:Nat}{v:Value}
attribute [local go_sem] Oper.semAt_some Bv
theorem ZG(v:ByteArray)(W:World):Calls Tryz.prog 38 #[.string v] W λe W'=>e=.returned (.func (.func 72) #[] #[.pointer (some ⟨W.heap.size,0,none⟩)])/\W'=W.alloc (.cells #[.string v] 9):=by
 refine jv (rd:=none) (n:=0) (callsIn_of_wp_marks Tryz.func38 rfl trivial ?_);simp only[Tryz.ntmps38,List.size_toArray,qLl,List.length_nil,Nat.reduceAdd,Nat.reduceSub,Array.replicate_succ,Array.replicate_zero,List.push_toArray,List.append_toArray,List.nil_append,List.cons_append]
 gi_wp2
 show LeavesInM (FW none) 0 Tryz.prog Tryz.f38 _ _ [] .returning _;exact⟨_,results_tmp (t:=2) rfl _ _ _,rfl,rfl⟩
theorem al4{fn:Func}(h:fn.results=#[.cell 2 26,.cell 3 29]){c:Nat}(n:tmps.getD 2 undef=.pointer (some ⟨b,0,none⟩))(m:tmps.getD 3 undef=.pointer (some ⟨c,0,none⟩))(l:W.heap[b]?=some (.cells cs 26 (0,0)))(i:cs.size=3)(k:W.heap[c]?=some (.cells #[v] 29 (0,0))) :
    (results fn tmps).run Tryz.prog W=.ok (.tuple #[.agg cs,v]) W:=by
  have hi:(Tryz.prog.info? 26).map (·.size)=some cs.size:=by rw[i];kernel_rfl
  have j:=run_loadVar_row W b 26 26 cs (0,0) _ l Tryz.underlying26 rfl hi;have a:W.cell? ⟨c,0,none⟩=some v:=by simp[World.cell?,k]
  have g:=Tryz.underlying29;have e:(loadVar 29 ⟨c,0,none⟩).run Tryz.prog W=.ok v W:=by simp[loadVar,isAgg,Sem.run_bind,run_underlying g,go_sem,a]
  have f:tmps[2]?.getD undef=.pointer (some ⟨b,0,none⟩):=by rw[<-n,qAb]
  have d:tmps[3]?.getD undef=.pointer (some ⟨c,0,none⟩):=by rw[<-m,qAb]
  simp only[results,h];simp[Sem.run_bind,Result.andThen,f,d,asAddr,j,e]
theorem aqU(w:World)(s:ByteArray):∃W:World,(((w.alloc (.cells #[.slice none 0 0,.slice none 0 0,.slice none 0 0] 26)).alloc (.cells #[.int .i64 0] 29)).alloc (.cells #[.slice none 0 0,.slice none 0 0,.slice none 0 0] 26)).alloc (.cells #[.string s] 9)=W/\W.heap.size=w.heap.size+4/\Below w.heap.size w W /\
    W.heap[w.heap.size]?=some (.cells #[.slice none 0 0,.slice none 0 0,.slice none 0 0] 26 (0,0))/\W.heap[w.heap.size+1]?=some (.cells #[.int .i64 0] 29 (0,0))/\W.heap[w.heap.size+2]?=some (.cells #[.slice none 0 0,.slice none 0 0,.slice none 0 0] 26 (0,0))/\W.heap[w.heap.size+3]?=some (.cells #[.string s] 9 (0,0)):=by
  obtain⟨A,hA⟩:∃A,w.alloc (.cells #[.slice none 0 0,.slice none 0 0,.slice none 0 0] 26)=A:=⟨_,rfl⟩;obtain⟨B,d⟩:∃B,A.alloc (.cells #[.int .i64 0] 29)=B:=⟨_,rfl⟩;obtain⟨C,c⟩:∃C,B.alloc (.cells #[.slice none 0 0,.slice none 0 0,.slice none 0 0] 26)=C:=⟨_,rfl⟩;obtain⟨D,a⟩:∃D,C.alloc (.cells #[.string s] 9)=D:=⟨_,rfl⟩;rw[hA,d,c,a];have i:A.heap.size=w.heap.size+1:=by rw[<-hA];simp
  have g:B.heap.size=w.heap.size+2:=by rw[<-d];simp[i]
  have f:C.heap.size=w.heap.size+3:=by rw[<-c];simp[g]
  have k:D.heap.size=w.heap.size+4:=by rw[<-a];simp[f]
  have p:∀b,b<w.heap.size+1->B.heap[b]?=A.heap[b]?:=λb h=>by rw[<-d];exact Below.heap_alloc _ _ b ω
  have j:∀b,b<w.heap.size+2->C.heap[b]?=B.heap[b]?:=λb h=>by rw[<-c];exact Below.heap_alloc _ _ b ω
  have e:∀b,b<w.heap.size+3->D.heap[b]?=C.heap[b]?:=λb h=>by rw[<-a];exact Below.heap_alloc _ _ b ω
  have o:A.heap[w.heap.size]?=some (.cells #[.slice none 0 0,.slice none 0 0,.slice none 0 0] 26 (0,0)):=by rw[<-hA];exact World.alloc_heap_new w _
  have n:B.heap[w.heap.size+1]?=some (.cells #[.int .i64 0] 29 (0,0)):=by rw[<-i,<-d];exact World.alloc_heap_new A _
  have m:C.heap[w.heap.size+2]?=some (.cells #[.slice none 0 0,.slice none 0 0,.slice none 0 0] 26 (0,0)):=by rw[<-g,<-c];exact World.alloc_heap_new B _
  have l:D.heap[w.heap.size+3]?=some (.cells #[.string s] 9 (0,0)):=by rw[<-f,<-a];exact World.alloc_heap_new C _
  have u:Below w.heap.size w A:=by rw[<-hA];exact(Below.refl _ w).alloc (qNr _) _
  have t:Below w.heap.size w B:=by rw[<-d];exact u.alloc ω _
  have r:Below w.heap.size w C:=by rw[<-c];exact t.alloc ω _
  have q:Below w.heap.size w D:=by rw[<-a];exact r.alloc ω _
  exact⟨D,rfl,k,q,(e _ ω).trans ((j _ ω).trans ((p _ ω).trans o)),(e _ ω).trans ((j _ ω).trans n),(e _ ω).trans m,l⟩
theorem box1{g f d x0 x1 x2:Value}{m n:Int}(h:W.heap[b]?=some (.cells #[g,f,d] 26 (0,0)))(o:W.heap[b+1]?=some (.cells #[.int .i64 m] 29 (0,0))) :
    (((W.setCell ⟨b,0,none⟩ x0).setCell ⟨b,1,none⟩ x1).setCell ⟨b,2,none⟩ x2).cell? ⟨b+1,0,none⟩=some (.int .i64 m)/\(((W.setCell ⟨b,0,none⟩ x0).setCell ⟨b,1,none⟩ x1).setCell ⟨b,2,none⟩ x2).frozen? ⟨b+1,0,none⟩=false /\
    ((((W.setCell ⟨b,0,none⟩ x0).setCell ⟨b,1,none⟩ x1).setCell ⟨b,2,none⟩ x2).setCell ⟨b+1,0,none⟩ (.int .i64 n)).heap[b]?=some (.cells #[x0,x1,x2] 26 (0,0))/\((((W.setCell ⟨b,0,none⟩ x0).setCell ⟨b,1,none⟩ x1).setCell ⟨b,2,none⟩ x2).setCell ⟨b+1,0,none⟩ (.int .i64 n)).heap[b+1]?=some (.cells #[.int .i64 n] 29 (0,0)) /\
    (∀c,c≠b->c≠b+1->((((W.setCell ⟨b,0,none⟩ x0).setCell ⟨b,1,none⟩ x1).setCell ⟨b,2,none⟩ x2).setCell ⟨b+1,0,none⟩ (.int .i64 n)).heap[c]?=W.heap[c]?)/\Below b W ((((W.setCell ⟨b,0,none⟩ x0).setCell ⟨b,1,none⟩ x1).setCell ⟨b,2,none⟩ x2).setCell ⟨b+1,0,none⟩ (.int .i64 n)) /\
    ((((W.setCell ⟨b,0,none⟩ x0).setCell ⟨b,1,none⟩ x1).setCell ⟨b,2,none⟩ x2).setCell ⟨b+1,0,none⟩ (.int .i64 n)).heap.size=W.heap.size:=by
  obtain⟨j,i,s2,p⟩:=iO x0 x1 x2 h;have a:=(s2 (b+1) ω).trans o;have e:=setCell_at (k:=0) (.int .i64 n) a;refine⟨?_,?_,(Below.heap_setCell _ _ _ _ σ).trans j,by simpa using e,λc q1 l=>(Below.heap_setCell _ _ _ c l).trans (s2 c q1),(i _ (qNr _)).trans ((Below.refl _ _).setCell σ _),by simp[World.setCell]⟩
  .have:(Ip W b x0 x1 x2).cell? ⟨b+1,0,none⟩=some (.int .i64 m):=by simp only[World.cell?,a];rfl
   exact this
  .have:(Ip W b x0 x1 x2).frozen? ⟨b+1,0,none⟩=false:=by simp only[World.frozen?,a];rfl
   exact this
theorem Oz{R:Ending->World->Prop}(o:tmps.getD 2 undef=.pointer (some ⟨w.heap.size,0,none⟩))(n:tmps.getD 3 undef=.pointer (some ⟨w.heap.size+1,0,none⟩))(l:W.heap[w.heap.size]?=some (.cells cs 26 (0,0)))(j:cs.size=3)(k:W.heap[w.heap.size+1]?=some (.cells #[v] 29 (0,0)))
    (hd:W.heap[w.heap.size+4]?=some (.deferred (some [])))(a:Below w.heap.size w W)(m:∀w',Below w.heap.size w w'->(∀b,b≠w.heap.size+4->w'.heap[b]?=W.heap[b]?)->w'.heap.size=W.heap.size->R (.returned (.tuple #[.agg cs,v])) w') :
    LeavesInM (FW none) 0 Tryz.prog Tryz.f10 tmps R [qc (w.heap.size+4)] .returning W:=by
  refine lT [w.heap.size+4] W σ (by simpa using hd) λw' i d g f e _=>?_;have c:∀b,b≠w.heap.size+4->w'.heap[b]?=W.heap[b]?:=λb h=>i b (by simpa using h);exact⟨_,al4 rfl o n ((c _ ω).trans l) j ((c _ ω).trans k),m w' ⟨g.trans a.os,f.trans a.tape,e.trans a.output,by rw[d];exact a.size,λb h=>(c b ω).trans (a.block b h)⟩ c d⟩
set_option maxHeartbeats 4000000 in
theorem ZH{gl:Option (List (Nat × Obj))}{X:Ext}(hX:Mine X)(Vy:Reads X)(hCl:jd X)(hC:dS Tryz.prog tab gl (run tab X))(L:∀p∈gl.getD [],p.1<w.heap.size/\w.heap[p.1]?=some p.2)(s:List UInt8)(hs:s.length<=99999)(Z:∀q,iw N8 ⟨[],[],[]⟩ (vC s)=some q->Small q)(R:Ending->World->Prop)(O:D6 s=none->∀W',Below w.heap.size w W'->R (.returned (.tuple #[.agg #[.slice none 0 0,.slice none 0 0,.slice none 0 0],.int .i64 6])) W')
    (hR2:∀q,D6 s=some q->∀W' y z A,Below w.heap.size w W'->VR W' (λb=>w.heap.size<=b/\b<W'.heap.size) (eG q) (.agg #[y,z,A])->R (.returned (.tuple #[.agg #[y,z,A],.int .i64 0])) W') :
    Calls Tryz.prog 10 #[.string (ba s)] w R:=by
  have h38:(FW none).fn 38:=trivial;have h13:(FW none).fn 13:=trivial;have h30:(FW none).fn 30:=trivial;refine jv (rd:=none) (n:=0) (callsIn_of_wp_marks Tryz.func10 rfl trivial ?_);simp only[Tryz.ntmps10,List.size_toArray,qLl,List.length_nil,Nat.reduceAdd,Nat.reduceSub,Array.replicate_succ,Array.replicate_zero,List.push_toArray,List.append_toArray,List.nil_append,List.cons_append]
  gi_wp2
  refine⟨rfl,(bW none (ZG (ba s) _)).mono ?_⟩;rintro e W0 ⟨rfl,rfl⟩;simp only[World.size_alloc];obtain⟨W,hW,hWs,a,E,C,hb2,hbx⟩:=aqU w (ba s)
  gi_wp2
  rw[hW];refine X8 hX Vy hC L s hs (by rfl) (by rfl) (by rfl) (by rfl) (by rfl) hWs a E C (ae3 hb2) hbx ?_ ?_
  .clear hW hWs a E C hb2 hbx W;intro W q N a E C hd I hsz;dsimp only;have J:D6 s=if bU q=true/\kT q=s then some q else none:=by rw[D6,N];rfl
   have Y:=Z q N;obtain⟨y,z,A,hP,hVR,⟨o0,o1,o2⟩,hcall⟩:=F8 hX hC L (f:=13) (fi:=ajv) τ (t:=4) τ rfl (x:=.bool (bU q)) (v:=.bool (bU q)) (λW M c h=>by cases h;rfl) (c13 X hX hCl q Y) a I;obtain⟨p0,p1,p2⟩:=cells3 hP;have hPl:=I.lt.1;have HV:Hid (VR W (λb=>b<W.heap.size) (eG q) (.agg #[y,z,A])):=hVR;clear hVR N Z
   gi_wp2
   refine⟨rfl,(bW none hcall).mono ?_⟩;rintro e W2 ⟨rfl,g⟩;clear hcall;have P:=(g.block _ hPl).trans hP;have F:=(g.block w.heap.size ω).trans E;have al5:=(g.block (w.heap.size+1) ω).trans C;have hd2:=(g.block (w.heap.size+4) ω).trans hd;have hlow2:=a.trans (g.mono a.size);have G:=I.below g;have acI:=g.size;cases hv:bU q with
   |false=>
    obtain⟨⟨c0,f0⟩,⟨c1,f1⟩,c2,f2⟩:=Vw (x0:=.slice none 0 0) (x1:=.slice none 0 0) F;obtain⟨s0,s1,s2,s3⟩:=iO (.slice none 0 0) (.slice none 0 0) (.slice none 0 0) F;obtain⟨c3,f3,u,o,i,m,hs8⟩:=box1 (x0:=.slice none 0 0) (x1:=.slice none 0 0) (x2:=.slice none 0 0) (n:=6) F al5;dsimp only
    gi_wp2
    refine Oz rfl rfl u rfl o ((i _ ω ω).trans hd2) (hlow2.trans m) λw' Q h2 h3=>O (by rw[J,if_neg (λh=>by rw[hv]at h;cases h.1)]) w' Q
   |true=>
    obtain⟨⟨n1,n2,n3⟩,_⟩:=um hv;obtain⟨S,T,U,hP',ajr,-,hcall⟩:=F8 hX hC L (f:=30) (fi:=ajw) τ (t:=9) τ rfl (x:=.str (ba (kT q))) (v:=.string (ba (kT q))) (λW M c h=>by cases h;rfl) (c30 X hX q Y (Jw hv).rng n1 n3) hlow2 G;have B:#[y,z,A]=#[S,T,U]:=by have:=P.symm.trans hP';simpa using this
    rw[<-B]at hcall;clear ajr hP' B S T U;obtain⟨p0,p1,p2⟩:=cells3 P;dsimp only
    gi_wp2
    refine⟨rfl,(bW none hcall).mono ?_⟩;rintro e W3 ⟨rfl,d⟩;clear hcall;have hP3:=(d.block _ ω).trans P;have j:=(d.block w.heap.size ω).trans F;have al6:=(d.block (w.heap.size+1) ω).trans al5;have hd3:=(d.block (w.heap.size+4) ω).trans hd2;have yg:=hlow2.trans (d.mono hlow2.size);have V:=G.below d;have RV:=d.size;have H:((ba (kT q)).toList==(ba s).toList)=decide (kT q=s):=by rw[ae4 s,kW]
    by_cases k:kT q=s
    .have X5:=H.trans (decide_eq_true k);have HT:Hid (kT q=s):=k;clear H k;obtain⟨p0,p1,p2⟩:=cells3 hP3;obtain⟨r0,r1,r2⟩:=ae5 j o0 o1 o2;obtain⟨s0,s1,s2,s3⟩:=iO y z A j;obtain⟨c3,f3,u,o,i,m,hs8⟩:=box1 (x0:=y) (x1:=z) (x2:=A) (n:=0) j al6;dsimp only
     gi_wp2_with (simp only[X5,qBf,qBt])
     refine Oz rfl rfl u rfl o ((i _ ω ω).trans hd3) (yg.trans m) λw' Q h2 h3=>hR2 q (by rw[J,if_pos ⟨hv,HT.out⟩]) w' y z A Q ?_;have K:∀b,b≠w.heap.size+4->b≠w.heap.size->b≠w.heap.size+1->w'.heap[b]?=W3.heap[b]?:=λb q1 q2 q3=>(h2 b q1).trans (i b q2 q3);have acJ:St w' (w.heap.size+2) (w.heap.size+2) (λb=>w.heap.size<=b/\b<w'.heap.size) q:=by refine St.mono (D:=λb=>w.heap.size+5<b) ?_ λb _ h _ h5=>⟨ω,h⟩;obtain⟨xn,xh,xa,l,ho,hl,hdd⟩:=V.own;refine⟨xn,xh,xa,l,⟨(K _ ω ω ω).trans ho.box,ho.base,ho.rows.keep λr hr b hb=>?_⟩,hl,hdd⟩;have:=hdd b (aa9 hr hb);exact K b ω ω ω
     obtain⟨a0,a1,a2,e1,e2,-⟩:=acJ.vr (M:=λb=>w.heap.size<=b/\b<w'.heap.size) λ_ h=>h;have B:#[y,z,A]=#[a0,a1,a2]:=by have:=((K (w.heap.size+2) ω ω ω).trans hP3).symm.trans e1;simpa using this
     rw[B];exact e2
    .have X5:=H.trans (decide_eq_false k);obtain⟨⟨c0,f0⟩,⟨c1,f1⟩,c2,f2⟩:=Vw (x0:=.slice none 0 0) (x1:=.slice none 0 0) j;obtain⟨s0,s1,s2,s3⟩:=iO (.slice none 0 0) (.slice none 0 0) (.slice none 0 0) j;obtain⟨c3,f3,u,o,i,m,hs8⟩:=box1 (x0:=.slice none 0 0) (x1:=.slice none 0 0) (x2:=.slice none 0 0) (n:=6) j al6;dsimp only
     gi_wp2_with (simp only[X5,qBf,qBt])
     refine Oz rfl rfl u rfl o ((i _ ω ω).trans hd3) (yg.trans m) λw' Q h2 h3=>O (by rw[J,if_neg (λh=>k h.2)]) w' Q
  .intro W' hno hlow' aqV hb1' hd';dsimp only;have hpn:D6 s=none:=by rw[D6,hno];rfl
   gi_wp2
   refine Oz rfl rfl aqV rfl hb1' hd' hlow' λw' Q h2 h3=>O hpn w' Q
end
section
open Go.RowKit Go.Shelf
variable {f:Pg->List UInt8->Option Pg}{ls:List UInt8->List (List UInt8)}{w:World}{M:Nat->Prop}{β:Nat -> Option (Nat × Nat)}{ak:Array Value}
def acN(o:Option Pg):List AV:=[.p (eG (o.getD ⟨[],[],[]⟩)),Ab (if o.isSome then 0 else 6)]
def Fine(f:Pg->List UInt8->Option Pg)(ls:List UInt8->List (List UInt8))(s:List UInt8):Prop:=s.length<=99999/\∀q,iw f ⟨[],[],[]⟩ (ls s)=some q->Small q
open Classical in
noncomputable def Ug(f:Pg->List UInt8->Option Pg)(ls:List UInt8->List (List UInt8))(ans:List UInt8->Option Pg):uw:=λargs bl=>match args,bl with
 |[.p (.str s)],[]=>if Fine f ls s.data.toList then some (acN (ans s.data.toList),[])else none
 |_,_=>none
noncomputable def agz:uw:=Ug rdR lY N9
noncomputable def agy:uw:=Ug N8 vC D6
theorem Xm{a:List UInt8->Option Pg}(s:List UInt8)(h:Fine f ls s):Ug f ls a [.p (.str (ba s))] []=some (acN (a s),[]):=by simp_all[Ug]
theorem Vz(c:Gr f)(b:∀s,mW (ls s)<=s.length+1){s:List UInt8}(d:s.length<=1500):Fine f ls s:=by refine⟨ω,λq a=>?_⟩;have h:=Ov c _ _ _ 0 a Vq;exact h.small (by have:=b s;omega)
theorem ae9:VR w M (eG ⟨[],[],[]⟩) (.agg #[.slice none 0 0,.slice none 0 0,.slice none 0 0]):=by
 refine .agg _ _ rfl (λc a=>?_) λj c a=>?_
 .simp only[List.mem_cons,List.mem_nil_iff,or_false]at a;rcases a with rfl|rfl|rfl<;>rfl
 .match j,a with
  |0,a=>cases a;exact .iM _ _ _ _
  |1,a=>cases a;exact .iM _ _ _ _
  |2,a=>cases a;exact .iM _ _ _ _
  |j+3,a=>simp at a
theorem F9{gl:Option (List (Nat × Obj))}(hne:gl≠none){fi:FI}(d:fi.cfg.shares=true)(l:fi.cfg.rets=[]){t:TypeId}(k:fi.fn.resultTypes.toList=[26,t])(c:ay tab t=(false,[.int .i64])){w':World}{args:List AV}(a:ni w M β args [] ak)(g:Below w.heap.size w w'){o:Option Pg}{v:Value}(j:VR w' (λb=>w.heap.size<=b/\b<w'.heap.size) (eG (o.getD ⟨[],[],[]⟩)) v) :
    ∃cs ps M',Ending.returned (.tuple #[v,.int .i64 (if o.isSome then 0 else 6)])=.returned (qx cs)/\uP gl tab fi w M β [] (acN o) [] w' M' cs ps:=by
  refine⟨[v,.int .i64 (if o.isSome then 0 else 6)],[none,none],λb=>M b\/(w.heap.size<=b/\b<w'.heap.size),rfl,Jg d a g (λe=>absurd e hne) (λb h=>.inl h) (λb h=>h.imp id λh=>h.1) (λb h=>?_) ?_ λb o h=>by simp at h⟩
  .rcases h with h |h
   .exact Nat.lt_of_lt_of_le (a.dJ b h) g.size
   .exact h.2
  .rw[l,k];refine .cons _ _ _ _ _ _ _ _ _ (.deep _ _ _ ?_ (j.mono λb h=>⟨.inr h,rfl⟩)) (.cons _ _ _ _ _ _ _ _ _ (.deep _ _ _ ?_ (.int _ _)) (.nil _) λb o i h=>?_) λb o i h=>?_
   .rfl
   .rw[c];rfl
   all_goals simp
theorem Uh{s:ByteArray}(h:ni w M β [.p (.str s)] [] ak):ak=#[.string (ba s.data.toList)]:=by obtain⟨v,rfl,a⟩:=Ap h;cases a;rw[aaL]
theorem alm:aX tab.funcs 10=some ad9:=τ
theorem aln:aX tab.funcs 11=some aea:=τ
section
variable {gl:Option (List (Nat × Obj))} (hne:gl≠none) {X:Ext} (hX:Mine X) (hC:dS Tryz.prog tab gl (run tab X))
include hne hX hC
theorem aef:BQ Tryz.prog tab gl 11 agz:=by
 intro d args bl l m e h;have:d=aea:=by rw[aln]at e;exact(Option.some.inj e).symm
 subst this;unfold agz Ug at h;split at h
 .next s=>
  split at h
  .next hp=>
   cases h;refine⟨⟨_,rfl⟩,σ,λw M β ak b a=>?_⟩;rw[Uh a];refine X3 hX hC (λp hp=>⟨a.dJ _ (b p hp).1,(b p hp).2⟩) _ (by have:=hp.1;omega) hp.2 _ (λh w' c=>?_) λq h w' i j k c g=>?_
   .rw[h];exact F9 hne rfl rfl (t:=3) τ τ a c (o:=none) ae9
   .rw[h];exact F9 hne rfl rfl (t:=3) τ τ a c (o:=some q) g
  .cases h
 .cases h
theorem aee(j:Reads X)(d:jd X):BQ Tryz.prog tab gl 10 agy:=by
 intro e args bl n r g h;have:e=ad9:=by rw[alm]at g;exact(Option.some.inj g).symm
 subst this;unfold agy Ug at h;split at h
 .next s=>
  split at h
  .next hp=>
   cases h;refine⟨⟨_,rfl⟩,σ,λw M β ak b a=>?_⟩;rw[Uh a];refine ZH hX j d hC (λp hp=>⟨a.dJ _ (b p hp).1,(b p hp).2⟩) _ (by have:=hp.1;omega) hp.2 _ (λh w' c=>?_) λq h w' k l m c i=>?_
   .rw[h];exact F9 hne rfl rfl (t:=29) τ τ a c (o:=none) ae9
   .rw[h];exact F9 hne rfl rfl (t:=29) τ τ a c (o:=some q) i
  .cases h
 .cases h
end
end
section
structure aaQ (X:Ext):Prop where
 prg:∀s:List UInt8,Fine N8 vC s->run tab X 10 [.p (.str (ba s))] []=some (acN (D6 s),[])
 ref:∀s:List UInt8,Fine rdR lY s->run tab X 11 [.p (.str (ba s))] []=some (acN (N9 s),[])
section
variable (X:Ext) (hX:Mine X)
include hX
theorem c7n(c:jd X)(p:Pg)(hp:Small p)(b:bU p=false):run tab X 7 [.p (eG p)] []=some ([.p (.str ⟨#[]⟩),Ab 2],[]):=by have a:=c13 X hX c p hp;rw[eG]at a;refine aV (hX _ rfl) ?_;rw[eG,e7,a,b];rfl
theorem law3(n:jd X)(g:Known X)(m:aaQ X)(p:Pg)(l:Fits p)(s:List UInt8):run tab X 3 [.p (eG p),.p (.str (ba s))] []=some ([Ai true],[]):=by
 refine aV (hX _ rfl) ?_;rw[eG,e3];refine iF (c5 X hX p l 6 5 δ) ?_;cases o:XG p 6 5 with
 |false=>refine alC rfl ?_;exact iF g rfl
 |true=>
  have hp:=acr δ δ l o;refine aci rfl ?_;have r:((ba s).size:Int)=(s.length:Int):=rfl;by_cases k:(((ba s).size:Nat):Int) > 1500
  .refine ap8 k ?_;exact iF g rfl
  .refine ap9 k ?_;have i:s.length<=1500:=ω
   have c:=m.prg s (Vz Zx Vp i);have a:=m.ref s (Vz aeG Vo i);rw[<-acz s]at a;have f:Small ((D6 s).getD ⟨[],[],[]⟩):=by
    cases h:D6 s with
    |none=>exact Vq.small δ
    |some q=>
     rw[D6,chk,Option.bind_eq_some_iff]at h;obtain⟨v,j,h⟩:=h;split at h
     .cases h;exact(Vz Zx Vp i).2 _ j
     .cases h
   generalize t:(D6 s).getD ⟨[],[],[]⟩=q at f;have e:=c12 X hX q q f;have ks:∃b:Bool,(acN (D6 s))=[.p (eG q),Ab (if b then 0 else 6)]:=⟨(D6 s).isSome,by rw[<-t];rfl⟩;obtain⟨b,u⟩:=ks;rw[u]at c a;cases d:bU p with
   |false=>refine iF (c7n X hX n p hp d) ?_;refine iF (c8 X hX p hp) ?_;refine alC d ?_;refine aci (beq_self_eq_true (⟨#[]⟩:ByteArray).toList) ?_;refine aci rfl ?_;refine iF c ?_;refine iF a ?_;refine iF e ?_;refine Js (decide_eq_true rfl) ?_;refine Js (beq_self_eq_true (if b then(0:Int)else 6)) ?_;exact iF g rfl
   |true=>refine iF (c7 X hX n p hp (Jw d).rng d) ?_;refine iF (c8 X hX p hp) ?_;refine aci d ?_;refine iF (c9 X hX p d) ?_;refine aci (beq_self_eq_true (ba (kT p)).toList) ?_;refine aci rfl ?_;refine iF c ?_;refine iF a ?_;refine iF e ?_;refine Js (decide_eq_true rfl) ?_;refine Js (beq_self_eq_true (if b then(0:Int)else 6)) ?_;exact iF g rfl
end
end
section
open Go.Shelf Go.RowKit Go.Sort
variable {w w':World}{B b g1 k o1:Nat}{v:Value}{cs cur:List Value}{e t:TypeId}{q:Option (Nat × Nat)}{C:Array Value}{fr:Nat × Nat}
theorem agE:(Tryz.prog.info? 9).map (λi=>(i.zero,i.size,i.bytes))=some (some (.string ByteArray.empty),1,16):=τ
def AY(x:ByteArray):List UInt8:=x.data.toList
def WAt(w:World)(B:Nat)(v:Value)(g1 o1:Nat)(cur:List Value):Prop:=
 (v=.slice (some ⟨g1,o1,none⟩) cur.length cur.length/\g1<B/\∀j u,cur[j]?=some u->w.cell? ⟨g1,o1+j,none⟩=some u)\/w.ownsRow B 9 1 v cur.length cur
theorem WAt.kept{w w':World}{B:Nat}{v:Value}{g1 o1:Nat}{cur:List Value}(h:WAt w B v g1 o1 cur)(i:B<=w.heap.size)(a:w.grownBy w' none):WAt w' B v g1 o1 cur:=by
 rcases h with⟨g,f,d⟩ |h
 .exact .inl ⟨g,f,λj u c=>a.cell (d j u c) σ⟩
 .refine .inr (h.kept a ?_);grind
theorem WAt.shape(h:WAt w B v g1 o1 cur):∃f d,v=.slice f cur.length d:=by
 rcases h with⟨a,_,_⟩ |h
 .grind
 .rcases h.2 with⟨a,i⟩ |⟨g,cap,c,a,_⟩;all_goals grind
theorem Vb(w:World)(k:Nat)(os:Array Obj):w.grownBy (grow (w.drewN k) os) none:=
 have h:=Lib.below_grow w.heap.size w (qNr _) k os
 ⟨h.os,h.tape,h.output,h.size,λj a _=>Lib.heap_grow_old w k os j a⟩
theorem aeg(ty:TypeId)(h:WAt w B v g1 o1 cur)(o:B<=w.heap.size)(b1:Nat)(y:ByteArray)(x:w.cell? ⟨b1,0,none⟩=some (.string y))(F:cur.length<=4294967296)(D:0<cur.length) :
    ∃v' w' row,(Builtin.append_ #[22,22] ty #[v,.slice (some ⟨b1,0,none⟩) 1 1]).run Tryz.prog w=.ok v' w'/\w'.ownsRow B 9 1 v' (cur.length+1) (cur++[.string y])/\w.grownBy w' row/\∀k,row=some k->B<=k:=by
  obtain⟨i0,hi,f,a,d⟩:=info_parts agE;have A:maxLen=9223372036854775807:=δ
  have n:∀j u,([Value.string y]:List Value)[j]?=some u->w.cell? ((⟨b1,0,none⟩:Addr).add j)=some u:=λj u c=>by
   match j,c with
   |0,c=>cases c;exact x
   |j+1,c=>simp at c
  rcases h with⟨rfl,G,E⟩ |h
  .have z:=run_append_grow (P:=Tryz.prog) w 22 ty 9 i0 _ Tryz.underlying22 hi f ⟨g1,o1,none⟩ cur.length cur.length cur (by rw[a,Nat.mul_one]) (λj u c=>by rw[Addr.add_lit];exact E j u c) ⟨b1,0,none⟩ 1 1 [.string y] (by rw[a];rfl) n ω ω (growslice_fits ω (by rw[d];omega));have i:=grownCap_ge w (cur.length+1) cur.length 9;have l:grownCap w (cur.length+1) cur.length 9<=maxLen:=grownCap_le_maxLen w (cur.length+1) cur.length 9 ω;refine⟨_,_,none,z,⟨σ,.inr ⟨w.heap.size,_,_,rfl,o,heap_alloc_new w.drew _,i,l,?_,?_⟩⟩,⟨rfl,rfl,rfl,σ,λk g _=>(World.grownBy_alloc w.drew _ none).block k g σ⟩,λk g=>by cases g⟩
   .simp only[Array.size_append,List.size_toArray,size_zeroCells,List.length_singleton];show cur.length+1+_*1=_;omega
   grind
  .obtain⟨v',w',s,r,p,_⟩:=run_append_own (P:=Tryz.prog) w B 22 ty 9 i0 _ 1 16 Tryz.underlying22 hi f a d rfl δ v cur.length cur h ⟨b1,0,none⟩ 1 1 [.string y] rfl n (λu m=>by simp at m;subst m;rfl) ω ω o;exact⟨v',w',v.ownBlock,s,r,p,λk g=>(h.lt k g).1⟩
theorem Xp{ops:Array Oper}{c:List Oper}{o:Oper}{a:Act}{Q:Exit->Act->World->Prop}(d:o.guard=none)(s x:Operand)
    (m:o.op=.call {callee:=.builtin .append,args:=#[s,x],argTypes:=#[22,22]})(j:a.eval s=v)(h:WAt w B v g1 o1 cur)(u:B<=w.heap.size)(b1:Nat)(y:ByteArray)(i:a.eval x=.slice (some ⟨b1,0,none⟩) 1 1)(g:w.cell? ⟨b1,0,none⟩=some (.string y))(p:cur.length<=4294967296)(f:0<cur.length)
    (n:∀v' w' row,w'.ownsRow B 9 1 v' (cur.length+1) (cur++[.string y])->w.grownBy w' row->(∀k,row=some k->B<=k)->wpList Tryz.prog ops Q c (a.put o.dst v') w'):wpList Tryz.prog ops Q (o::c) a w:=by
  refine wpList_plain d λK r=>?_;obtain⟨v',w',row,l,A,z,h4⟩:=aeg o.type h u b1 y g p f;unfold Oper.wp execOp;simp only[m,resolve,invoke,builtin,Sem.run_bind,Sem.run_pure,qRa,List.map_toArray,List.map_cons,List.map_nil,j,i,l];exact r _ _ (n v' w' row A z h4)
def nI(yn:List Int)(k:Nat):Int:=yn.getD k 0
theorem aeh{a:List Int}(h:k<a.length):nI a k=a[k]:=by rw[nI,qLb,qLd h];rfl
def mV(xb:List ByteArray)(yn:List Int)(k:Nat):List ByteArray:=xb++(yn.take k).map λn=>⟨(Lib.itoa n).toArray⟩
theorem ab6(c:List ByteArray)(a:List Int)(h:k<a.length):mV c a (k+1)=mV c a k++[⟨(Lib.itoa a[k]).toArray⟩]:=by rw[mV,mV,List.take_succ_eq_append_getElem h,List.map_append,List.append_assoc];rfl
theorem Xq(c:List ByteArray)(a:List Int)(h:k<=a.length):(mV c a k).length=c.length+k:=by grind[mV]
theorem aaS:∀l:List (List UInt8),l.length<=(oV l).length+1
 |[]=>σ
 |[x]=>σ
 |x::y::r=>by have:=aaS (y::r);simp only[oV,qLp,qLl]at this ⊢;omega
theorem Xr:∀l:List (List UInt8),Lib.join l [32]=oV l
 |[]=>rfl
 |[x]=>by rw[Lib.join_cons];simp[Lib.joinTail,oV]
 |x::y::r=>by have:=Xr (y::r);rw[Lib.join_cons]at this ⊢;rw[oV,<-this];rfl
theorem aei(h:DI e w t b q cs C fr)(a:∀k,k<w.heap.size->w'.heap[k]?=w.heap[k]?):DI e w' t b q cs C fr:=
 {h with
  hw:=(a b (qAa.1 h.hw).1).trans h.hw
  h1:=Ii h.h1 λg o c=>a g (aej h.h1 c)}
theorem aek{N:Prop}{c:World}(h:zH N e w' t b q cs fr c)(a:Below w.heap.size w w'):zH False e w t b q cs fr c where
 keep k hk f d:=(h.keep k (Nat.lt_of_lt_of_le hk a.size) f d).trans (a.block k hk)
 size:=Nat.le_trans a.size h.size
 os:=h.os.trans a.os
 tape:=h.tape.trans a.tape
 output:=h.output.trans a.output
 drawn h:=h.elim
 put:=by obtain⟨v',l,f,d,j⟩:=h.put;exact⟨v',l,f,d,λg o i=>⟨(j g o i).1,(j g o i).2.imp id λh=>Nat.le_trans a.size h⟩⟩
theorem agG:liesAt Tryz.prog Tryz.prog.depth 123 (2 / Tryz.prog.cellsOf 123) 0 (Tryz.lays156_ren.t 72) 1=true:=τ
theorem agH:liesAt Tryz.prog Tryz.prog.depth 125 (2 / Tryz.prog.cellsOf 125) 0 (Tryz.lays156_ren.t 72) 1=true:=τ
theorem lays166:Lays.n166 Tryz.prog Tryz.lays156_ren:={Tryz.lays156 with}
theorem ai6{G:Bool->World->Prop}:Po Tryz.prog G 102 [123,125] 5 .ael:=agI lays166 Tryz.Builder_Extra_156 [123,125] λt a=>by
 simp only[List.mem_cons,List.not_mem_nil,or_false]at a;rcases a with rfl|rfl
 .exact agG
 .exact agH
theorem agJ{W:World}(i:DI 5 w t b q cs C fr)(a:Below w.heap.size w W)(f:t=123\/t=125)(L:List UInt8)(l:cs.length+L.length<=2147483648) :
    Calls Tryz.prog 102 #[.pointer (some ⟨b,0,none⟩),.string ⟨L.toArray⟩] W λr w'=>r=.returned (.tuple #[.int .i64 (⟨L.toArray⟩:ByteArray).size,.nilIface])/\zH False 5 w t b q (cs++vP L) fr w':=by
  have d:=aei i (w':=W) λk g=>a.block k g;have c:cs.length+(⟨L.toArray⟩:ByteArray).size<=2147483648:=by show cs.length+L.toArray.size<=_;omega
  have h:=ai6 (G:=λ_ _=>True) t (by rcases f with rfl|rfl<;>simp) W b q cs C fr ⟨L.toArray⟩ d c;refine h.mono λr w' h=>⟨h.1,?_⟩;have j:=aek h.2 a;exact j
set_option maxHeartbeats 2000000 in
set_option maxRecDepth 100000 in
theorem ab7 (w : World) (b : Nat) (q : Option (Nat × Nat)) (cs : List Value) (C : Array Value) (fr : Nat × Nat) (t : TypeId) (xb : List ByteArray) (yn : List Int) (g1 o1 g2 o2 : Nat) (hB : DI 5 w t b q cs C fr) (ht : t=123\/t=125)
    (hxs:∀ j u,(xb.map Value.string)[j]?=some u->w.cell? ⟨g1,o1+j,none⟩=some u) (hys:∀ j n,yn[j]?=some n->w.cell? ⟨g2,o2+j,none⟩=some (.int .i64 n)∧-9223372036854775808<=n/\n<=9223372036854775807)
    (hx0:0<xb.length) (hy0:0<yn.length) (hg1:g1<w.heap.size) (hg2:g2<w.heap.size)
    (hm : cs.length + (oV ((mV xb yn yn.length).map AY) ++ [10]).length <= 2147483648) (hG : Lib.TabIs Tryz.prog w "internal/strconv.uint64pow10" .u64 Lib.pow10Tab) :
    Calls Tryz.prog 64 #[.pointer (some ⟨b,0,none⟩),.slice (some ⟨g1,o1,none⟩) xb.length xb.length,.slice (some ⟨g2,o2,none⟩) yn.length yn.length] w λr w' =>
     r=.returned (.tuple #[])/\zH False 5 w t b q (cs++vP (oV ((mV xb yn yn.length).map AY)++[10])) fr w':=by
  have hlen:(mV xb yn yn.length).length<=4294967296:=by
   have h1:=aaS ((mV xb yn yn.length).map AY)
   rw[qLm]at h1
   rw[qLp]at hm
   omega
  rw[Xq xb yn (qNr _)]at hlen
  have HT : Hid (Lib.TabBelow Tryz.prog w.heap.size w "internal/strconv.uint64pow10" .u64 Lib.pow10Tab) := Lib.tabBelow_of_tabIs hG
  have HY:Hid (∀ j n,yn[j]?=some n->w.cell? ⟨g2,o2+j,none⟩=some (.int .i64 n)∧-9223372036854775808<=n/\n<=9223372036854775807):=hys
  have HM:Hid (cs.length+(oV ((mV xb yn yn.length).map AY)++[10]).length<=2147483648):=hm
  have HW0:Hid (WAt w w.heap.size (.slice (some ⟨g1,o1,none⟩) xb.length xb.length) g1 o1 ((mV xb yn 0).map Value.string)):=.inl ⟨by simp[mV],hg1,by simpa [mV] using hxs⟩
  have hbs:b<w.heap.size:=(qAa.1 hB.hw).1
  have HB:Hid (DI 5 w t b q cs C fr):=hB
  clear hys hm hG hxs hB
  go_enter Tryz.func64,Tryz.ntmps64
  go_wp2
  go_loopw [1,10] (λv i wr=>∃ k:Nat,k<=yn.length/\i=.int .i64 k/\WAt wr w.heap.size v g1 o1 ((mV xb yn k).map Value.string)/\Below w.heap.size w wr)
   (λ_ i _=>yn.length-(intOf i).toNat)
  case atStart=>exact⟨0,Nat.zero_le _,rfl,HW0.out,Below.refl _ _⟩
  case round =>
   obtain⟨k,hk,rfl,hW,hbl⟩:=hrel
   have hsz:=hbl.size
   have hwl:=Xq xb yn hk
   obtain⟨ao,cv,hv⟩:=hW.shape
   rw[qLm,hwl]at hv
   subst hv
   have hcell:k<yn.length->wr.cell? ⟨g2,o2+k,none⟩=some (.int .i64 (nI yn k)):=λh=>by
    have h1:=(HY.out k yn[k] (qLd h)).1
    rw[hbl.cell (p:=⟨g2,o2+k,none⟩) hg2]
    rw[h1,aeh h]
   have hrange:k<yn.length→-9223372036854775808<=nI yn k/\nI yn k<=9223372036854775807:=λh=>by
    have h1:=(HY.out k yn[k] (qLd h)).2
    rw[aeh h];exact h1
   go_wp2_with (go_at_fn 101)
   . have hlt:k<yn.length:=by assumption
     refine(Any.strconv_Itoa Tryz.laysM171 _ (hrange hlt).1 (hrange hlt).2 _ (HT.out _ hbl)).mono ?_
     rintro e w1 ⟨rfl,kk,os,hw1⟩
     have hg1':wr.grownBy w1 none:=hw1▸Vb wr kk os
     have hW1:=hW.kept hsz hg1'
     have hs1:=hg1'.size
     have apJ:Below w.heap.size w w1:=hbl.grown hg1' hsz (λk e=>by cases e)
     clear hw1 hcell
     go_wp2_with (first
      | (at_builtin; go_loud (refine Xp rfl _ _ rfl rfl (hW1.kept ω (World.grownBy_alloc _ _ none)) (by simp; omega) w1.heap.size ⟨(Lib.itoa (nI yn k)).toArray⟩ rfl (Go.cell_one_new _ _ _ 0 _ rfl) (by simp; omega) (by simp; omega) ?_);intro v' w2 row hown hgr hrow))
     have hs1':w.heap.size<=(w1.alloc (Obj.cells #[Value.string ⟨(Lib.itoa (nI yn k)).toArray⟩] 9)).heap.size:=by simp;omega
     refine⟨⟨k+1,ω,σ,.inr ?_,(apJ.alloc ω _).grown hgr hs1' hrow⟩,by simp[intOf];omega⟩
     rw[ab6 xb yn hlt,List.map_append,qLp,<- aeh hlt]
     exact hown
   . have hkm : k = yn.length := by
       rcases Nat.lt_or_ge k yn.length with h | h
       . exfalso;simp_all
       . omega
     subst hkm
     obtain⟨bk,o,rfl,hbk,hcells,hcap⟩:∃ bk o,ao=some ⟨bk,o,none⟩/\bk<wr.heap.size/\(∀ (j:Nat) x,(mV xb yn yn.length)[j]?=some x->wr.cell? ⟨bk,o+j,none⟩=some (.string x))/\(mV xb yn yn.length).length<=cv:=by
      have hl:(mV xb yn yn.length).length=xb.length+yn.length:=hwl
      rcases hW with ⟨h1,h2,h3⟩ | hown
      . simp only[Value.slice.injEq,qLm]at h1
        exact⟨g1,o1,h1.1,ω,λj x hj=>h3 j (.string x) (by simp[hj]),ω⟩
      . rcases hown.2 with ⟨h1,h2⟩ | ⟨g,cap,c,h1,h2,h3,h4,_⟩
        . simp only[qLm]at h2;omega
        . simp only[Value.slice.injEq,qLm]at h1
          refine⟨g,0,h1.1,(qAa.1 h3).1,λj x hj=>?_,by simp only[qLm]at h4;omega⟩
          have hjl:=(qLa.1 hj).1
          rw[h1.1,<- hwl,<- qLm (f:=Value.string)]at hown
          rw[qNz,hown.cellAt j (by simp;omega)]
          simp[hj]
     clear hcell hrange
     have alp : ∀ W : World,W.heap = wr.heap -> Calls Tryz.prog 103 #[.slice (some ⟨bk,o,none⟩) (xb.length + yn.length) cv,.string ⟨#[32]⟩] W λe w' =>
         e=.returned (.string ⟨(oV ((mV xb yn yn.length).map AY)).toArray⟩)/\Below wr.heap.size W w':=by
       intro W hWh
       have e:Lib.join ((mV xb yn yn.length).map (·.data.toList)) (⟨#[32]⟩:ByteArray).data.toList=oV ((mV xb yn yn.length).map AY):=Xr _
       have h:=HM.out
       rw[qLp]at h
       have:=Any.strings_Join Tryz.lays156 Tryz.Builder_Extra_156 bk o cv (mV xb yn yn.length) ⟨#[32]⟩ W (λj x hj=>by
        have h:=hcells j x hj
        simp only[World.cell?]at h ⊢
        rw[hWh];exact h) (by rw[hWh];exact hbk) ω hcap (by rw[e];omega)
       rw[hwl,e,hWh]at this
       exact this
     have hWs : ∀ W : World,Below wr.heap.size wr.drew W -> Calls Tryz.prog 102 #[.pointer (some ⟨b,0,none⟩),.string ⟨(oV ((mV xb yn yn.length).map AY) ++ [10]).toArray⟩] W λr w' =>
         r=.returned (.tuple #[.int .i64 (⟨(oV ((mV xb yn yn.length).map AY)++[10]).toArray⟩:ByteArray).size,.nilIface])/\zH False 5 w t b q (cs++vP (oV ((mV xb yn yn.length).map AY)++[10])) fr w':=by
       intro W hWb
       have h1:Below w.heap.size w wr.drew:=hbl.grown (row:=none) ⟨rfl,rfl,rfl,qNr _,λ_ _ _=>rfl⟩ hsz (λk e=>by cases e)
       exact agJ HB.out (h1.trans (hWb.mono hsz)) ht _ HM.out
     have mixed:Tryz.prog.follows .mixedOrders=true:=τ
     clear hcells hcap hW HY HW0
     have hl:(oV ((mV xb yn yn.length).map AY)).length<=2147483648:=by
      have h:=HM.out
      rw[qLp]at h
      omega
     have hadd:∀ W:World,(Op.stringOp .add (⟨(oV ((mV xb yn yn.length).map AY)).toArray⟩:ByteArray) ⟨#[10]⟩).run Tryz.prog W=.ok (.string ⟨(oV ((mV xb yn yn.length).map AY)++[10]).toArray⟩) W:=λW=>by
      have h1:(⟨(oV ((mV xb yn yn.length).map AY)).toArray⟩:ByteArray).size=(oV ((mV xb yn yn.length).map AY)).length:=by
       show (oV ((mV xb yn yn.length).map AY)).toArray.size=_
       rw[List.size_toArray]
      have h2:(⟨#[10]⟩:ByteArray).size=1:=rfl
      rw[run_string_add_sum (P:=Tryz.prog) (w:=W) _ _ (by rw[h1,h2];omega)]
      have h3:(⟨(oV ((mV xb yn yn.length).map AY)).toArray⟩:ByteArray)++⟨#[10]⟩=⟨(oV ((mV xb yn yn.length).map AY)++[10]).toArray⟩:=iY _ [10]
      rw[h3]
     go_region_with (first
      | (go_at_call 103;go_loud (refine(alp wr.drew rfl).mono ?_);rintro e w3 ⟨rfl,hb3⟩)
      | (go_at_call 102;go_loud (refine(hWs w3 hb3).mono ?_);rintro e w4 ⟨rfl,hput⟩))
     all_goals
      go_end0
      exact⟨rfl,hput⟩
theorem ab8(xs ys:List PV)(h:∀x∈xs,∃s,x=.str s):(mV (xs.map PV.toStr) (ys.map PV.toInt) (ys.map PV.toInt).length).map AY=xs.map (λx:PV=>x.toStr.toList)++ys.map λy:PV=>Lib.itoa y.toInt:=by
 rw[mV,List.take_length,List.map_append,List.map_map,List.map_map,List.map_map];congr 1
 .exact List.map_congr_left λx _=>(ByteArray.toList_eq _).symm
theorem agt:Po Tryz.prog tab.glob 64 [123,125] 5 (.TK uD):=by
 intro t J w b q cs C fr xs ys g1 o1 O H L o f p g D A _ _ _ _ G s F;obtain⟨rfl,F⟩:=F;have r:t=123\/t=125:=by simpa using J
 have d:∀x∈xs,∃s,x=.str s:=λx c=>by obtain⟨i,hi⟩:=List.mem_iff_getElem?.1 c;grind
 have I:=ab8 xs ys d;have K:(uD xs ys)=⟨(oV ((mV (xs.map PV.toStr) (ys.map PV.toInt) (ys.map PV.toInt).length).map AY)++[10]).toArray⟩:=by rw[I];rfl
 rw[K]at G ⊢;have z:cs.length+(oV ((mV (xs.map PV.toStr) (ys.map PV.toInt) (ys.map PV.toInt).length).map AY)++[10]).length<=2147483648:=by rw[<-List.size_toArray];exact G
 have h:=ab7 w b q cs C fr t (xs.map PV.toStr) (ys.map PV.toInt) g1 o1 O H L r (λj u a=>by
     rw[List.getElem?_map,List.getElem?_map]at a;cases c:xs[j]? with
     |none=>rw[c]at a;cases a
     |some x=>
      rw[c]at a;obtain⟨s,rfl,E⟩:=o j x c;cases a;exact E) (λj n a=>by
     rw[List.getElem?_map]at a;cases l:ys[j]? with
     |none=>rw[l]at a;cases a
     |some y=>rw[l]at a;obtain⟨m,⟨rfl,N,M⟩,E⟩:=f j y l;cases a;exact⟨E,N,M⟩) (by simpa using p) (by simpa using g) D A z F
 grind
end
end Go.Skm.Prg
