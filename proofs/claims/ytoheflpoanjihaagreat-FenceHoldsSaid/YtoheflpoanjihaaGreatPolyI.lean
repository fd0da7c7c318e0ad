import Derived.Test.YtoheflpoanjihaaGreatF7
import Derived.LoopNIn
import Derived.RangeFuncLeaves
import Derived.Test.YtoheflpoanjihaaGreatG10
set_option linter.all false
set_option maxRecDepth 100000
namespace Go.Skm.Fen
open Go Go.Skm Go.Proofs Go.RowKit
theorem aiM:cX=.seq c3 (.seq cI (.seq (.block 1 (.seq c4 (.seq c5 (.seq c8 (.block 2 eRF))))) cZ)):=by kernel_rfl
theorem apl:dZ tab.funcs 100=some afy:=by kernel_rfl
theorem aiQ:rP afy 1=true:=by kernel_rfl
theorem okC:(gy tab sU.hides c1=true/\gQ c1=true/\rY c1=true)/\(gy tab sU.hides c2=true/\gQ c2=true/\rY c2=true)/\(gy tab sU.hides c3=true/\gQ c3=true/\rY c3=true)/\(gy tab sU.hides cI=true/\gQ cI=true/\rY cI=true)/\(gy tab sU.hides c4=true/\gQ c4=true/\rY c4=true)/\(gy tab sU.hides c5=true/\gQ c5=true/\rY c5=true)/\(gy tab sU.hides c8=true/\gQ c8=true/\rY c8=true)/\(gy tab sU.hides cZ=true/\gQ cZ=true/\rY cZ=true):=by have c:=ala;have b:=agY;have a:=apg;grind
def qw:Nat->List (List V3)->List pG
 | _,[]=>[]
 | i,l::r=>fH (orient (decide (i=0)) l)++qw (i+1) r
theorem Jv:∀(r:List (List V3)) (i:Nat),qw (i+1) r=Nz r
 |[],_=>rfl
 | l::r,i=>by rw[qw,Jv r (i+1),decide_eq_false (by omega)];rfl
theorem XY(f:Fen):qw 0 (f.outer::f.holes)=iD f:=by rw[qw,Jv];rfl
structure Zw (X:Ext):Prop where
 c:∀ l:List V3,l.length<=1000->run tab X 88 [.p (.list true aU (bT l))] []=some ([.fresh true aU (bT l)],[])
def hdE(n:Nat)(i:Int):List (Nat × AV):=[(15,.slice 12 1 0 n),(16,Ab (n:Int)),(17,Ab i)]
section
variable {gl:Option (List (Nat × Obj))} {X:Ext} (hX:Mine X) (hV:Zw X) (hC:jT Tryz.prog tab gl (run tab X)) (hS:Jj Tryz.prog tab gl (run tab X))
include hX hV hC hS
theorem apm(l:List V3)(a:l.length<=1000000):QL Tryz.prog gl 100 [.ref [.list true aU (bT l)]] ((fH l).map eY):=by have _:=hV;have _:=hC;exact(hS 100 afy [.ref [.list true aU (bT l)]] _ apl aiQ (ag0 X hX l a)).2
theorem apn{h:Cx}(m:Frm gl h){b:List PV}{n i:Nat}(W:i<n)(hn:n<=1000){l:List V3}(B:b.getD i .nil=.list true aU (bT l))(V:gG l=true){a:Act}{w:World}(U:Inv h ⟨E (hdE n i),h12 b⟩ a w){Q:Exit->Act->World->Prop}{y:Code}
    (q:∀ a' w',Inv h ⟨E (hdE n i++[(34,.p (.fn 100 [.ref [.list true aU (bT (orient (decide (i=0)) l))]]))]),h12 b⟩ a' w'->y.wpIn (FW none) 0 Tryz.prog Q a' w'):(Code.seq c4 (.seq c5 (.seq c8 y))).wpIn (FW none) 0 Tryz.prog Q a w:=by
  have _:=hS;obtain⟨_,_,_,_,⟨a4,b4,d4⟩,⟨R,O,M⟩,⟨P,N,L⟩,_⟩:=okC;obtain⟨I,s2,T⟩:=ig V;have K:=ch4 (run tab X) (Ib .normal ⟨E [(3,Ab (i:Int)),(4,.p (.list true aU (((b.getD (0+(i:Int).toNat) .nil).cell 0).toList))),(15,.slice 12 1 0 n),(16,Ab (n:Int)),(17,Ab (i:Int)),(19,Ab (i:Int)),(20,.ptr 12 (0+(i:Int).toNat) 0),(21,.p (.list true aU (((b.getD (0+(i:Int).toNat) .nil).cell 0).toList)))],h12 b⟩) b n (i:Int);rw[rng W,qCt,nN]at K;refine wpIn_seq (Ld hC m a4 b4 d4 K U λa1 S J=>?_);have Y:((b.getD (0+(i:Int).toNat) .nil).cell 0).toList=bT l:=by rw[qIt,qNz,B];rfl
  rw[Y]at J;have k:Inv h ⟨E [(3,Ab (i:Int)),(4,.p (.list true aU (bT l))),(15,.slice 12 1 0 n),(16,Ab (n:Int)),(17,Ab (i:Int))],h12 b⟩ a1 S:=Inv.less J λp hp=>by simp only[List.mem_cons,List.not_mem_nil,or_false]at hp;rcases hp with rfl | rfl | rfl | rfl | rfl<;>rfl
  have j:=c47 X hX l (by omega) T;have x:=hV.c l (by omega);have e:(!((mg (lX l) (0:Int))==((i:Int)==(0:Int))))=!(decide (0<lX l)==decide (i=0)):=by grind
  show(Code.seq c5 (.seq c8 y)).wpIn _ _ _ _ _ _;by_cases o:(decide (0<lX l)==decide (i=0))=true
  . have F:orient (decide (i=0)) l=l:=by unfold orient;rw[if_pos o]
    rw[F]at q;rw[o]at e;have d:=λS0=>ch5 (run tab X) (Ib .normal S0) b n (i:Int) (bT l);rw[j]at d;simp only[qOb,qLh,bV,toInt_int]at d;rw[show(!true)=false from rfl]at e;rw[e]at d;simp only[qCf]at d;refine wpIn_seq (Ld hC m R O M ((d _).trans (nN _ _)) k λH t A=>?_);have f:Inv h ⟨E [(4,.p (.list true aU (bT l))),(15,.slice 12 1 0 n),(16,Ab (n:Int)),(17,Ab (i:Int))],h12 b⟩ H t:=Inv.less A λp hp=>by simp only[List.mem_cons,List.not_mem_nil,or_false]at hp;rcases hp with rfl | rfl | rfl | rfl<;>rfl
    show(Code.seq c8 y).wpIn _ _ _ _ _ _;have g:=λS0=>ch8 (run tab X) (Ib .normal S0) b n (i:Int) (bT l);rw[c51 X hX l]at g;simp only[qOb]at g;refine wpIn_seq (Ld hC m P N L ((g _).trans (nN _ _)) f λG s z=>?_);exact q G s (Inv.less z λp hp=>by simp only[hdE,List.cons_append,List.nil_append,List.mem_cons,List.not_mem_nil,or_false]at hp;rcases hp with rfl | rfl | rfl | rfl<;>rfl)
  . obtain ⟨v,r,rfl⟩:∃ v r,l=v::r:=by
      cases l with
      | nil=>simp at I
      | cons v r=>exact⟨v,r,rfl⟩
    have F:orient (decide (i=0)) (v::r)=v::r.reverse:=by unfold orient;rw[if_neg o];rfl
    rw[F]at q;have C:(decide (0<lX (v::r))==decide (i=0))=false:=by simpa using o
    rw[C]at e;simp only[qLl]at I s2;have d:=λS0=>ch5 (run tab X) (Ib .normal S0) b n (i:Int) (bT (v::r));have u:=c89 X hX v r (by omega);rw[j]at d;simp only[qOb,qLh,bV,toInt_int]at d;rw[show(!false)=true from rfl]at e;rw[e]at d;simp only[qCt]at d;rw[x]at d;simp only[qOb,qLh,dJ]at d;have D:(bT (v::r)).length=r.length+1:=by simp[bT]
    have g1:(leI (1:Int) (((bT (v::r)).length:Nat):Int)&&(leI (((bT (v::r)).length:Nat):Int) (((bT (v::r)).length:Nat):Int)&&leI (((bT (v::r)).length:Nat):Int) (((bT (v::r)).length:Nat):Int)))=true:=by grind
    have g2:((((bT (v::r)).length:Nat):Int)-1).toNat=r.length:=by rw[D];omega
    rw[g1,g2,u]at d;simp only[qOb,qCt,qLh]at d;refine wpIn_seq (Ld hC m R O M ((d _).trans (nN _ _)) k λH t A=>?_);have f:Inv h ⟨E [(4,.slice 4 3 0 (bT (v::r)).length),(15,.slice 12 1 0 n),(16,Ab (n:Int)),(17,Ab (i:Int))],[(12,.arr false [.slice true aU] b),(4,.arr true aU (bT (v::r.reverse)))]⟩ H t:=Inv.less A λp hp=>by simp only[List.mem_cons,List.not_mem_nil,or_false]at hp;rcases hp with rfl | rfl | rfl | rfl<;>rfl
    show(Code.seq c8 y).wpIn _ _ _ _ _ _;have g:=λS0=>aul (run tab X) (Ib .normal S0) b n (i:Int) (bT (v::r.reverse)) (bT (v::r)).length;have Z:((bT (v::r.reverse)).drop 0).take (bT (v::r)).length=bT (v::r.reverse):=by simp[qLy,List.take_of_length_le,bT]
    rw[Z,c51 X hX (v::r.reverse)]at g;simp only[qOb]at g;refine wpIn_seq (Ld hC m P N L ((g _).trans (nN _ _)) f λG s z=>?_);exact q G s (Inv.less z λp hp=>by simp only[hdE,List.cons_append,List.nil_append,List.mem_cons,List.not_mem_nil,or_false]at hp;rcases hp with rfl | rfl | rfl | rfl<;>rfl)
end
end Go.Skm.Fen
set_option maxRecDepth 100000
namespace Go.Skm.Fen
open Go Go.Skm Go.Proofs Go.RowKit
variable {Q:Exit->Act->World->Prop}
def Marks(W0:World)(O K:Nat->Prop)(a:Act)(w:World):Prop:=
 ∃ ds:List Nat,a.defers=ds.map Fj/\ds.Nodup/\∀ D∈ds,w.heap[D]?=some (.deferred (some []))/\¬ O D/\¬ K D/\W0.heap.size<=D
section
variable {gl:Option (List (Nat × Obj))} {W0:World} {J:(Nat->Prop)->(Nat->Prop)->World->Prop} {By L:Nat} {cx:Cx} {Oo Ko:Nat->Prop} {st:St} {a:Act} {w W':World} {M:Nat->Prop} {β:Nat->Option (Nat × Nat)} {Ls:List (Nat × Obj)} {ds:List Nat}
theorem Sep.anj(s:Sep gl W0 J By L cx Oo Ko)(c:Fix cx M β st.heap a w Ls ds):∀ D∈ds,w.heap[D]?=some (.deferred (some []))/\¬ Oo D/\¬ Ko D/\W0.heap.size<=D:=λD d=>by
 refine⟨(c.lies _ (c.mark D d).1).1,?_⟩;rcases(c.mark D d).2.2 with h | h
 . exact s.l0 _ h
 . have:=s.w0;exact⟨λb=>by have:=s.lt D (.inl b);omega,λb=>by have:=s.lt D (.inr b);omega,by omega⟩
theorem Sep.mO(s:Sep gl W0 J By L cx Oo Ko)(r:Rel cx.w0 cx.Pr cx.M0 M β st a w):∀ b,M b->¬ Oo b:=λb d c=>by
 rcases r.oD b d with h |⟨_,h⟩
 . exact s.m0 b h c
 . rcases h with h | h
   . have:=s.lt b (.inl c);omega
   . exact(s.pr b h).1 c
theorem Sep.end(d:Bears gl W0 J)(s:Sep gl W0 J By L cx Oo Ko)(i:Inv cx st a w):J Oo Ko w/\Marks W0 Oo Ko a w:=by obtain⟨M,β,Ls,ds,r,f,e,c,b⟩:=i;exact⟨s.now d r c,ds,b.marks,b.nodup,s.anj b⟩
theorem Sep.after(s:Sep gl W0 J By L cx Oo Ko)(r:Rel cx.w0 cx.Pr cx.M0 M β st a w)(e:Fix cx M β st.heap a w Ls ds){O' K':Nat->Prop}(g:Turns gl Oo w W')(f:W'.heap[w.heap.size]?=some (.deferred (some [])))(j:∀ b,O' b->Oo b\/w.heap.size+2<=b)(k:∀ b,K' b->Ko b\/Oo b\/w.heap.size+2<=b) :
    Marks W0 O' K' {a with defers:=Fj w.heap.size::a.defers} W':=by
  have i:=r.size;have d:∀ D∈ds,D<w.heap.size:=λD f=>(qAa.1 (s.anj e D f).1).1;refine⟨w.heap.size::ds,by show _::_=_;rw[e.marks];rfl,List.nodup_cons.2 ⟨λh=>absurd (d _ h) (Nat.lt_irrefl _),e.nodup⟩,λD c=>?_⟩;rcases List.mem_cons.1 c with rfl | c
  . refine⟨f,λh=>?_,λh=>?_,by have:=s.w0;omega⟩
    . rcases j _ h with h | h
      . have:=s.lt _ (.inl h);omega
      . omega
    . rcases k _ h with h | h | h
      . have:=s.lt _ (.inr h);omega
      . have:=s.lt _ (.inl h);omega
      . omega
  . obtain⟨n,m,o,l⟩:=s.anj e D c;have:=d D c;refine⟨(g.keep D this m).trans n,λh=>?_,λh=>?_,l⟩;all_goals grind
end
theorem Ju{gl:Option (List (Nat × Obj))}{X:Ext}(hC:jT Tryz.prog tab gl (run tab X)){cx:Cx}(d:Frm gl cx){c:Code}(hd:gy tab sU.hides c=true/\gQ c=true/\rY c=true){st:St}{a:Act}{w:World}{b:Ex}{S0:St}
    (h:dH tab (run tab X) sU (some 0) c st (Ib b S0)=some ())(i:Inv cx st a w)(e:∀ a' w',Inv cx S0 a' w'->Q b.ZM a' w'):c.wpIn (FW none) 0 Tryz.prog Q a w:=Ld hC d hd.1 hd.2.1 hd.2.2 h i e
section
variable {gl:Option (List (Nat × Obj))} {X:Ext} (hX:Mine X) (hV:Zw X) (hC:jT Tryz.prog tab gl (run tab X)) (hS:Jj Tryz.prog tab gl (run tab X))
include hX hV hC hS
theorem aug{W0:World}{M0:Nat->Prop}{J:List PV->(Nat->Prop)->(Nat->Prop)->World->Prop}{Jx:(Nat->Prop)->(Nat->Prop)->World->Prop}{L By:Nat}
    (hJ:∀ r,Bears gl W0 (J r))(Z:Bears gl W0 Jx)(o:∀ r O K W,J r O K W->∀ b,O b\/K b->b<W.heap.size)
    (hY:∀ vs r O K W (M:Nat->Prop) bF,J (.agg vs::r) O K W->W0.heap.size<=W.heap.size->(∀ b,M b->b<W.heap.size/\¬ O b/\(M0 b\/W0.heap.size<=b))->bF.size=vs.length->(∀ i c,vs[i]?=some c->VR W M c (bF.getD i undef))->Yo Tryz.prog gl L bF W (J r) Jx O K M)
    {Pl:List (List V3)}(U:∀ l∈Pl,gG l=true)(q:Pl.length<=1000)(aup:∀ a w O K,J [] O K w->Marks W0 O K a w->Q (.exit 0) a w)(apo:∀ a w O K,Jx O K w->Marks W0 O K a w->Q .ret a w) :
    ∀(r:List (List V3)) (i:Nat),Pl.drop i=r->i<=Pl.length->∀(a:Act) (w:World) (cx:Cx) (Oo Ko:Nat->Prop),Sep gl W0 (J ((qw i r).map eY)) By L cx Oo Ko->Inv cx ⟨E (hdE Pl.length i),h12 (dG Pl)⟩ a w->Code.roundsIn (FW none) 0 Tryz.prog cX Q (r.length+1) a w:=by
  obtain⟨_,_,o3,oI,_,_,_,oZ⟩:=okC;intro r;induction r with
  | nil =>intro i I hi a w cx Oo Ko s B;have d:Pl.length<=i:=List.drop_eq_nil_iff.1 I;rw[roundsIn_succ,aiM];have e3:=λS0=>ch3 (run tab X) (Ib .normal S0) (dG Pl) Pl.length (i:Int);refine wpIn_seq (Ju hC s.frm o3 ((e3 _).trans (nN _ _)) B λa1 w1 n=>?_);have eI:=λS0=>chI (run tab X) (Ib (.exit 0) S0) (dG Pl) Pl.length (i:Int) false;rw[O3 (by omega)]at n;show(Code.seq cI _).wpIn _ _ _ _ _ _;refine wpIn_seq (Ju hC s.frm oI ((eI _).trans (nN _ _)) n λa2 x D=>?_);obtain⟨h1,h2⟩:=s.end (hJ _) D;exact aup a2 x Oo Ko h1 h2
  | cons l r ih =>
   intro i I hi a w cx Oo Ko s B;have d:i<Pl.length:=by grind
   have hv:gh Pl i=l:=by grind[qLb,List.head?_drop]
   have hm:l∈Pl:=hv▸DX d;have g:=U l hm;rw[roundsIn_succ,aiM];have e3:=λS0=>ch3 (run tab X) (Ib .normal S0) (dG Pl) Pl.length (i:Int);refine wpIn_seq (Ju hC s.frm o3 ((e3 _).trans (nN _ _)) B λa1 w1 n=>?_);have eI:=λS0=>chI (run tab X) (Ib .normal S0) (dG Pl) Pl.length (i:Int) true;rw[F6 d]at n;show(Code.seq cI _).wpIn _ _ _ _ _ _;refine wpIn_seq (Ju hC s.frm oI ((eI _).trans (nN _ _)) n λa2 x D=>?_);have C:Inv cx ⟨E (hdE Pl.length i),h12 (dG Pl)⟩ a2 x:=Inv.less D λp hp=>by simp only[hdE,List.mem_cons,List.not_mem_nil,or_false]at hp;rcases hp with rfl | rfl | rfl<;>rfl
   show(Code.seq (.block 1 _) cZ).wpIn _ _ _ _ _ _;refine wpIn_seq (wpIn_block ?_);refine apn hX hV hC hS s.frm d q (by rw[kX Pl d,hv]) g C λk w4 i4=>wpIn_block ?_;obtain⟨M,β,Ls,ds,e,j1,j2,j3,j⟩:=i4;have h:=e.slot 34;have he:(E (hdE Pl.length i++[(34,.p (.fn 100 [.ref [.list true aU (bT (orient (decide (i=0)) l))]]))])).getD 34 .undef=.p (.fn 100 [.ref [.list true aU (bT (orient (decide (i=0)) l))]]):=rfl;rw[he]at h;obtain⟨u,y,S,P⟩:∃ u:Array Value,k.tmps.getD 34 undef=.func (.func 100) #[] u/\u.size=1/\∀(m:Nat) (c:PV),([.ref [.list true aU (bT (orient (decide (i=0)) l))]]:List PV)[m]?=some c->VR w4 M c (u.getD m undef):=by
    generalize k.tmps.getD 34 undef=c at h;cases h with
    | p _ _ F=>cases F with | fn _ _ vs hn hc=>exact⟨vs,rfl,hn,hc⟩
   have H:k.tmps.size=43:=j.size.trans s.frm.t0;have t2:k.tmps.getD 2 undef=.pointer (some ⟨By,0,none⟩):=(j.tmps 2 (by rw[s.frm.wr];simp)).trans s.t2;have T:=j.lies _ (j.sub _ s.box);have t:=s.now (hJ _) e j3;have hrs:=e.size;have R:(orient (decide (i=0)) l).length<=1000000:=by have h1:=(uM (b:=decide (i=0)) g).2;have h2:=(ig g).2.1;omega
   have eE:(qw i (l::r)).map eY=(fH (orient (decide (i=0)) l)).map eY++(qw (i+1) r).map eY:=by rw[qw,List.map_append]
   rw[eE]at t;refine ak9 (OA:=Oo) (KA:=Ko) hJ Z o hY (apm hX hV hC hS _ R) H t2 y S P (λb hb=>⟨e.iU b hb,s.mO e b hb⟩) (λp hp=>by
    have N:p∈cx.w0.gl.getD []:=by rw[s.frm.hgl];exact hp
    exact e.glob p N) (by have:=s.w0;omega) t T.1 (s.l0 _ s.box).1 ?_ ?_
   . intro W' O' K' v G hD V Y f;obtain⟨Ny,s',A⟩:=Sep.anew (J':=J ((qw (i+1) r).map eY)) s e j1 j2 j v G hD V Y (o _ _ _ _ v) f;have z:Inv Ny ⟨E (hdE Pl.length i),h12 (dG Pl)⟩ {k with defers:=Fj w4.heap.size::k.defers} W':=Inv.less A λp hp=>by simp only[hdE,List.mem_cons,List.not_mem_nil,or_false]at hp;rcases hp with rfl | rfl | rfl<;>rfl
     have eZ:=λS0=>chZ (run tab X) (Ib .normal S0) (dG Pl) Pl.length (i:Int);show cZ.wpIn _ _ _ _ _ _;refine Ju hC s'.frm oZ ((eZ _).trans (nN _ _)) z λa5 w5 i5=>?_;rw[kG (by omega)]at i5;exact ih (i+1) (by rw[<- List.tail_drop,I];rfl) (by omega) a5 w5 Ny O' K' s' (Inv.less i5 λp hp=>by simp only[hdE,List.mem_cons,List.not_mem_nil,or_false]at hp;rcases hp with rfl | rfl | rfl<;>rfl)
   . intro W' O' K' v G hD V Y f;exact apo _ W' O' K' v (s.after e j G hD V Y)
end
end Go.Skm.Fen
set_option maxRecDepth 100000
namespace Go.Skm.Fen
open Go Go.Skm Go.Proofs Go.RowKit
theorem agX:Tryz.f87.ntmps=43:=by kernel_rfl
theorem aiK:Tryz.f87.results=#[]:=by kernel_rfl
theorem afv{gl:Option (List (Nat × Obj))}{W0:World}{J:(Nat->Prop)->(Nat->Prop)->World->Prop}(p:Bears gl W0 J){a:Act}{w:World}{O K:Nat->Prop}(n:J O K w)(m:Marks W0 O K a w){R:Ending->World->Prop}(o:∀ v w',J O K w'->R (.returned v) w') :
    LeavesInM (FW none) 0 Tryz.prog Tryz.f87 a.tmps R a.defers .returning w:=by
  obtain⟨ds,s,r,d⟩:=m;rw[s];refine CV ds w r (λD q=>(d D q).1) λw' l t k j i h=>?_;refine⟨BN [],Aw (cs:=[]) (by rw[aiK];rfl),o _ _ ?_⟩;refine p _ _ _ _ (λb=>b∈ds) n ⟨by omega,λb _ c=>l b c,k,j,i,λu=>by rw[h];exact qNr _⟩ λb c=>?_;obtain⟨_,g,f,e⟩:=d b c;exact⟨e,g,f⟩
section
variable {gl:Option (List (Nat × Obj))} {X:Ext} (hX:Mine X) (hV:Zw X) (hC:jT Tryz.prog tab gl (run tab X)) (hS:Jj Tryz.prog tab gl (run tab X))
include hX hV hC hS
theorem am4(f:Fen)(hf:sS f):QL Tryz.prog gl 87 [.ref (I4 f)] ((vg f).map eY):=by
 obtain⟨o1,o2,_⟩:=okC;intro W0 M0 L i J Jx O0 z hlb hlv k N M C hY h0;have Z:i.size=1:=hlb;have V:VR W0 M0 (.ref (I4 f)) (i.getD 0 undef):=hlv 0 _ rfl;refine Jt (rd:=none) (n:=0) (callsIn_of_wp_marks Tryz.func87 ane trivial ?_);generalize hR:(λ(e:Ending) (W':World)=>(∃ v,e=.returned v)/\∃ O K:Nat->Prop,J [] O K W'\/Jx O K W')=R;have I:∀ a w O K,J [] O K w->Marks W0 O K a w->LeavesInM (FW none) 0 Tryz.prog Tryz.f87 a.tmps R a.defers .returning w:=λa w O K y x=>afv (N []) y x λv w' h=>by rw[<- hR];exact⟨⟨v,rfl⟩,O,K,.inl h⟩
 have hQX:∀ a w O K,Jx O K w->Marks W0 O K a w->LeavesInM (FW none) 0 Tryz.prog Tryz.f87 a.tmps R a.defers .returning w:=λa w O K y x=>afv M y x λv w' h=>by rw[<- hR];exact⟨⟨v,rfl⟩,O,K,.inr h⟩
 have Y:(#[MQ L]++i).size=2:=by rw[Array.size_append,Z];rfl
 have W:(#[MQ L]++i++Array.replicate (Tryz.f87.ntmps-(#[MQ L]++i).size) undef).size=43:=by rw[Array.size_append,Y,Array.size_replicate,agX]
 have t0:(#[MQ L]++i++Array.replicate (Tryz.f87.ntmps-(#[MQ L]++i).size) undef).getD 0 undef=MQ L:=by rw[qAb,Array.getElem?_append_left (by omega),Array.getElem?_append_left (by simp)];rfl
 have t1:(#[MQ L]++i++Array.replicate (Tryz.f87.ntmps-(#[MQ L]++i).size) undef).getD 1 undef=i.getD 0 undef:=by rw[qAb,Array.getElem?_append_left (by omega),Array.getElem?_append_right (by simp),qAb];simp
 generalize #[MQ L]++i++Array.replicate (Tryz.f87.ntmps-(#[MQ L]++i).size) undef=T at *;refine wpIn_seq ?_;rw[ao5];refine wpIn_region_list ?_;have e0:({tmps:=T,defers:=[]}:Act).eval (.tmp 0)=MQ L:=t0;refine qU rfl (by simp[Oper.about]) (λc h=>by cases h) (v:=.pointer (some ⟨W0.heap.size,0,none⟩)) (w':=W0.alloc (.cells #[MQ L] 122 (0,0))) (by simp only[execOp,e0];simp[Instr.box,newVar,newRow,Value.cells]) ?_;refine wpListIn_nil ?_;generalize hA:(({tmps:=T,defers:=[]}:Act).put (some 2) (.pointer (some ⟨W0.heap.size,0,none⟩)))=A;have Asz:A.tmps.size=43:=by rw[<- hA,qp];exact W
 have A1:A.tmps.getD 1 undef=i.getD 0 undef:=by rw[<- hA,Bv (by decide)];exact t1
 have A2:A.tmps.getD 2 undef=.pointer (some ⟨W0.heap.size,0,none⟩):=by rw[<- hA,yt (by show 2<T.size;omega)]
 have Ad:A.defers=[]:=by rw[<- hA];rfl
 have hbx:=World.alloc_heap_new W0 (.cells #[MQ L] 122 (0,0));have H:uZ gl W0 (W0.alloc (.cells #[MQ L] 122 (0,0))):=uZ.alloc W0 _;have hws:(W0.alloc (.cells #[MQ L] 122 (0,0))).heap.size=W0.heap.size+1:=by simp
 generalize W0.alloc (.cells #[MQ L] 122 (0,0))=Wb at *;have hO0:∀ b,O0 b->b<W0.heap.size:=λb d=>C _ _ _ _ h0 b (.inl d);have hJb:=(N _).grows h0 H;let j:Cx:={w0:=⟨Wb,Wb.heap.size,qNr _,gl⟩,Pr:=λ_=>False,M0:=M0,XR:=λ_=>none,hp0:=[],Wr:=λt=>t≠2,t0:=A.tmps,rd:=none,L0:=[(W0.heap.size,.cells #[MQ L] 122 (0,0))],nm:=W0.heap.size};have G:∀ b,b<W0.heap.size->Wb.heap[b]?=W0.heap[b]?:=λb d=>H.keep b d λh=>h;have m:Frm gl j:=⟨rfl,rfl,rfl,rfl,rfl,Asz⟩;have g:Sep gl W0 (J ((vg f).map eY)) W0.heap.size L j O0 (λ_=>False):=by refine⟨m,hJb,λb d=>d.elim (λh=>by have:=hO0 b h;show b<Wb.heap.size;omega) λh=>h.elim,λb d=>(k b d).2,λb d=>d.elim,λp hp=>?_,List.mem_singleton.2 rfl,A2,by show W0.heap.size<=Wb.heap.size;omega,by show W0.heap.size<=Wb.heap.size;omega⟩;grind
 have r:Inv j ⟨E [(1,rfE (bT f.outer) (dG f.holes) f.low f.high)],[]⟩ A Wb:=by
  refine⟨M0,λ_=>none,[(W0.heap.size,.cells #[MQ L] 122 (0,0))],[],⟨by show(E _).length<=_;rw[afw];omega,λt v q=>?_,λs blk h=>(by cases h),λs b o h=>(by cases h),λs s' b o o' h=>(by cases h),λb d=>by have:=(k b d).1;omega,λb d=>.inl d,λb d=>d,λ_ _ _=>rfl,λ_ _ _ h=>h.elim,qNr _,rfl,rfl,rfl,λp hp=>⟨(z p hp).1,(G _ (k _ (z p hp).1).1).trans (z p hp).2⟩⟩,λ_ _=>rfl,λs _ blk h=>(by cases h),.refl _ _,⟨λp hp=>?_,λp hp=>hp,Ad,List.nodup_nil,λD hD=>by simp at hD,λl hl=>(by cases hl),rfl,λ_ _=>rfl,λh=>absurd m.abH h,λ_ h=>h.elim,by show W0.heap.size<=Wb.heap.size;omega⟩⟩
  . obtain⟨ht,rfl⟩:=amE _ t v q;by_cases h1:t=1
    . subst h1;rw[A1];exact .p _ _ (V.mono λb d=>⟨d,G b (k b d).1⟩)
    . have:dZ [(1,rfE (bT f.outer) (dG f.holes) f.low f.high)] t=none:=by grind[dZ]
      rw[this];exact .undef _
  . rw[List.mem_singleton.1 hp];exact⟨hbx,λ⟨s,o,h,_⟩=>(by cases h),λh=>absurd (k _ h).1 (Nat.lt_irrefl _)⟩
 have B:=c18 X hX f hf;have u:=λ(e0:Ex) S0=>ch1 (run tab X) (Ib e0 S0) (bT f.outer) (dG f.holes) f.low f.high;rw[kZ]at B;rw[B]at u;simp only[qOb,qLh,bV,bf]at u;show(Code.seq c1 _).wpIn _ _ _ _ _ _;cases q:eX f with
 | false =>
  rw[q]at u;simp only[qBf,qCt]at u;refine wpIn_seq (Ju hC m o1 ((u .ret _).trans (nN _ _)) r λa1 P U=>?_);have he:vg f=[]:=by unfold vg;rw[q];rfl
  rw[he]at g;obtain⟨k1,k2⟩:=g.end (N _) U;exact I a1 P _ _ k1 k2
 | true =>
  rw[q]at u;simp only[qBt,qCf]at u;refine wpIn_seq (Ju hC m o1 ((u .normal _).trans (nN _ _)) r λa1 P U=>?_);have he:vg f=qw 0 (f.outer::f.holes):=by unfold vg;rw[if_pos q,XY]
  rw[he]at g;obtain⟨v1,v2⟩:=mM q;have hn:=(Dl q).2.1;have S:Inv j ⟨E [(1,rfE (bT f.outer) (dG f.holes) f.low f.high)],[]⟩ a1 P:=Inv.less U λp hp=>by rw[List.mem_singleton.1 hp];rfl
  have e2:=λS0=>ch2 (run tab X) (Ib .normal S0) (bT f.outer) (dG f.holes) f.low f.high;have hl2:F5 (1+(dG f.holes).length) 2147483648=true:=decide_eq_true (by rw[dL];omega);rw[hl2]at e2;simp only[qCt]at e2;show(Code.seq c2 _).wpIn _ _ _ _ _ _;refine wpIn_seq (Ju hC m o2 ((e2 _).trans (nN _ _)) S λa2 w2 i2=>?_);show(Code.block 0 _).wpIn _ _ _ _ _ _;refine wpIn_block (wpIn_loop_rounds ((f.outer::f.holes).length+1) ?_);have F:1+(dG f.holes).length=(f.outer::f.holes).length:=by rw[dL,qLl];omega
  have hps:([.list true aU (bT f.outer)]:List PV)++dG f.holes=dG (f.outer::f.holes):=rfl;rw[F,hps]at i2;have Q:Inv j ⟨E (hdE (f.outer::f.holes).length ((0:Nat):Int)),h12 (dG (f.outer::f.holes))⟩ a2 w2:=Inv.less i2 λp hp=>by simp only[hdE,List.mem_cons,List.not_mem_nil,or_false]at hp;rcases hp with rfl | rfl | rfl<;>rfl
  have hcx:Code.seq c3 (.seq cI (.seq (.block 1 (.seq c4 (.seq c5 (.seq c8 (.block 2 eRF))))) cZ))=cX:=aiM.symm;rw[hcx];refine aug hX hV hC hS N M C hY (λl hl=>?_) (by rw[qLl];omega) (λa w O K y x=>?_) (λa w O K y x=>?_) (f.outer::f.holes) 0 rfl (Nat.zero_le _) a2 w2 j O0 _ g Q
  . grind
  . have:Exit.inBlock 0 (bodyPostM (FW none) 0 Tryz.prog Tryz.f87 R) (.exit 0) a w=bodyPostM (FW none) 0 Tryz.prog Tryz.f87 R .normal a w:=by simp[Exit.inBlock]
    rw[this];exact I a w O K y x
  . exact hQX a w O K y x
end
end Go.Skm.Fen
set_option maxRecDepth 100000
namespace Go.Skm.Fen
open Go Go.Skm Go.Proofs Go.RowKit Go.Lib Go.Sort
variable {gl:Option (List (Nat × Obj))}
theorem run_seq{P:Program}{T:Tab}(ok:fB P T){X:Ext}(d:vF P T gl X):Jj P T gl (run T X):=by intro g fi a r c hp h;obtain⟨n,b⟩:=Jk h;exact(ni ok d n).2 g fi a r c hp b
theorem amy(t:TypeId)(n:Nat)(h:(Tryz.prog.info? t).map (λi=>(i.zero.map (λz:Value=>z.cells.size),i.size,decide (i.bytes<=1000)))=some (some n,n,true)):∃ a z,Tryz.prog.info? t=some a/\a.zero=some z/\a.size=n/\z.cells.size=n/\a.bytes<=1000:=by
 cases c:Tryz.prog.info? t with
 | none=>rw[c]at h;cases h
 | some i =>
  rw[c]at h;cases b:i.zero with
  | none=>rw[Option.map_some,b]at h;cases h
  | some z =>rw[Option.map_some,b]at h;simp only[Option.map_some,qOa,Prod.mk.injEq,qDa]at h;exact⟨i,z,rfl,b,h.2.1,h.1,h.2.2⟩
theorem aoG:Zv Tryz.prog tab Tryz.Jl 88 am2 22 26 true aU:=⟨Tryz.adK,rfl,by kernel_rfl,⟨_,rfl⟩,rfl,by kernel_rfl,by kernel_rfl,by kernel_rfl,amy 26 3 (by kernel_rfl),by decide,λw=>Tryz.sizeOf26 w⟩
theorem aoH:Zv Tryz.prog tab Tryz.Jm 193 aiu 140 143 false kU:=⟨Tryz.adL,rfl,by kernel_rfl,⟨_,rfl⟩,rfl,by kernel_rfl,by kernel_rfl,by kernel_rfl,amy 143 1 (by kernel_rfl),by decide,λw=>Tryz.sizeOf143 w⟩
theorem Yf{a:Bool}{ks:List Kd}{xs:List PV}(h:xs.length<=100000):Ns a ks [.p (.list a ks xs)] []=some ([.fresh a ks xs],[]):=by
 unfold Ns;have b:Kd.Fe ks ks=true:=by simpa using Kd.rO ks
 simp[b,h]
def afm:Ext:=MB [(88,Ns true aU)]
theorem aiv:Mine afm:=by
 intro f h;simp only[am3,Bool.or_eq_false_iff]at h;obtain⟨_,_,a,_⟩:=h;unfold afm MB;have:(88==f)=false:=by rw[beq_eq_false_iff_ne]at a ⊢;exact λe=>a e.symm
 simp only[dZ,this,qCf]
theorem agD:Zw afm:=⟨λl a=>Uf (fi:=am2) (by kernel_rfl) rfl (Yf (by simp[bT];omega))⟩
theorem afn(hne:gl≠none):vF Tryz.prog tab gl afm:=Ht (by kernel_rfl) (Jo hne aoG rfl) adJ
theorem aiw{a b:V3}(h:cO a=cO b):a=b:=by unfold cO at h;simp only[PV.agg.injEq,List.cons.injEq,PV.int.injEq,true_and,and_true]at h;obtain⟨e,d,c⟩:=h;cases a;cases b;simp_all
theorem abp{l m:List V3}(h:bT l=bT m):l=m:=List.map_inj_right (λ_ _=>aiw) |>.1 h
theorem agE{l m:List (List V3)}(h:dG l=dG m):l=m:=List.map_inj_right (f:=λh=>PV.list true aU (bT h)) (λa b e=>abp (by simpa using e)) |>.1 h
theorem aix{f g:Fen}(h:I4 f=I4 g):f=g:=by simp only[I4,List.cons.injEq,PV.list.injEq,PV.int.injEq,true_and,and_true]at h;obtain⟨b,a,c,h4⟩:=h;have e:=abp b;have d:=agE a;cases f;cases g;simp_all
noncomputable def UM:IV:=λargs bl=>open Classical in if h:∃ f:Fen,sS f/\args=[.yL,.p (.ref (I4 f))]/\bl=[.log true []]then some ([],[.log true ((vg h.choose).map eY)])else none
theorem agF(f:Fen)(a:sS f):UM [.yL,.p (.ref (I4 f))] [.log true []]=some ([],[.log true ((vg f).map eY)]):=by
 unfold UM;have h:∃ g:Fen,sS g/\([.yL,.p (.ref (I4 f))]:List AV)=[.yL,.p (.ref (I4 g))]/\([.log true []]:List bZ)=[.log true []]:=⟨f,a,rfl,rfl⟩;rw[dif_pos h];have b:I4 f=I4 h.choose:=by
  have c:=h.choose_spec.2.1;injection c with _ h1
  injection h1 with h2 _
  injection h2 with h3
  injection h3
 have e:h.choose=f:=(aix b).symm;rw[e]
theorem adM(a:gl≠none):adN Tryz.prog tab gl 87 UM:=by
 intro fi args bl r b h;unfold UM at h;split at h
 . next hx =>
   obtain⟨f,d,c⟩:=hx.choose_spec;cases h;refine⟨[.ref (I4 hx.choose)],d,c,?_,?_⟩
   . have:fi=sU:=by
       have e:dZ tab.funcs 87=some sU:=by kernel_rfl
       rw[e]at b;exact(Option.some.inj b).symm
     rw[this];exact Tryz.func87
   . exact am4 aiv agD (Qw OD (afn a)) (run_seq OD (afn a)) hx.choose f
 . cases h
end Go.Skm.Fen
set_option maxRecDepth 100000
namespace Go.Skm.Fen
section
open Go Go.Skm Go.Proofs Go.RowKit Go.Lib Go.Sort
variable {gl:Option (List (Nat × Obj))}
theorem akV{x y:Rt}(h:uG x=uG y):x=y:=by have b:=Zx x y;rw[h]at b;have a:=Zx y y;rw[b]at a;exact of_decide_eq_true (a.trans (decide_eq_true rfl))
instance:Inhabited Vr:=⟨⟨⟨0,1⟩,by decide +kernel⟩⟩
noncomputable def akW(p:PV):Option Vr:=open Classical in if h:∃ x:Vr,p=uG x.1 then some h.choose else none
noncomputable def Yg:SortEnc Vr where
 ks:=kR
 pc x:=[.bool (decide (x.1.n<0)),.str (vk x.1.n.natAbs),.bool (decide (x.1.d<0)),.str (vk x.1.d.natAbs)]
 dec:=akW
 len _:=rfl
 flat x c hc:=by
  simp only[List.mem_cons,List.not_mem_nil,or_false]at hc
  rcases hc with rfl | rfl | rfl | rfl<;>rfl
 kinds _:=rfl
 enc_dec x:=by
  have h:∃ y:Vr,uG x.1=uG y.1:=⟨x,rfl⟩
  show akW (uG x.1)=some x
  unfold akW
  rw[dif_pos h]
  exact congrArg some (Subtype.ext (akV h.choose_spec.symm))
 dec_enc p x h:=by
  unfold akW at h
  split at h
  . next hx =>
    cases h
    exact hx.choose_spec
  . cases h
def cfR(x y:Vr):Int:=(x.1.n*y.1.d-y.1.n*x.1.d).sign
theorem Zy(x y:Vr):ltOf cfR x y=decide (Di x.1 y.1):=by unfold ltOf cfR Di;apply decide_eq_decide.2;rw[Int.sign_neg_iff];omega
theorem am6:SWO (ltOf cfR):=by
 have hd:∀ x:Vr,0<x.1.d:=λx=>x.2.2.2;refine⟨λx=>?_,λx y z b a=>?_,λx y z b a=>?_⟩
 . rw[Zy,decide_eq_false_iff_not];unfold Di;omega
 . rw[Zy,qDa]at b a ⊢;apply Decidable.byContradiction;intro c;have e:¬ Di y.1 x.1:=by unfold Di at b ⊢;omega
   exact yZ (hd z) (hd x) (hd y) c e a
 . rw[Zy,decide_eq_false_iff_not]at b a ⊢;exact yZ (hd z) (hd y) (hd x) a b
theorem afo:Mine (MB []):=λ_ _=>rfl
theorem adO(hne:gl≠none):UN Tryz.prog tab gl 74 (Qx Yg cfR 73):=
 XU hne Tryz.laysSort Yg (by decide) (λw=>Tryz.isAgg45 w) (λw=>Tryz.sizeOf45 w) am6 (enters_of Tryz.func73 (by kernel_rfl) rfl)
  (λw x y=>agG OD adJ (fi:=aoI) (by kernel_rfl) rfl (t:=3) rfl Yg (c73 (MB []) afo (words afo rfl rfl) x.1 y.1 x.2 y.2) w)
  (fi:=am7) rfl (by kernel_rfl) rfl rfl rfl
noncomputable def abq:Ext:=MB [(74,Qx Yg cfR 73),(87,UM),(88,Ns true aU),(193,Ns false kU)]
theorem akX{f n:Nat}(a:(f==n)=false):(n==f)=false:=by rw[beq_eq_false_iff_ne]at a ⊢;exact λe=>a e.symm
theorem afp:Mine abq:=by intro f h;simp only[am3,Bool.or_eq_false_iff]at h;obtain⟨d,c,b,h4,h5,a⟩:=h;unfold abq MB;simp only[dZ,akX d,akX c,akX b,akX a,qCf]
theorem am8(hne:gl≠none):vF Tryz.prog tab gl abq:=
 Ht (by kernel_rfl) (adO hne) (abr (by kernel_rfl) (adM hne) (Ht (by kernel_rfl) (Jo hne aoG rfl) (Ht (by kernel_rfl) (Jo hne aoH rfl) adJ)))
theorem aiy:Words abq:=words afp rfl rfl
theorem akY:Bits abq:=⟨aiy,λl a=>Uf (fi:=aiu) (by kernel_rfl) rfl (Yf (by simpa[bI] using a))⟩
theorem aiz:OE abq:=⟨λf hf=>Uf (fi:=sU) (by kernel_rfl) rfl (agF f hf)⟩
theorem afq(l:List Vr):Yg.encs l=abt l:=by unfold SortEnc.encs abt encR;rw[List.map_map];rfl
theorem aiA:Sorts abq:=⟨λl c=>⟨UO cfR l,(Qy am6 l).1,by
    unfold Srt;rw[List.pairwise_map];exact(Qy am6 l).2.imp λ{a b} h=>by rw[Zy,decide_eq_false_iff_not]at h;exact h,by
    refine Uf (fi:=am7) (by kernel_rfl) rfl ?_;have:=agI Yg cfR 73 l c (by rfl);rwa[afq,afq]at this⟩⟩
end
section
variable {a b c d:Pt}{p q:Nat->Pt}{n:Nat}
theorem YL:meet a b c d↔meet c d a b:=by
 have e:∀ x y z w:Int,(x*y<0/\z*w<0)↔(z*w<0/\x*y<0):=λ_ _ _ _=>And.comm;unfold meet;constructor
 . rintro (h | h | h | h | h)
   . exact .inr (.inr (.inl h))
   . exact .inr (.inr (.inr (.inl h)))
   . exact .inl h
   . exact .inr (.inl h)
   . exact .inr (.inr (.inr (.inr h.symm)))
 . rintro (h | h | h | h | h)
   . exact .inr (.inr (.inl h))
   . exact .inr (.inr (.inr (.inl h)))
   . exact .inl h
   . exact .inr (.inl h)
   . exact .inr (.inr (.inr (.inr h.symm)))
theorem ahp(h:meet a b c d):meet d c b a:=meet_comm.1 (Dp.1 (YL.1 h))
def Rev(p q:Nat->Pt)(n:Nat):Prop:=∀ i,∃ c,n<=c/\∀ t,t<=n->q (i+t)=p (c-t)
theorem Poly.rev(h:Poly p n)(r:Rev p q n)(s:∀ i,q (i+n)=q i):Poly q n:=by
 have n3:=h.n3;refine⟨n3,s,λi e=>?_,λi m u t l=>?_,λi j=>?_,λi j=>?_⟩
 . obtain⟨c,o,g⟩:=r i;have f:=g 0 (by omega);rw[g 1 (by omega),show q i=p c from f]at e;have:=h.ne (c-1);rw[show c-1+1=c by omega]at this;exact this e.symm
 . obtain⟨c,o,g⟩:=r i;have f:=g 0 (by omega);have k:=h.far (c-m-1) m u t;rw[show c-m-1+1=c-m by omega,show c-m-1+m=c-1 by omega,show c-1+1=c by omega]at k;rw[Nat.add_assoc i m 1,g (m+1) (by omega),g m (by omega),g 1 (by omega)]at l;rw[show q i=p c from f,show c-(m+1)=c-m-1 by omega]at l;exact k (ahp l)
 . obtain⟨c,o,g⟩:=r i;have f:=g 0 (by omega);have k:=h.Pq (c-2);rw[show c-2+1=c-1 by omega,show c-2+2=c by omega]at k;rw[g 1 (by omega),g 2 (by omega),show q i=p c from f]at j;exact k (sD.1 j)
 . obtain⟨c,o,g⟩:=r i;have f:=g 0 (by omega);have k:=h.Po (c-2);rw[show c-2+1=c-1 by omega,show c-2+2=c by omega]at k;rw[g 1 (by omega),g 2 (by omega),show q i=p c from f]at j;exact k (sD.1 j)
theorem ajG(f:Nat->Int)(k:Nat):∀ n,sg f (k+1) n=sg (λi=>f (i+1)) k n
 | 0=>rfl
 | n+1=>by show sg f (k+1) n+f (k+1+n)=sg (λi=>f (i+1)) k n+f (k+n+1);rw[ajG f k n,show k+1+n=k+n+1 by omega]
theorem aek(f:Nat->Int)(k:Nat):∀ n,sg (λi=>f (k+n-1-i)) 0 n=sg f k n
 | 0=>rfl
 | n+1=>by
  rw[Uo,Nat.zero_add,ajG];have e:sg (λi=>f (k+(n+1)-1-(i+1))) 0 n=sg (λi=>f (k+n-1-i)) 0 n:=vP λi _ _=>by show f _=f _;congr 1;omega
  rw[e,aek f k n];show f (k+(n+1)-1-0)+sg f k n=sg f k n+f (k+n);rw[show k+(n+1)-1-0=k+n by omega];omega
theorem aej(f:Nat->Int)(k:Nat):∀ n,sg (λi=>- f i) k n=- sg f k n
 | 0=>rfl
 | n+1=>by show sg (λi=>- f i) k n+- f (k+n)=- (sg f k n+f (k+n));rw[aej f k n];omega
theorem ajH(hp:∀ i,p (i+n)=p i)(r:Rev p q n)(x:Pt):qB q n x=- qB p n x:=by
 obtain⟨c,m,g⟩:=r 0;have e:qB q n x=sg (λi=>- (λj=>cr x (p j) (p (j+1))) (c-n+n-1-i)) 0 n:=vP λi _ l=>by have h:=g i (by omega);have f:=g (i+1) (by omega);rw[Nat.zero_add]at h f;show cr x (q i) (q (i+1))=- cr x (p (c-n+n-1-i)) (p (c-n+n-1-i+1));rw[h,f,show c-n+n-1-i=c-(i+1) by omega,show c-(i+1)+1=c-i by omega];exact aam _ _ _
 rw[e,aej (λi=>(λj=>cr x (p j) (p (j+1))) (c-n+n-1-i))];have k:=aek (λj=>cr x (p j) (p (j+1))) (c-n) n;rw[acy hp]at k;exact congrArg Neg.neg k
theorem ajI(l:0<n)(hp:∀ i,p (i+n)=p i)(r:Rev p q n)(x:Pt):Jw q n x↔Jw p n x:=by
 have f:∀{i j:Nat},i%n=j%n->p i=p j:=λ{i j} h=>by rw[Il hp i,Il hp j,h]
 constructor
 . rintro ⟨i,A,e⟩;obtain⟨c,u,g⟩:=r i;have v:q i=p c:=g 0 (by omega);rw[g 1 (by omega),v]at e;refine⟨(c-1)%n,Nat.mod_lt _ l,?_⟩;rw[f (i:=(c-1)%n) (j:=c-1) (Nat.mod_mod _ _),f (i:=(c-1)%n+1) (j:=c) (by rw[Nat.mod_add_mod,show c-1+1=c by omega])];exact sD.1 e
 . rintro ⟨j,z,e⟩;obtain⟨c,u,g⟩:=r 0;have s:(c-(j+1))%n<n:=Nat.mod_lt _ l;have hd:=Nat.div_add_mod (c-(j+1)) n;generalize (c-(j+1))%n=t at *;generalize (c-(j+1)) / n=k at *;have y:c-t=(j+1)+n*k:=by omega
   have w:c-(t+1)=j+n*k:=by omega
   refine⟨t,s,?_⟩;have o:=g t (by omega);have m:=g (t+1) (by omega);rw[Nat.zero_add]at o m;rw[o,m,y,w,f (i:=j+1+n*k) (j:=j+1) (Nat.add_mul_mod_self_left _ _ _),f (i:=j+n*k) (j:=j) (Nat.add_mul_mod_self_left _ _ _)];exact sD.1 e
theorem alG(j:0<n)(hp:∀ i,p (i+n)=p i)(r:Rev p q n)(x:Pt):Oz q n x=Oz p n x:=by
 have e:=ajI j hp r x;have g:=ajH hp r x;unfold Oz;by_cases h:Jw p n x
 . rw[if_pos h,if_pos (e.2 h)]
 . rw[if_neg h,if_neg λh'=>h (e.1 h'),g];by_cases f:qB p n x=0
   . rw[f];rfl
   . rw[if_pos f,if_pos (by omega)]
theorem Rev.scp{p q:Nat->Pt}{n:Nat}(r:Rev p q n)(D:Int):Rev (λi=>Fen.scp D (p i)) (λi=>Fen.scp D (q i)) n:=λi=>by obtain⟨c,f,g⟩:=r i;exact⟨c,f,λt e=>congrArg (Fen.scp D) (g t e)⟩
end
end Go.Skm.Fen
