import Derived.Test.YtoheflpoanjihaaGreatF7
import Derived.LoopNIn
import Derived.RangeFuncLeaves
set_option linter.all false
set_option maxRecDepth 100000
namespace Go.Skm.Fen
open Go Go.Skm Go.Proofs Go.RowKit
theorem Q9:cX=.seq c3 (.seq cI (.seq (.block 1 (.seq c4 (.seq c5 (.seq c8 (.block 2 XD))))) cZ)):=by kernel_rfl
theorem XW:tlook tab.funcs 100=some Oe:=by kernel_rfl
theorem Rh:bodyPlain Oe 1=true:=by kernel_rfl
theorem okC:(drawsOk tab lJ.hides c1=true/\noRange c1=true/\kZ c1=true)/\(drawsOk tab lJ.hides c2=true/\noRange c2=true/\kZ c2=true)/\(drawsOk tab lJ.hides c3=true/\noRange c3=true/\kZ c3=true)/\(drawsOk tab lJ.hides cI=true/\noRange cI=true/\kZ cI=true)/\(drawsOk tab lJ.hides c4=true/\noRange c4=true/\kZ c4=true)/\(drawsOk tab lJ.hides c5=true/\noRange c5=true/\kZ c5=true)/\(drawsOk tab lJ.hides c8=true/\noRange c8=true/\kZ c8=true)/\(drawsOk tab lJ.hides cZ=true/\noRange cZ=true/\kZ cZ=true):=by have c:=Uh;have b:=PN;have a:=XR;grind
def jQ:Nat->List (List V3)->List jW
 | _,[]=>[]
 | i,l::r=>dJ (orient (decide (i=0)) l)++jQ (i+1) r
theorem yh:∀(r:List (List V3)) (i:Nat),jQ (i+1) r=zN r
 |[],_=>rfl
 | l::r,i=>by rw[jQ,yh r (i+1),decide_eq_false (by omega)];rfl
theorem GN(f:Fen):jQ 0 (f.outer::f.holes)=dS f:=by rw[jQ,yh];rfl
structure Iw (X:Ext):Prop where
 c:∀ l:List V3,l.length<=1000->run tab X 88 [Al (encL l)] []=some ([.fresh true kV3 (encL l)],[])
def hdE(n:Nat)(i:Int):List (Nat × AV):=[(15,.slice 12 1 0 n),(16,Ab (n:Int)),(17,Ab i)]
section
variable {gl:Option (List (Nat × Obj))} {X:Ext} (hX:Mine X) (hV:Iw X) (hC:CallOk Tryz.prog tab gl (run tab X)) (hS:SeqOk Tryz.prog tab gl (run tab X))
include hX hV hC hS
theorem XY(l:List V3)(a:l.length<=1000000):IterOk Tryz.prog gl 100 [.ref [As (encL l)]] ((dJ l).map eY):=by have _:=hV;have _:=hC;exact(hS 100 Oe [.ref [As (encL l)]] _ XW Rh (PS X hX l a)).2
theorem XZ{g:Cx}(k:VO gl g){b:List PV}{n i:Nat}(W:i<n)(hn:n<=1000){l:List V3}(A:b.getD i .nil=As (encL l))(V:dO l=true){a:Act}{w:World}(U:Inv g ⟨E (hdE n i),h12 b⟩ a w){Q:Exit->Act->World->Prop}{y:Code}
    (o:∀ a' w',Inv g ⟨E (hdE n i++[(34,.p (.fn 100 [.ref [As (encL (orient (decide (i=0)) l))]]))]),h12 b⟩ a' w'->y.wpIn (FW none) 0 Tryz.prog Q a' w'):(Code.seq c4 (.seq c5 (.seq c8 y))).wpIn (FW none) 0 Tryz.prog Q a w:=by
  have _:=hS;obtain⟨_,_,_,_,⟨a4,b4,d4⟩,⟨R,O,M⟩,⟨P,N,L⟩,_⟩:=okC;obtain⟨I,s2,T⟩:=gX V;have K:=ch4 (run tab X) (xg .normal ⟨E [(3,Ab (i:Int)),(4,Al (((b.getD (0+(i:Int).toNat) .nil).cell 0).toList)),(15,.slice 12 1 0 n),(16,Ab (n:Int)),(17,Ab (i:Int)),(19,Ab (i:Int)),(20,.ptr 12 (0+(i:Int).toNat) 0),(21,Al (((b.getD (0+(i:Int).toNat) .nil).cell 0).toList))],h12 b⟩) b n (i:Int);rw[rng W,qCt,jf]at K;refine wpIn_seq (yS hC k a4 b4 d4 K U λa1 S J=>?_);have Y:((b.getD (0+(i:Int).toNat) .nil).cell 0).toList=encL l:=by rw[qIt,qNz,A];rfl
  rw[Y]at J;have j:Inv g ⟨E [(3,Ab (i:Int)),(4,Al (encL l)),(15,.slice 12 1 0 n),(16,Ab (n:Int)),(17,Ab (i:Int))],h12 b⟩ a1 S:=Inv.less J λp hp=>by simp only[List.mem_cons,List.not_mem_nil,or_false]at hp;rcases hp with rfl | rfl | rfl | rfl | rfl<;>rfl
  have h:=c47 X hX l (by omega) T;have u:=hV.c l (by omega);have e:(!((gtI (lg l) (0:Int))==((i:Int)==(0:Int))))=!(decide (0<lg l)==decide (i=0)):=by grind
  show(Code.seq c5 (.seq c8 y)).wpIn _ _ _ _ _ _;by_cases m:(decide (0<lg l)==decide (i=0))=true
  . have D:orient (decide (i=0)) l=l:=by unfold orient;rw[if_pos m]
    rw[D]at o;rw[m]at e;have d:=λS0=>ch5 (run tab X) (xg .normal S0) b n (i:Int) (encL l);rw[h]at d;simp only[qOb,qLh,pv_p,toInt_int]at d;rw[show(!true)=false from rfl]at e;rw[e]at d;simp only[qCf]at d;refine wpIn_seq (yS hC k R O M ((d _).trans (jf _ _)) j λG s z=>?_);have H:Inv g ⟨E [(4,Al (encL l)),(15,.slice 12 1 0 n),(16,Ab (n:Int)),(17,Ab (i:Int))],h12 b⟩ G s:=Inv.less z λp hp=>by simp only[List.mem_cons,List.not_mem_nil,or_false]at hp;rcases hp with rfl | rfl | rfl | rfl<;>rfl
    show(Code.seq c8 y).wpIn _ _ _ _ _ _;have f:=λS0=>ch8 (run tab X) (xg .normal S0) b n (i:Int) (encL l);rw[c51 X hX l]at f;simp only[qOb]at f;refine wpIn_seq (yS hC k P N L ((f _).trans (jf _ _)) H λF q x=>?_);exact o F q (Inv.less x λp hp=>by simp only[hdE,List.cons_append,List.nil_append,List.mem_cons,List.not_mem_nil,or_false]at hp;rcases hp with rfl | rfl | rfl | rfl<;>rfl)
  . obtain ⟨v,r,rfl⟩:∃ v r,l=v::r:=by
      cases l with
      | nil=>simp at I
      | cons v r=>exact⟨v,r,rfl⟩
    have D:orient (decide (i=0)) (v::r)=v::r.reverse:=by unfold orient;rw[if_neg m];rfl
    rw[D]at o;have B:(decide (0<lg (v::r))==decide (i=0))=false:=by simpa using m
    rw[B]at e;simp only[qLl]at I s2;have d:=λS0=>ch5 (run tab X) (xg .normal S0) b n (i:Int) (encL (v::r));have t:=c89 X hX v r (by omega);rw[h]at d;simp only[qOb,qLh,pv_p,toInt_int]at d;rw[show(!false)=true from rfl]at e;rw[e]at d;simp only[qCt]at d;rw[u]at d;simp only[qOb,qLh,freshList_fresh]at d;have C:(encL (v::r)).length=r.length+1:=by simp[encL]
    have g1:(leI (1:Int) (((encL (v::r)).length:Nat):Int)&&(leI (((encL (v::r)).length:Nat):Int) (((encL (v::r)).length:Nat):Int)&&leI (((encL (v::r)).length:Nat):Int) (((encL (v::r)).length:Nat):Int)))=true:=by grind
    have g2:((((encL (v::r)).length:Nat):Int)-1).toNat=r.length:=by rw[C];omega
    rw[g1,g2,t]at d;simp only[qOb,qCt,qLh]at d;refine wpIn_seq (yS hC k R O M ((d _).trans (jf _ _)) j λG s z=>?_);have H:Inv g ⟨E [(4,.slice 4 3 0 (encL (v::r)).length),(15,.slice 12 1 0 n),(16,Ab (n:Int)),(17,Ab (i:Int))],[(12,.arr false [.slice true kV3] b),(4,.arr true kV3 (encL (v::r.reverse)))]⟩ G s:=Inv.less z λp hp=>by simp only[List.mem_cons,List.not_mem_nil,or_false]at hp;rcases hp with rfl | rfl | rfl | rfl<;>rfl
    show(Code.seq c8 y).wpIn _ _ _ _ _ _;have f:=λS0=>aby (run tab X) (xg .normal S0) b n (i:Int) (encL (v::r.reverse)) (encL (v::r)).length;have Z:((encL (v::r.reverse)).drop 0).take (encL (v::r)).length=encL (v::r.reverse):=by simp[qLy,List.take_of_length_le,encL]
    rw[Z,c51 X hX (v::r.reverse)]at f;simp only[qOb]at f;refine wpIn_seq (yS hC k P N L ((f _).trans (jf _ _)) H λF q x=>?_);exact o F q (Inv.less x λp hp=>by simp only[hdE,List.cons_append,List.nil_append,List.mem_cons,List.not_mem_nil,or_false]at hp;rcases hp with rfl | rfl | rfl | rfl<;>rfl)
end
end Go.Skm.Fen
set_option maxRecDepth 100000
namespace Go.Skm.Fen
open Go Go.Skm Go.Proofs Go.RowKit
variable {Q:Exit->Act->World->Prop}
def Marks(W0:World)(O K:Nat->Prop)(a:Act)(w:World):Prop:=
 ∃ ds:List Nat,a.defers=ds.map markOf/\ds.Nodup/\∀ D∈ds,w.heap[D]?=some (.deferred (some []))/\¬ O D/\¬ K D/\W0.heap.size<=D
section
variable {gl:Option (List (Nat × Obj))} {W0:World} {J:(Nat->Prop)->(Nat->Prop)->World->Prop} {By L:Nat} {cx:Cx} {Oo Ko:Nat->Prop} {st:St} {a:Act} {w W':World} {M:Nat->Prop} {β:Nat->Option (Nat × Nat)} {Ls:List (Nat × Obj)} {ds:List Nat}
theorem Sep.VU(s:Sep gl W0 J By L cx Oo Ko)(c:Fix cx M β st.heap a w Ls ds):∀ D∈ds,w.heap[D]?=some (.deferred (some []))/\¬ Oo D/\¬ Ko D/\W0.heap.size<=D:=λD d=>by
 refine⟨(c.lies _ (c.mark D d).1).1,?_⟩;rcases(c.mark D d).2.2 with h | h
 . exact s.l0 _ h
 . have:=s.w0;exact⟨λb=>by have:=s.lt D (.inl b);omega,λb=>by have:=s.lt D (.inr b);omega,by omega⟩
theorem Sep.mO(s:Sep gl W0 J By L cx Oo Ko)(r:Rel cx.w0 cx.Pr cx.M0 M β st a w):∀ b,M b->¬ Oo b:=λb d c=>by
 rcases r.mnew b d with h |⟨_,h⟩
 . exact s.m0 b h c
 . rcases h with h | h
   . have:=s.lt b (.inl c);omega
   . exact(s.pr b h).1 c
theorem Sep.end(d:Bears gl W0 J)(s:Sep gl W0 J By L cx Oo Ko)(i:Inv cx st a w):J Oo Ko w/\Marks W0 Oo Ko a w:=by obtain⟨M,β,Ls,ds,r,f,e,c,b⟩:=i;exact⟨s.now d r c,ds,b.marks,b.nodup,s.VU b⟩
theorem Sep.after(s:Sep gl W0 J By L cx Oo Ko)(r:Rel cx.w0 cx.Pr cx.M0 M β st a w)(e:Fix cx M β st.heap a w Ls ds){O' K':Nat->Prop}(g:Turns gl Oo w W')(f:W'.heap[w.heap.size]?=some (.deferred (some [])))(j:∀ b,O' b->Oo b\/w.heap.size+2<=b)(k:∀ b,K' b->Ko b\/Oo b\/w.heap.size+2<=b) :
    Marks W0 O' K' {a with defers:=markOf w.heap.size::a.defers} W':=by
  have i:=r.size;have d:∀ D∈ds,D<w.heap.size:=λD f=>(qAa.1 (s.VU e D f).1).1;refine⟨w.heap.size::ds,by show _::_=_;rw[e.marks];rfl,List.nodup_cons.2 ⟨λh=>absurd (d _ h) (Nat.lt_irrefl _),e.nodup⟩,λD c=>?_⟩;rcases List.mem_cons.1 c with rfl | c
  . refine⟨f,λh=>?_,λh=>?_,by have:=s.w0;omega⟩
    . rcases j _ h with h | h
      . have:=s.lt _ (.inl h);omega
      . omega
    . rcases k _ h with h | h | h
      . have:=s.lt _ (.inr h);omega
      . have:=s.lt _ (.inl h);omega
      . omega
  . obtain⟨n,m,o,l⟩:=s.VU e D c;have:=d D c;refine⟨(g.keep D this m).trans n,λh=>?_,λh=>?_,l⟩;all_goals grind
end
theorem yg{gl:Option (List (Nat × Obj))}{X:Ext}(hC:CallOk Tryz.prog tab gl (run tab X)){cx:Cx}(d:VO gl cx){c:Code}(hd:drawsOk tab lJ.hides c=true/\noRange c=true/\kZ c=true){st:St}{a:Act}{w:World}{b:Ex}{S0:St}
    (h:runCode tab (run tab X) lJ (some 0) c st (xg b S0)=some ())(i:Inv cx st a w)(e:∀ a' w',Inv cx S0 a' w'->Q b.toExit a' w'):c.wpIn (FW none) 0 Tryz.prog Q a w:=yS hC d hd.1 hd.2.1 hd.2.2 h i e
section
variable {gl:Option (List (Nat × Obj))} {X:Ext} (hX:Mine X) (hV:Iw X) (hC:CallOk Tryz.prog tab gl (run tab X)) (hS:SeqOk Tryz.prog tab gl (run tab X))
include hX hV hC hS
theorem abv{W0:World}{M0:Nat->Prop}{J:List PV->(Nat->Prop)->(Nat->Prop)->World->Prop}{Jx:(Nat->Prop)->(Nat->Prop)->World->Prop}{L By:Nat}
    (hJ:∀ r,Bears gl W0 (J r))(Z:Bears gl W0 Jx)(o:∀ r O K W,J r O K W->∀ b,O b\/K b->b<W.heap.size)
    (hY:∀ vs r O K W (M:Nat->Prop) cargs,J (.agg vs::r) O K W->W0.heap.size<=W.heap.size->(∀ b,M b->b<W.heap.size/\¬ O b/\(M0 b\/W0.heap.size<=b))->cargs.size=vs.length->(∀ i c,vs[i]?=some c->VR W M c (cargs.getD i undef))->YldOk Tryz.prog gl L cargs W (J r) Jx O K M)
    {Pl:List (List V3)}(U:∀ l∈Pl,dO l=true)(q:Pl.length<=1000)(abB:∀ a w O K,J [] O K w->Marks W0 O K a w->Q (.exit 0) a w)(X0:∀ a w O K,Jx O K w->Marks W0 O K a w->Q .ret a w) :
    ∀(r:List (List V3)) (i:Nat),Pl.drop i=r->i<=Pl.length->∀(a:Act) (w:World) (cx:Cx) (Oo Ko:Nat->Prop),Sep gl W0 (J ((jQ i r).map eY)) By L cx Oo Ko->Inv cx ⟨E (hdE Pl.length i),h12 (bK Pl)⟩ a w->Code.roundsIn (FW none) 0 Tryz.prog cX Q (r.length+1) a w:=by
  obtain⟨_,_,o3,oI,_,_,_,oZ⟩:=okC;intro r;induction r with
  | nil =>intro i I hi a w cx Oo Ko s C;have d:Pl.length<=i:=List.drop_eq_nil_iff.1 I;rw[roundsIn_succ,Q9];have e3:=λS0=>ch3 (run tab X) (xg .normal S0) (bK Pl) Pl.length (i:Int);refine wpIn_seq (yg hC s.MJ o3 ((e3 _).trans (jf _ _)) C λa1 w1 n=>?_);have eI:=λS0=>chI (run tab X) (xg (.exit 0) S0) (bK Pl) Pl.length (i:Int) false;rw[xO (by omega)]at n;show(Code.seq cI _).wpIn _ _ _ _ _ _;refine wpIn_seq (yg hC s.MJ oI ((eI _).trans (jf _ _)) n λa2 y D=>?_);obtain⟨h1,h2⟩:=s.end (hJ _) D;exact abB a2 y Oo Ko h1 h2
  | cons l r ih =>
   intro i I hi a w cx Oo Ko s C;have d:i<Pl.length:=by grind
   have hv:gh Pl i=l:=by grind[qLb,List.head?_drop]
   have hm:l∈Pl:=hv▸vF d;have g:=U l hm;rw[roundsIn_succ,Q9];have e3:=λS0=>ch3 (run tab X) (xg .normal S0) (bK Pl) Pl.length (i:Int);refine wpIn_seq (yg hC s.MJ o3 ((e3 _).trans (jf _ _)) C λa1 w1 n=>?_);have eI:=λS0=>chI (run tab X) (xg .normal S0) (bK Pl) Pl.length (i:Int) true;rw[rZ d]at n;show(Code.seq cI _).wpIn _ _ _ _ _ _;refine wpIn_seq (yg hC s.MJ oI ((eI _).trans (jf _ _)) n λa2 y D=>?_);have VP:Inv cx ⟨E (hdE Pl.length i),h12 (bK Pl)⟩ a2 y:=Inv.less D λp hp=>by simp only[hdE,List.mem_cons,List.not_mem_nil,or_false]at hp;rcases hp with rfl | rfl | rfl<;>rfl
   show(Code.seq (.block 1 _) cZ).wpIn _ _ _ _ _ _;refine wpIn_seq (wpIn_block ?_);refine XZ hX hV hC hS s.MJ d q (by rw[gY Pl d,hv]) g VP λk w4 i4=>wpIn_block ?_;obtain⟨M,β,Ls,ds,e,j1,j2,j3,j⟩:=i4;have h:=e.slot 34;have he:(E (hdE Pl.length i++[(34,.p (.fn 100 [.ref [As (encL (orient (decide (i=0)) l))]]))])).getD 34 .undef=.p (.fn 100 [.ref [As (encL (orient (decide (i=0)) l))]]):=rfl;rw[he]at h;obtain⟨v,z,S,P⟩:∃ v:Array Value,k.tmps.getD 34 undef=.func (.func 100) #[] v/\v.size=1/\∀(m:Nat) (c:PV),([.ref [.list true kV3 (encL (orient (decide (i=0)) l))]]:List PV)[m]?=some c->VR w4 M c (v.getD m undef):=by
    generalize k.tmps.getD 34 undef=c at h;cases h with
    | p _ _ F=>cases F with | fn _ _ vs hn hc=>exact⟨vs,rfl,hn,hc⟩
   have H:k.tmps.size=43:=j.size.trans s.MJ.t0;have t2:k.tmps.getD 2 undef=.pointer (some ⟨By,0,none⟩):=(j.tmps 2 (by rw[s.MJ.wr];simp)).trans s.t2;have T:=j.lies _ (j.sub _ s.box);have t:=s.now (hJ _) e j3;have hrs:=e.size;have R:(orient (decide (i=0)) l).length<=1000000:=by have h1:=(mD (b:=decide (i=0)) g).2;have h2:=(gX g).2.1;omega
   have eE:(jQ i (l::r)).map eY=(dJ (orient (decide (i=0)) l)).map eY++(jQ (i+1) r).map eY:=by rw[jQ,List.map_append]
   rw[eE]at t;refine Ug (OA:=Oo) (KA:=Ko) hJ Z o hY (XY hX hV hC hS _ R) H t2 z S P (λb hb=>⟨e.msub b hb,s.mO e b hb⟩) (λp hp=>by
    have N:p∈cx.w0.gl.getD []:=by rw[s.MJ.hgl];exact hp
    exact e.glob p N) (by have:=s.w0;omega) t T.1 (s.l0 _ s.box).1 ?_ ?_
   . intro W' O' K' x G hD V Y f;obtain⟨u,s',B⟩:=Sep.anew (J':=J ((jQ (i+1) r).map eY)) s e j1 j2 j x G hD V Y (o _ _ _ _ x) f;have A:Inv u ⟨E (hdE Pl.length i),h12 (bK Pl)⟩ {k with defers:=markOf w4.heap.size::k.defers} W':=Inv.less B λp hp=>by simp only[hdE,List.mem_cons,List.not_mem_nil,or_false]at hp;rcases hp with rfl | rfl | rfl<;>rfl
     have eZ:=λS0=>chZ (run tab X) (xg .normal S0) (bK Pl) Pl.length (i:Int);show cZ.wpIn _ _ _ _ _ _;refine yg hC s'.MJ oZ ((eZ _).trans (jf _ _)) A λa5 w5 i5=>?_;rw[dL (by omega)]at i5;exact ih (i+1) (by rw[<- List.tail_drop,I];rfl) (by omega) a5 w5 u O' K' s' (Inv.less i5 λp hp=>by simp only[hdE,List.mem_cons,List.not_mem_nil,or_false]at hp;rcases hp with rfl | rfl | rfl<;>rfl)
   . intro W' O' K' x G hD V Y f;exact X0 _ W' O' K' x (s.after e j G hD V Y)
end
end Go.Skm.Fen
set_option maxRecDepth 100000
namespace Go.Skm.Fen
open Go Go.Skm Go.Proofs Go.RowKit
theorem PL:Tryz.f87.ntmps=43:=by kernel_rfl
theorem Q7:Tryz.f87.results=#[]:=by kernel_rfl
theorem Oa{gl:Option (List (Nat × Obj))}{W0:World}{J:(Nat->Prop)->(Nat->Prop)->World->Prop}(p:Bears gl W0 J){a:Act}{w:World}{O K:Nat->Prop}(n:J O K w)(m:Marks W0 O K a w){R:Ending->World->Prop}(o:∀ v w',J O K w'->R (.returned v) w') :
    LeavesInM (FW none) 0 Tryz.prog Tryz.f87 a.tmps R a.defers .returning w:=by
  obtain⟨ds,s,r,d⟩:=m;rw[s];refine leaves_marks ds w r (λD q=>(d D q).1) λw' l t k j i h=>?_;refine⟨wrapV [],run_results (cs:=[]) (by rw[Q7];rfl),o _ _ ?_⟩;refine p _ _ _ _ (λb=>b∈ds) n ⟨by omega,λb _ c=>l b c,k,j,i,λu=>by rw[h];exact qNr _⟩ λb c=>?_;obtain⟨_,g,f,e⟩:=d b c;exact⟨e,g,f⟩
section
variable {gl:Option (List (Nat × Obj))} {X:Ext} (hX:Mine X) (hV:Iw X) (hC:CallOk Tryz.prog tab gl (run tab X)) (hS:SeqOk Tryz.prog tab gl (run tab X))
include hX hV hC hS
theorem VA(f:Fen)(hf:tY f):IterOk Tryz.prog gl 87 [.ref (xX f)] ((nO f).map eY):=by
 obtain⟨o1,o2,_⟩:=okC;intro W0 M0 L i J Jx O0 x hlb hlv j N I B hY h0;have Y:i.size=1:=hlb;have U:VR W0 M0 (.ref (xX f)) (i.getD 0 undef):=hlv 0 _ rfl;refine calls_of_fw (rd:=none) (n:=0) (callsIn_of_wp_marks Tryz.func87 VN trivial ?_);generalize hR:(λ(e:Ending) (W':World)=>(∃ v,e=.returned v)/\∃ O K:Nat->Prop,J [] O K W'\/Jx O K W')=R;have H:∀ a w O K,J [] O K w->Marks W0 O K a w->LeavesInM (FW none) 0 Tryz.prog Tryz.f87 a.tmps R a.defers .returning w:=λa w O K u r=>Oa (N []) u r λv w' h=>by rw[<- hR];exact⟨⟨v,rfl⟩,O,K,.inl h⟩
 have hQX:∀ a w O K,Jx O K w->Marks W0 O K a w->LeavesInM (FW none) 0 Tryz.prog Tryz.f87 a.tmps R a.defers .returning w:=λa w O K u r=>Oa I u r λv w' h=>by rw[<- hR];exact⟨⟨v,rfl⟩,O,K,.inr h⟩
 have W:(#[zD L]++i).size=2:=by rw[Array.size_append,Y];rfl
 have V:(#[zD L]++i++Array.replicate (Tryz.f87.ntmps-(#[zD L]++i).size) undef).size=43:=by rw[Array.size_append,W,Array.size_replicate,PL]
 have t0:(#[zD L]++i++Array.replicate (Tryz.f87.ntmps-(#[zD L]++i).size) undef).getD 0 undef=zD L:=by rw[qAb,Array.getElem?_append_left (by omega),Array.getElem?_append_left (by simp)];rfl
 have t1:(#[zD L]++i++Array.replicate (Tryz.f87.ntmps-(#[zD L]++i).size) undef).getD 1 undef=i.getD 0 undef:=by rw[qAb,Array.getElem?_append_left (by omega),Array.getElem?_append_right (by simp),qAb];simp
 generalize #[zD L]++i++Array.replicate (Tryz.f87.ntmps-(#[zD L]++i).size) undef=T at *;refine wpIn_seq ?_;rw[XF];refine wpIn_region_list ?_;have e0:({tmps:=T,defers:=[]}:Act).eval (.tmp 0)=zD L:=t0;refine wpListIn_val rfl (by simp[Oper.about]) (λc h=>by cases h) (v:=.pointer (some ⟨W0.heap.size,0,none⟩)) (w':=W0.alloc (.cells #[zD L] 122 (0,0))) (by simp only[execOp,e0];simp[Instr.box,newVar,newRow,Value.cells]) ?_;refine wpListIn_nil ?_;generalize hA:(({tmps:=T,defers:=[]}:Act).put (some 2) (.pointer (some ⟨W0.heap.size,0,none⟩)))=A;have WX:A.tmps.size=43:=by rw[<- hA,put_size];exact V
 have A1:A.tmps.getD 1 undef=i.getD 0 undef:=by rw[<- hA,put_ne (by decide)];exact t1
 have A2:A.tmps.getD 2 undef=.pointer (some ⟨W0.heap.size,0,none⟩):=by rw[<- hA,put_self (by show 2<T.size;omega)]
 have Ad:A.defers=[]:=by rw[<- hA];rfl
 have hbx:=World.alloc_heap_new W0 (.cells #[zD L] 122 (0,0));have G:Grows gl W0 (W0.alloc (.cells #[zD L] 122 (0,0))):=Grows.alloc W0 _;have hws:(W0.alloc (.cells #[zD L] 122 (0,0))).heap.size=W0.heap.size+1:=by simp
 generalize W0.alloc (.cells #[zD L] 122 (0,0))=Wb at *;have hO0:∀ b,O0 b->b<W0.heap.size:=λb d=>B _ _ _ _ h0 b (.inl d);have hJb:=(N _).grows h0 G;let y:Cx:={w0:=⟨Wb,Wb.heap.size,qNr _,gl⟩,Pr:=λ_=>False,M0:=M0,β0:=λ_=>none,hp0:=[],Wr:=λt=>t≠2,t0:=A.tmps,rd:=none,L0:=[(W0.heap.size,.cells #[zD L] 122 (0,0))],nm:=W0.heap.size};have F:∀ b,b<W0.heap.size->Wb.heap[b]?=W0.heap[b]?:=λb d=>G.keep b d λh=>h;have M:VO gl y:=⟨rfl,rfl,rfl,rfl,rfl,WX⟩;have g:Sep gl W0 (J ((nO f).map eY)) W0.heap.size L y O0 (λ_=>False):=by refine⟨M,hJb,λb d=>d.elim (λh=>by have:=hO0 b h;show b<Wb.heap.size;omega) λh=>h.elim,λb d=>(j b d).2,λb d=>d.elim,λp hp=>?_,List.mem_singleton.2 rfl,A2,by show W0.heap.size<=Wb.heap.size;omega,by show W0.heap.size<=Wb.heap.size;omega⟩;grind
 have m:Inv y ⟨E [(1,Ve (encL f.outer) (bK f.holes) f.low f.high)],[]⟩ A Wb:=by
  refine⟨M0,λ_=>none,[(W0.heap.size,.cells #[zD L] 122 (0,0))],[],⟨by show(E _).length<=_;rw[Ob];omega,λt v k=>?_,λs blk h=>(by cases h),λs b o h=>(by cases h),λs s' b o o' h=>(by cases h),λb d=>by have:=(j b d).1;omega,λb d=>.inl d,λb d=>d,λ_ _ _=>rfl,λ_ _ _ h=>h.elim,qNr _,rfl,rfl,rfl,λp hp=>⟨(x p hp).1,(F _ (j _ (x p hp).1).1).trans (x p hp).2⟩⟩,λ_ _=>rfl,λs _ blk h=>(by cases h),.refl _ _,⟨λp hp=>?_,λp hp=>hp,Ad,List.nodup_nil,λD hD=>by simp at hD,λl hl=>(by cases hl),rfl,λ_ _=>rfl,λh=>absurd M.noLog h,λ_ h=>h.elim,by show W0.heap.size<=Wb.heap.size;omega⟩⟩
  . obtain⟨ht,rfl⟩:=Vf _ t v k;by_cases h1:t=1
    . subst h1;rw[A1];exact .p _ _ (U.mono λb d=>⟨d,F b (j b d).1⟩)
    . have:tlook [(1,Ve (encL f.outer) (bK f.holes) f.low f.high)] t=none:=by grind[tlook]
      rw[this];exact .undef _
  . rw[List.mem_singleton.1 hp];exact⟨hbx,λ⟨s,o,h,_⟩=>(by cases h),λh=>absurd (j _ h).1 (Nat.lt_irrefl _)⟩
 have z:=c18 X hX f hf;have q:=λ(e0:Ex) S0=>ch1 (run tab X) (xg e0 S0) (encL f.outer) (bK f.holes) f.low f.high;rw[encF]at z;rw[z]at q;simp only[qOb,qLh,pv_p,toBool_bool]at q;show(Code.seq c1 _).wpIn _ _ _ _ _ _;cases k:validP f with
 | false =>
  rw[k]at q;simp only[Bool.not_false,qCt]at q;refine wpIn_seq (yg hC M o1 ((q .ret _).trans (jf _ _)) m λa1 P S=>?_);have he:nO f=[]:=by unfold nO;rw[k];rfl
  rw[he]at g;obtain⟨k1,k2⟩:=g.end (N _) S;exact H a1 P _ _ k1 k2
 | true =>
  rw[k]at q;simp only[qBt,qCf]at q;refine wpIn_seq (yg hC M o1 ((q .normal _).trans (jf _ _)) m λa1 P S=>?_);have he:nO f=jQ 0 (f.outer::f.holes):=by unfold nO;rw[if_pos k,GN]
  rw[he]at g;obtain⟨v1,v2⟩:=nT k;have hn:=(oJ k).2.1;have Q:Inv y ⟨E [(1,Ve (encL f.outer) (bK f.holes) f.low f.high)],[]⟩ a1 P:=Inv.less S λp hp=>by rw[List.mem_singleton.1 hp];rfl
  have e2:=λS0=>ch2 (run tab X) (xg .normal S0) (encL f.outer) (bK f.holes) f.low f.high;have hl2:leN (1+(bK f.holes).length) 2147483648=true:=decide_eq_true (by rw[bM];omega);rw[hl2]at e2;simp only[qCt]at e2;show(Code.seq c2 _).wpIn _ _ _ _ _ _;refine wpIn_seq (yg hC M o2 ((e2 _).trans (jf _ _)) Q λa2 w2 i2=>?_);show(Code.block 0 _).wpIn _ _ _ _ _ _;refine wpIn_block (wpIn_loop_rounds ((f.outer::f.holes).length+1) ?_);have C:1+(bK f.holes).length=(f.outer::f.holes).length:=by rw[bM,qLl];omega
  have Z:([As (encL f.outer)]:List PV)++bK f.holes=bK (f.outer::f.holes):=rfl;rw[C,Z]at i2;have VP:Inv y ⟨E (hdE (f.outer::f.holes).length ((0:Nat):Int)),h12 (bK (f.outer::f.holes))⟩ a2 w2:=Inv.less i2 λp hp=>by simp only[hdE,List.mem_cons,List.not_mem_nil,or_false]at hp;rcases hp with rfl | rfl | rfl<;>rfl
  have hcx:Code.seq c3 (.seq cI (.seq (.block 1 (.seq c4 (.seq c5 (.seq c8 (.block 2 XD))))) cZ))=cX:=Q9.symm;rw[hcx];refine abv hX hV hC hS N I B hY (λl hl=>?_) (by rw[qLl];omega) (λa w O K u r=>?_) (λa w O K u r=>?_) (f.outer::f.holes) 0 rfl (Nat.zero_le _) a2 w2 y O0 _ g VP
  . grind
  . have:Exit.inBlock 0 (bodyPostM (FW none) 0 Tryz.prog Tryz.f87 R) (.exit 0) a w=bodyPostM (FW none) 0 Tryz.prog Tryz.f87 R .normal a w:=by simp[Exit.inBlock]
    rw[this];exact H a w O K u r
  . exact hQX a w O K u r
end
end Go.Skm.Fen
set_option maxRecDepth 100000
namespace Go.Skm.Fen
open Go Go.Skm Go.Proofs Go.RowKit Go.Lib Go.Sort
variable {gl:Option (List (Nat × Obj))}
theorem run_seq{P:Program}{T:Tab}(ok:TabOk P T){X:Ext}(d:ExtOk P T gl X):SeqOk P T gl (run T X):=by intro g fi a r c hp h;obtain⟨n,b⟩:=lim_some h;exact(acall_sound2 ok d n).2 g fi a r c hp b
theorem U8(t:TypeId)(n:Nat)(h:(Tryz.prog.info? t).map (λi=>(i.zero.map (λz:Value=>z.cells.size),i.size,decide (i.bytes<=1000)))=some (some n,n,true)):∃ a z,Tryz.prog.info? t=some a/\a.zero=some z/\a.size=n/\z.cells.size=n/\a.bytes<=1000:=by
 cases c:Tryz.prog.info? t with
 | none=>rw[c]at h;cases h
 | some i =>
  rw[c]at h;cases b:i.zero with
  | none=>rw[Option.map_some,b]at h;cases h
  | some z =>rw[Option.map_some,b]at h;simp only[Option.map_some,qOa,Prod.mk.injEq,qDa]at h;exact⟨i,z,rfl,b,h.2.1,h.1,h.2.2⟩
theorem Xj:CloneAt Tryz.prog tab Tryz.xU 88 fi88 22 26 true kV3:=⟨Tryz.L6,rfl,by kernel_rfl,⟨_,rfl⟩,rfl,by kernel_rfl,by kernel_rfl,by kernel_rfl,U8 26 3 (by kernel_rfl),by decide,λw=>Tryz.sizeOf26 w⟩
theorem Xk:CloneAt Tryz.prog tab Tryz.xW 193 QM 140 143 false kU:=⟨Tryz.L8,rfl,by kernel_rfl,⟨_,rfl⟩,rfl,by kernel_rfl,by kernel_rfl,by kernel_rfl,U8 143 1 (by kernel_rfl),by decide,λw=>Tryz.sizeOf143 w⟩
theorem cloneN_of{a:Bool}{ks:List Kd}{xs:List PV}(h:xs.length<=100000):cloneN a ks [.p (.list a ks xs)] []=some ([.fresh a ks xs],[]):=by
 unfold cloneN;have b:Kd.beqs ks ks=true:=by simpa using Kd.beqs_refl ks
 simp[b,h]
def NT:Ext:=extL [(88,cloneN true kV3)]
theorem QN:Mine NT:=by
 intro f h;simp only[extB,Bool.or_eq_false_iff]at h;obtain⟨_,_,a,_⟩:=h;unfold NT extL;have:(88==f)=false:=by rw[beq_eq_false_iff_ne]at a ⊢;exact λe=>a e.symm
 simp only[tlook,this,qCf]
theorem Ph:Iw NT:=⟨λl a=>run_ext (fi:=fi88) (by kernel_rfl) rfl (cloneN_of (by simp[encL];omega))⟩
theorem NU(hne:gl≠none):ExtOk Tryz.prog tab gl NT:=extOk_cons (by kernel_rfl) (ext1_cloneN hne Xj rfl) LZ
theorem QO{a b:V3}(h:encV a=encV b):a=b:=by unfold encV at h;simp only[PV.agg.injEq,List.cons.injEq,PV.int.injEq,true_and,and_true]at h;obtain⟨e,d,c⟩:=h;cases a;cases b;simp_all
theorem JK{l m:List V3}(h:encL l=encL m):l=m:=List.map_inj_right (λ_ _=>QO) |>.1 h
theorem Pj{l m:List (List V3)}(h:bK l=bK m):l=m:=List.map_inj_right (f:=λh=>As (encL h)) (λa b e=>JK (by simpa using e)) |>.1 h
theorem QS{f g:Fen}(h:xX f=xX g):f=g:=by simp only[xX,List.cons.injEq,PV.list.injEq,PV.int.injEq,true_and,and_true]at h;obtain⟨b,a,c,h4⟩:=h;have e:=JK b;have d:=Pj a;cases f;cases g;simp_all
noncomputable def EG:ExtFn:=λargs bl=>open Classical in if h:∃ f:Fen,tY f/\args=[.yld,.p (.ref (xX f))]/\bl=[.log true []]then some ([],[.log true ((nO h.choose).map eY)])else none
theorem Pm(f:Fen)(a:tY f):EG [.yld,.p (.ref (xX f))] [.log true []]=some ([],[.log true ((nO f).map eY)]):=by
 unfold EG;have h:∃ g:Fen,tY g/\([.yld,.p (.ref (xX f))]:List AV)=[.yld,.p (.ref (xX g))]/\([.log true []]:List Blk)=[.log true []]:=⟨f,a,rfl,rfl⟩;rw[dif_pos h];have b:xX f=xX h.choose:=by
  have c:=h.choose_spec.2.1;injection c with _ h1
  injection h1 with h2 _
  injection h2 with h3
  injection h3
 have e:h.choose=f:=(QS b).symm;rw[e]
theorem L9(a:gl≠none):Mc Tryz.prog tab gl 87 EG:=by
 intro fi args bl r b h;unfold EG at h;split at h
 . next hx =>
   obtain⟨f,d,c⟩:=hx.choose_spec;cases h;refine⟨[.ref (xX hx.choose)],d,c,?_,?_⟩
   . have:fi=lJ:=by
       have e:tlook tab.funcs 87=some lJ:=by kernel_rfl
       rw[e]at b;exact(Option.some.inj b).symm
     rw[this];exact Tryz.func87
   . exact VA QN Ph (run_sound tabTrue (NU a)) (run_seq tabTrue (NU a)) hx.choose f
 . cases h
end Go.Skm.Fen
set_option maxRecDepth 100000
namespace Go.Skm.Fen
open Go Go.Skm Go.Proofs Go.RowKit Go.Lib Go.Sort
variable {gl:Option (List (Nat × Obj))}
theorem TP{x y:Rt}(h:mX x=mX y):x=y:=by have b:=Iy x y;rw[h]at b;have a:=Iy y y;rw[b]at a;exact of_decide_eq_true (a.trans (decide_eq_true rfl))
instance:Inhabited Vr:=⟨⟨⟨0,1⟩,by decide +kernel⟩⟩
noncomputable def TQ(p:PV):Option Vr:=open Classical in if h:∃ x:Vr,p=mX x.1 then some h.choose else none
noncomputable def GZ:SortEnc Vr where
 ks:=kR
 pc x:=[.bool (decide (x.1.n<0)),.str (mQ x.1.n.natAbs),.bool (decide (x.1.d<0)),.str (mQ x.1.d.natAbs)]
 dec:=TQ
 len _:=rfl
 flat x c hc:=by
  simp only[List.mem_cons,List.not_mem_nil,or_false]at hc
  rcases hc with rfl | rfl | rfl | rfl<;>rfl
 kinds _:=rfl
 enc_dec x:=by
  have h:∃ y:Vr,mX x.1=mX y.1:=⟨x,rfl⟩
  show TQ (mX x.1)=some x
  unfold TQ
  rw[dif_pos h]
  exact congrArg some (Subtype.ext (TP h.choose_spec.symm))
 dec_enc p x h:=by
  unfold TQ at h
  split at h
  . next hx =>
    cases h
    exact hx.choose_spec
  . cases h
def VB(x y:Vr):Int:=(x.1.n*y.1.d-y.1.n*x.1.d).sign
theorem Iz(x y:Vr):ltOf VB x y=decide (nK x.1 y.1):=by unfold ltOf VB nK;apply decide_eq_decide.2;rw[Int.sign_neg_iff];omega
theorem VD:SWO (ltOf VB):=by
 have hd:∀ x:Vr,0<x.1.d:=λx=>x.2.2.2;refine⟨λx=>?_,λx y z b a=>?_,λx y z b a=>?_⟩
 . rw[Iz,decide_eq_false_iff_not];unfold nK;omega
 . rw[Iz,qDa]at b a ⊢;apply Decidable.byContradiction;intro c;have e:¬ nK y.1 x.1:=by unfold nK at b ⊢;omega
   exact qg (hd z) (hd x) (hd y) c e a
 . rw[Iz,decide_eq_false_iff_not]at b a ⊢;exact qg (hd z) (hd y) (hd x) a b
theorem NV:Mine (extL []):=λ_ _=>rfl
theorem Md(hne:gl≠none):ExtOk1 Tryz.prog tab gl 74 (sortFF GZ VB 73):=
 ext1_sortFunc hne Tryz.laysSort GZ (by decide) (λw=>Tryz.isAgg45 w) (λw=>Tryz.sizeOf45 w) VD (enters_of Tryz.func73 (by kernel_rfl) rfl)
  (λw x y=>cmp_calls tabTrue LZ (fi:=fi73) (by kernel_rfl) rfl (t:=3) rfl GZ (c73 (extL []) NV (words NV rfl rfl) x.1 y.1 x.2 y.2) w)
  (fi:=fi74) rfl (by kernel_rfl) rfl rfl rfl
noncomputable def libX:Ext:=extL [(74,sortFF GZ VB 73),(87,EG),(88,cloneN true kV3),(193,cloneN false kU)]
theorem TR{f n:Nat}(a:(f==n)=false):(n==f)=false:=by rw[beq_eq_false_iff_ne]at a ⊢;exact λe=>a e.symm
theorem libMine:Mine libX:=by intro f h;simp only[extB,Bool.or_eq_false_iff]at h;obtain⟨d,c,b,h4,h5,a⟩:=h;unfold libX extL;simp only[tlook,TR d,TR c,TR b,TR a,qCf]
theorem libExt(a:gl≠none):ExtOk Tryz.prog tab gl libX:=
 extOk_cons (by kernel_rfl) (Md a) (JL (by kernel_rfl) (L9 a) (extOk_cons (by kernel_rfl) (ext1_cloneN a Xj rfl) (extOk_cons (by kernel_rfl) (ext1_cloneN a Xk rfl) LZ)))
theorem QT:Words libX:=words libMine rfl rfl
theorem TS:Bits libX:=⟨QT,λl a=>run_ext (fi:=QM) (by kernel_rfl) rfl (cloneN_of (by simpa[aY] using a))⟩
theorem QU:EH libX:=⟨λf hf=>run_ext (fi:=lJ) (by kernel_rfl) rfl (Pm f hf)⟩
theorem NW(l:List Vr):GZ.encs l=JM l:=by unfold SortEnc.encs JM encR;rw[List.map_map];rfl
theorem QV:Sorts libX:=⟨λl c=>⟨pdqL VB l,(pdqL_spec VD l).1,by
    unfold NY;rw[List.pairwise_map];exact(pdqL_spec VD l).2.imp λ{a b} h=>by rw[Iz,decide_eq_false_iff_not]at h;exact h,by
    refine run_ext (fi:=fi74) (by kernel_rfl) rfl ?_;have:=sortFF_eq GZ VB 73 l c (by rfl);rwa[NW,NW]at this⟩⟩
end Go.Skm.Fen
