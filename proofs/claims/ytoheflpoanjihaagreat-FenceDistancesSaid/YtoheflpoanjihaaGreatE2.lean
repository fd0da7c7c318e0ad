import Derived.Test.YtoheflpoanjihaaGreatF5
import Derived.Test.YtoheflpoanjihaaGreatG22
import Derived.Test.YtoheflpoanjihaaGreatE1
import Derived.LoopNIn
import Derived.RangeFuncLeaves
set_option linter.all false
set_option maxRecDepth 100000
namespace Go.Skm.Fen
open Go Go.Skm Go.Proofs Go.RowKit
variable {e0:Ex}{S0 st:St}{gl:Option (List (Nat × Obj))}{cx:Cx}{a:Act}{W0 w:World}{J:(Nat->Prop)->(Nat->Prop)->World->Prop}{By L:Nat}{Ko M Oo:Nat->Prop}{β:Nat->Option (Nat × Nat)}
noncomputable def uZ(e0:Ex)(S0:St):Ex->St->Option Unit:=λex st=>open Classical in if ex=e0/\st=S0 then some ()else none
theorem iH(e0:Ex)(S0:St):uZ e0 S0 e0 S0=some ():=by unfold uZ;rw[if_pos ⟨rfl,rfl⟩]
theorem QM{b:Ex}(h:uZ e0 S0 b st=some ()):b=e0/\st=S0:=by grind[uZ]
structure TJ (gl:Option (List (Nat × Obj))) (cx:Cx):Prop where
 hp:cx.hp0=[]
 hgl:cx.w0.gl=gl
 rd:cx.rd=none
 wr:cx.Wr=λt=>t≠2
 ys:cx.Ys=λ_=>False
 t0:cx.t0.size=43
theorem TJ.noLog(h:TJ gl cx):NoLog cx.hp0:=by rw[h.hp];intro xs b;cases b
theorem ZW:kJ.cfg.nvars<=argSite:=by decide
theorem xu{X:Ext}(l:CallOk Tryz.prog tab gl (run tab X))(b:TJ gl cx){c:Code}(hd:drawsOk tab kJ.hides c=true)(k:noRange c=true)(d:jT c=true) 
    (h:runCode tab (run tab X) kJ (some 0) c st (uZ e0 S0)=some ())(i:Inv cx st a w){Q:Exit->Act->World->Prop}(s:∀ a' w',Inv cx S0 a' w'->Q e0.toExit a' w'):c.wpIn (FW none) 0 Tryz.prog Q a w:=by
  have f:c.wpIn (FW cx.rd) 0 Tryz.prog Q a w:=sim_codeG (ng:=true) (codeSim_inv (F:=kJ) (n:=0) (m:=0) tabTrue l ZW ()) (λh=>by cases h) c ⟨cx,b.noLog,b.hgl⟩ st a w (uZ e0 S0) () Q trivial h hd (λ_=>k) (λo j=>⟨λt g=>?_,λt _ r=>?_⟩) ⟨rfl,i⟩ (λu q st' a' w' p d=>?_)
  . grind[b.rd]
  . rw[b.wr];have:=List.all_eq_true.1 d o j;rw[g]at this;intro e;simp_all
  . grind[b.ys]
  . obtain⟨rfl,rfl⟩:=QM p;grind
theorem Inv.VI(i:Inv cx st a w)(b:List AV)(j:b.length<=st.env.length)(g:∀(t:Nat) (v:AV),b[t]?=some v->v=.undef\/st.env[t]?=some v):Inv cx ⟨b,st.heap⟩ a w:=by
 obtain⟨M,β,L,ds,r,e,d,c,k⟩:=i;refine⟨M,β,L,ds,r.slots (a':=a) (Nat.le_trans j r.tsize) λt v f=>?_,e,d,c,k⟩;rcases g t v f with rfl | h
 . exact .undef _
 . exact r.env t v h
theorem Lr(l:List (Nat × AV)):(E l).length=43:=by simp[E]
theorem SE(l:List (Nat × AV))(t:Nat)(v:AV)(h:(E l)[t]?=some v):t<43/\v=(tlook l t).getD .undef:=by grind[Lr,E]
theorem ZX(l:List (Nat × AV))(t:Nat)(b:t<43):(E l)[t]?=some ((tlook l t).getD .undef):=by unfold E;grind
theorem Inv.less{l b:List (Nat × AV)}{hp:Heap}(i:Inv cx ⟨E l,hp⟩ a w)(h:∀ p∈b,tlook l p.1=some p.2):Inv cx ⟨E b,hp⟩ a w:=by
 refine Inv.VI i (E b) (by rw[Lr];show 43<=(E l).length;rw[Lr];exact qNr _) λt v c=>?_;obtain⟨d,rfl⟩:=SE b t v c;cases f:tlook b t with
 | none=>exact .inl rfl
 | some u =>
  right;have e:∀{l:List (Nat × AV)} {t:Nat} {u:AV},tlook l t=some u->(t,u)∈l:=by
   intro l;induction l with
   | nil=>intro t u h;cases h
   | cons p r g=>grind[tlook]
  show(E l)[t]?=some u;rw[ZX l t d,h _ (e f)];rfl
structure Sep (gl:Option (List (Nat × Obj))) (W0:World) (J:(Nat->Prop)->(Nat->Prop)->World->Prop) (By L:Nat) (cx:Cx) (Oo Ko:Nat->Prop):Prop where
 JV:TJ gl cx
 j:J Oo Ko cx.w0.wd
 lt:∀ b,Oo b\/Ko b->b<cx.w0.heap.size
 m0:∀ b,cx.M0 b->¬ Oo b
 pr:∀ b,cx.Pr b->¬ Oo b/\¬ Ko b/\W0.heap.size<=b
 l0:∀ p∈cx.L0,¬ Oo p.1/\¬ Ko p.1/\W0.heap.size<=p.1
 box:(By,Obj.cells #[xZ L] 122 (0,0))∈cx.L0
 t2:cx.t0.getD 2 undef=.pointer (some ⟨By,0,none⟩)
 w0:W0.heap.size<=cx.w0.heap.size
 n0:W0.heap.size<=cx.w0.n0
theorem Sep.now(f:Bears gl W0 J)(s:Sep gl W0 J By L cx Oo Ko)(r:Rel cx.w0 cx.Pr cx.M0 M β st a w)(e:DrawnLe cx.w0.gl cx.w0.drawn w.drawn):J Oo Ko w:=by have d:=r.turns e;rw[s.JV.hgl]at d;exact f _ _ _ _ _ s.j d λb c=>⟨(s.pr b c).2.2,(s.pr b c).1,(s.pr b c).2.1⟩
theorem Sep.anew{J':(Nat->Prop)->(Nat->Prop)->World->Prop}(s:Sep gl W0 J By L cx Oo Ko){W':World}{z:List (Nat × Obj)}{ds:List Nat}
    (r:Rel cx.w0 cx.Pr cx.M0 M β st a w)(H:∀ x,argSite<=x->β x=cx.β0 x)(G:ArgsLike cx.hp0 st.heap)(d:Fix cx M β st.heap a w z ds){O' K':Nat->Prop}(P:J' O' K' W')(g:Turns gl Oo w W')(e:W'.heap[w.heap.size]?=some (.deferred (some [])))(B:∀ b,O' b->Oo b\/w.heap.size+2<=b)(U:∀ b,K' b->Ko b\/Oo b\/w.heap.size+2<=b)(v:∀ b,O' b\/K' b->b<W'.heap.size)(I:w.heap.size+2<=W'.heap.size) :
    ∃ k,Sep gl W0 J' By L k O' K'/\Inv k st {a with defers:=markOf w.heap.size::a.defers} W':=by
  have K:=r.size;have N:=cx.w0.le';have Q:∀ b,Oo b->b<cx.w0.heap.size:=λb c=>s.lt b (.inl c);have S:∀ b,Ko b->b<cx.w0.heap.size:=λb c=>s.lt b (.inr c);have R:∀ b,M b->¬ Oo b:=λb c A=>by
   rcases r.mnew b c with h |⟨_,h⟩
   . exact s.m0 b h A
   . rcases h with h | h
     . grind
     . exact(s.pr b h).1 A
  have f:∀ b,Owned β st.heap b->¬ Oo b/\¬ Ko b/\W0.heap.size<=b:=λb c=>by
   rcases(r.owned_lt c).2.2 with h | h
   . have:=s.w0;grind
   . exact s.pr b h
  have u:∀ D∈ds,¬ Oo D/\¬ Ko D/\W0.heap.size<=D:=λD e=>by
   rcases(d.mark D e).2.2 with h | h
   . exact s.l0 _ h
   . have:=s.w0;grind
  have up:∀ b,b<w.heap.size->¬ Oo b->¬ Ko b->¬ O' b/\¬ K' b:=λb c i m=>⟨λh=>(B b h).elim i λh=>by omega,λh=>by grind⟩;let L1:List (Nat × Obj):=(w.heap.size,.deferred (some []))::(cx.L0++ds.map λD=>(D,Obj.deferred (some [])));have j:∀ p∈L1,(p=(w.heap.size,Obj.deferred (some [])))\/(p∈z/\¬ Oo p.1/\¬ Ko p.1/\W0.heap.size<=p.1):=λp hp=>by
   rcases List.mem_cons.1 hp with h | h
   . exact .inl h
   . rcases List.mem_append.1 h with h | h
     . exact .inr ⟨d.sub p h,s.l0 p h⟩
     . obtain⟨D,e,rfl⟩:=List.mem_map.1 h;exact .inr ⟨(d.mark D e).1,u D e⟩
  have F:∀ p∈z,p.1<w.heap.size:=λp hp=>(qAa.1 (d.lies p hp).1).1;refine⟨{w0:=⟨W',cx.w0.n0,by have:=g.size;omega,cx.w0.gl⟩,Pr:=Owned β st.heap,M0:=M,β0:=cx.β0,hp0:=cx.hp0,Wr:=cx.Wr,t0:=cx.t0,rd:=none,L0:=L1,nm:=cx.nm},?_,?_⟩
  . refine⟨⟨s.JV.hp,s.JV.hgl,rfl,s.JV.wr,rfl,s.JV.t0⟩,P,v,λb c h=>?_,λb c=>?_,λp hp=>?_,?_,s.t2,by have:=s.w0;show W0.heap.size<=W'.heap.size;omega,s.n0⟩
    . rcases B b h with h | h
      . grind
      . have:=r.msub b c;omega
    . obtain⟨i,m,C⟩:=f b c;exact⟨(up b (r.owned_lt c).2.1 i m).1,(up b (r.owned_lt c).2.1 i m).2,C⟩
    . rcases j p hp with rfl |⟨h,i,m,C⟩
      . refine⟨λh=>?_,λh=>?_,by have:=s.w0;show W0.heap.size<=w.heap.size;omega⟩;all_goals grind
      grind
    . exact List.mem_cons_of_mem _ (List.mem_append_left _ s.box)
  . have q:Rel (⟨W',cx.w0.n0,by have:=g.size;omega,cx.w0.gl⟩:Base) (Owned β st.heap) M M β st a W':=by refine r.to rfl (λb c=>⟨c,g.keep b (r.msub b c) (R b c)⟩) (λx b o t c=>?_) (λb c=>Nat.lt_of_lt_of_le (r.msub b c) g.size) (λb c=>.inl c) (λb c=>c) (λ_ _ _=>rfl) (λ_ _ _ _ h=>h) (qNr _) rfl rfl rfl;obtain⟨y,n,E,T⟩:=r.own x b o t c;exact⟨g.keep b n (f b ⟨x,o,t,c⟩).1,y,Nat.lt_of_lt_of_le n g.size,.inr ⟨x,o,t,c⟩,T⟩
    refine⟨M,β,L1,w.heap.size::ds,q.slots (a':={a with defers:=markOf w.heap.size::a.defers}) q.tsize q.env,H,G,.refl _ _,⟨λp hp=>?_,λp hp=>hp,by show _::_=_;rw[d.marks];rfl,List.nodup_cons.2 ⟨λh=>?_,d.nodup⟩,λD e=>?_,λl O=>(by cases O),d.size,d.tmps,λh=>absurd s.JV.noLog h,λ_ h=>h.elim,by have:=d.nml;show cx.nm<=W'.heap.size;omega⟩⟩
    . rcases j p hp with rfl |⟨h,i,_,_⟩
      . exact⟨e,λh=>by have:=(r.owned_lt h).2.1;exact absurd this (Nat.lt_irrefl _),λh=>by have:=r.msub _ h;exact absurd this (Nat.lt_irrefl _)⟩
      . obtain⟨y,n,E⟩:=d.lies p h;exact⟨(g.keep _ (F p h) i).trans y,n,E⟩
    . have:=F _ (d.mark _ h).1;omega
    . rcases List.mem_cons.1 e with rfl | e
      . exact⟨List.mem_cons_self,by have:=d.nml;show cx.nm<=w.heap.size;omega,.inl List.mem_cons_self⟩
      . have:(D,Obj.deferred (some []))∈L1:=List.mem_cons_of_mem _ (List.mem_append_right _ (List.mem_map.2 ⟨D,e,rfl⟩));exact⟨this,(d.mark D e).2.1,.inl this⟩
end Go.Skm.Fen
set_option maxRecDepth 100000
namespace Go.Skm.Fen
open Go Go.Skm Go.Proofs Go.RowKit
theorem OY:cX=.seq c3 (.seq cI (.seq (.block 1 (.seq c4 (.seq c5 (.seq c8 (.block 2 Vq))))) cZ)):=by kernel_rfl
theorem VK:tlook tab.funcs 100=some LC:=by kernel_rfl
theorem O1:bodyPlain LC 1=true:=by kernel_rfl
theorem ZQ:(drawsOk tab kJ.hides c1=true/\noRange c1=true/\jT c1=true)/\(drawsOk tab kJ.hides c2=true/\noRange c2=true/\jT c2=true)/\(drawsOk tab kJ.hides c3=true/\noRange c3=true/\jT c3=true)/\(drawsOk tab kJ.hides cI=true/\noRange cI=true/\jT cI=true)/\(drawsOk tab kJ.hides c4=true/\noRange c4=true/\jT c4=true)/\(drawsOk tab kJ.hides c5=true/\noRange c5=true/\jT c5=true)/\(drawsOk tab kJ.hides c8=true/\noRange c8=true/\jT c8=true)/\(drawsOk tab kJ.hides cZ=true/\noRange cZ=true/\jT cZ=true):=by have c:=QL;have b:=NG;have a:=VG;grind
def jA:Nat->List (List V3)->List ku
 | _,[]=>[]
 | i,l::r=>dA (orient (decide (i=0)) l)++jA (i+1) r
theorem vZ:∀(r:List (List V3)) (i:Nat),jA (i+1) r=yw r
 |[],_=>rfl
 | l::r,i=>by rw[jA,vZ r (i+1),decide_eq_false (by omega)];rfl
theorem ES(f:Fen):jA 0 (f.outer::f.holes)=dS f:=by rw[jA,vZ];rfl
structure Gj (X:Ext):Prop where
 c:∀ l:List V3,l.length<=1000->run tab X 88 [.p (.list true kV3 (encL l))] []=some ([.fresh true kV3 (encL l)],[])
def hdE(n:Nat)(i:Int):List (Nat × AV):=[(15,.slice 12 1 0 n),(16,.p (.int .i64 (n:Int))),(17,.p (.int .i64 i))]
section
variable {gl:Option (List (Nat × Obj))} {X:Ext} (hX:Mine X) (hV:Gj X) (hC:CallOk Tryz.prog tab gl (run tab X)) (hS:SeqOk Tryz.prog tab gl (run tab X))
include hX hV hC hS
theorem VL(l:List V3)(a:l.length<=1000000):IterOk Tryz.prog gl 100 [.ref [.list true kV3 (encL l)]] ((dA l).map eY):=by have _:=hV;have _:=hC;exact(hS 100 LC [.ref [.list true kV3 (encL l)]] _ VK O1 (NI X hX l a)).2
theorem VN{g:Cx}(j:TJ gl g){b:List PV}{n i:Nat}(W:i<n)(hn:n<=1000){l:List V3}(z:b.getD i .nil=.list true kV3 (encL l))(V:dG l=true){a:Act}{w:World}(U:Inv g ⟨E (hdE n i),h12 b⟩ a w){Q:Exit->Act->World->Prop}{y:Code}
    (m:∀ a' w',Inv g ⟨E (hdE n i++[(34,.p (.fn 100 [.ref [.list true kV3 (encL (orient (decide (i=0)) l))]]))]),h12 b⟩ a' w'->y.wpIn (FW none) 0 Tryz.prog Q a' w'):(Code.seq c4 (.seq c5 (.seq c8 y))).wpIn (FW none) 0 Tryz.prog Q a w:=by
  have _:=hS;obtain⟨_,_,_,_,⟨a4,b4,d4⟩,⟨P,N,L⟩,⟨O,M,K⟩,_⟩:=ZQ;obtain⟨H,s2,T⟩:=eH V;have J:=ch4 (run tab X) (uZ .normal ⟨E [(3,.p (.int .i64 (i:Int))),(4,.p (.list true kV3 (((b.getD (0+(i:Int).toNat) .nil).cell 0).toList))),(15,.slice 12 1 0 n),(16,.p (.int .i64 (n:Int))),(17,.p (.int .i64 (i:Int))),(19,.p (.int .i64 (i:Int))),(20,.ptr 12 (0+(i:Int).toNat) 0),(21,.p (.list true kV3 (((b.getD (0+(i:Int).toNat) .nil).cell 0).toList)))],h12 b⟩) b n (i:Int);rw[rng W,qCt,iH]at J;refine wpIn_seq (xu hC j a4 b4 d4 J U λa1 S I=>?_);have Y:((b.getD (0+(i:Int).toNat) .nil).cell 0).toList=encL l:=by rw[qIt,qNz,z];rfl
  rw[Y]at I;have R:Inv g ⟨E [(3,.p (.int .i64 (i:Int))),(4,.p (.list true kV3 (encL l))),(15,.slice 12 1 0 n),(16,.p (.int .i64 (n:Int))),(17,.p (.int .i64 (i:Int)))],h12 b⟩ a1 S:=Inv.less I λp hp=>by simp only[List.mem_cons,List.not_mem_nil,or_false]at hp;rcases hp with rfl | rfl | rfl | rfl | rfl<;>rfl
  have h:=c47 X hX l (by omega) T;have t:=hV.c l (by omega);have e:(!((gtI (jU l) (0:Int))==((i:Int)==(0:Int))))=!(decide (0<jU l)==decide (i=0)):=by grind
  show(Code.seq c5 (.seq c8 y)).wpIn _ _ _ _ _ _;by_cases k:(decide (0<jU l)==decide (i=0))=true
  . have C:orient (decide (i=0)) l=l:=by unfold orient;rw[if_pos k]
    rw[C]at m;rw[k]at e;have d:=λS0=>ch5 (run tab X) (uZ .normal S0) b n (i:Int) (encL l);rw[h]at d;simp only[qOb,qLh,pv_p,toInt_int]at d;rw[show(!true)=false from rfl]at e;rw[e]at d;simp only[qCf]at d;refine wpIn_seq (xu hC j P N L ((d _).trans (iH _ _)) R λF q x=>?_);have G:Inv g ⟨E [(4,.p (.list true kV3 (encL l))),(15,.slice 12 1 0 n),(16,.p (.int .i64 (n:Int))),(17,.p (.int .i64 (i:Int)))],h12 b⟩ F q:=Inv.less x λp hp=>by simp only[List.mem_cons,List.not_mem_nil,or_false]at hp;rcases hp with rfl | rfl | rfl | rfl<;>rfl
    show(Code.seq c8 y).wpIn _ _ _ _ _ _;have f:=λS0=>ch8 (run tab X) (uZ .normal S0) b n (i:Int) (encL l);rw[c51 X hX l]at f;simp only[qOb]at f;refine wpIn_seq (xu hC j O M K ((f _).trans (iH _ _)) G λD o u=>?_);exact m D o (Inv.less u λp hp=>by simp only[hdE,List.cons_append,List.nil_append,List.mem_cons,List.not_mem_nil,or_false]at hp;rcases hp with rfl | rfl | rfl | rfl<;>rfl)
  . obtain ⟨v,r,rfl⟩:∃ v r,l=v::r:=by
      cases l with
      | nil=>simp at H
      | cons v r=>exact⟨v,r,rfl⟩
    have C:orient (decide (i=0)) (v::r)=v::r.reverse:=by unfold orient;rw[if_neg k];rfl
    rw[C]at m;have A:(decide (0<jU (v::r))==decide (i=0))=false:=by simpa using k
    rw[A]at e;simp only[qLl]at H s2;have d:=λS0=>ch5 (run tab X) (uZ .normal S0) b n (i:Int) (encL (v::r));have s:=c89 X hX v r (by omega);rw[h]at d;simp only[qOb,qLh,pv_p,toInt_int]at d;rw[show(!false)=true from rfl]at e;rw[e]at d;simp only[qCt]at d;rw[t]at d;simp only[qOb,qLh,freshList_fresh]at d;have B:(encL (v::r)).length=r.length+1:=by simp[encL]
    have g1:(leI (1:Int) (((encL (v::r)).length:Nat):Int)&&(leI (((encL (v::r)).length:Nat):Int) (((encL (v::r)).length:Nat):Int)&&leI (((encL (v::r)).length:Nat):Int) (((encL (v::r)).length:Nat):Int)))=true:=by grind
    have g2:((((encL (v::r)).length:Nat):Int)-1).toNat=r.length:=by rw[B];omega
    rw[g1,g2,s]at d;simp only[qOb,qCt,qLh]at d;refine wpIn_seq (xu hC j P N L ((d _).trans (iH _ _)) R λF q x=>?_);have G:Inv g ⟨E [(4,.slice 4 3 0 (encL (v::r)).length),(15,.slice 12 1 0 n),(16,.p (.int .i64 (n:Int))),(17,.p (.int .i64 (i:Int)))],[(12,.arr false [.slice true kV3] b),(4,.arr true kV3 (encL (v::r.reverse)))]⟩ F q:=Inv.less x λp hp=>by simp only[List.mem_cons,List.not_mem_nil,or_false]at hp;rcases hp with rfl | rfl | rfl | rfl<;>rfl
    show(Code.seq c8 y).wpIn _ _ _ _ _ _;have f:=λS0=>ZV (run tab X) (uZ .normal S0) b n (i:Int) (encL (v::r.reverse)) (encL (v::r)).length;have Z:((encL (v::r.reverse)).drop 0).take (encL (v::r)).length=encL (v::r.reverse):=by simp[qLy,List.take_of_length_le,encL]
    rw[Z,c51 X hX (v::r.reverse)]at f;simp only[qOb]at f;refine wpIn_seq (xu hC j O M K ((f _).trans (iH _ _)) G λD o u=>?_);exact m D o (Inv.less u λp hp=>by simp only[hdE,List.cons_append,List.nil_append,List.mem_cons,List.not_mem_nil,or_false]at hp;rcases hp with rfl | rfl | rfl | rfl<;>rfl)
end
end Go.Skm.Fen
set_option maxRecDepth 100000
namespace Go.Skm.Fen
open Go Go.Skm Go.Proofs Go.RowKit
variable {Q:Exit->Act->World->Prop}
def Marks(W0:World)(O K:Nat->Prop)(a:Act)(w:World):Prop:=
 ∃ ds:List Nat,a.defers=ds.map markOf/\ds.Nodup/\∀ D∈ds,w.heap[D]?=some (.deferred (some []))/\¬ O D/\¬ K D/\W0.heap.size<=D
section
variable {gl:Option (List (Nat × Obj))} {W0:World} {J:(Nat->Prop)->(Nat->Prop)->World->Prop} {By L:Nat} {cx:Cx} {Oo Ko:Nat->Prop} {st:St} {a:Act} {w W':World} {M:Nat->Prop} {β:Nat->Option (Nat × Nat)} {Ls:List (Nat × Obj)} {ds:List Nat}
theorem Sep.TN(s:Sep gl W0 J By L cx Oo Ko)(c:Fix cx M β st.heap a w Ls ds):∀ D∈ds,w.heap[D]?=some (.deferred (some []))/\¬ Oo D/\¬ Ko D/\W0.heap.size<=D:=λD d=>by
 refine⟨(c.lies _ (c.mark D d).1).1,?_⟩;rcases(c.mark D d).2.2 with h | h
 . exact s.l0 _ h
 . have:=s.w0;exact⟨λb=>by have:=s.lt D (.inl b);omega,λb=>by have:=s.lt D (.inr b);omega,by omega⟩
theorem Sep.mO(s:Sep gl W0 J By L cx Oo Ko)(r:Rel cx.w0 cx.Pr cx.M0 M β st a w):∀ b,M b->¬ Oo b:=λb d c=>by
 rcases r.mnew b d with h |⟨_,h⟩
 . exact s.m0 b h c
 . rcases h with h | h
   . have:=s.lt b (.inl c);omega
   . exact(s.pr b h).1 c
theorem Sep.end(d:Bears gl W0 J)(s:Sep gl W0 J By L cx Oo Ko)(i:Inv cx st a w):J Oo Ko w/\Marks W0 Oo Ko a w:=by obtain⟨M,β,Ls,ds,r,f,e,c,b⟩:=i;exact⟨s.now d r c,ds,b.marks,b.nodup,s.TN b⟩
theorem Sep.after(s:Sep gl W0 J By L cx Oo Ko)(r:Rel cx.w0 cx.Pr cx.M0 M β st a w)(e:Fix cx M β st.heap a w Ls ds){O' K':Nat->Prop}(g:Turns gl Oo w W')(f:W'.heap[w.heap.size]?=some (.deferred (some [])))(j:∀ b,O' b->Oo b\/w.heap.size+2<=b)(k:∀ b,K' b->Ko b\/Oo b\/w.heap.size+2<=b) :
    Marks W0 O' K' {a with defers:=markOf w.heap.size::a.defers} W':=by
  have i:=r.size;have d:∀ D∈ds,D<w.heap.size:=λD f=>(qAa.1 (s.TN e D f).1).1;refine⟨w.heap.size::ds,by show _::_=_;rw[e.marks];rfl,List.nodup_cons.2 ⟨λh=>absurd (d _ h) (Nat.lt_irrefl _),e.nodup⟩,λD c=>?_⟩;rcases List.mem_cons.1 c with rfl | c
  . refine⟨f,λh=>?_,λh=>?_,by have:=s.w0;omega⟩
    . rcases j _ h with h | h
      . have:=s.lt _ (.inl h);omega
      . omega
    . rcases k _ h with h | h | h
      . have:=s.lt _ (.inr h);omega
      . have:=s.lt _ (.inl h);omega
      . omega
  . obtain⟨n,m,o,l⟩:=s.TN e D c;have:=d D c;refine⟨(g.keep D this m).trans n,λh=>?_,λh=>?_,l⟩;all_goals grind
end
theorem vY{gl:Option (List (Nat × Obj))}{X:Ext}(hC:CallOk Tryz.prog tab gl (run tab X)){cx:Cx}(d:TJ gl cx){c:Code}(hd:drawsOk tab kJ.hides c=true/\noRange c=true/\jT c=true){st:St}{a:Act}{w:World}{b:Ex}{S0:St}
    (h:runCode tab (run tab X) kJ (some 0) c st (uZ b S0)=some ())(i:Inv cx st a w)(e:∀ a' w',Inv cx S0 a' w'->Q b.toExit a' w'):c.wpIn (FW none) 0 Tryz.prog Q a w:=xu hC d hd.1 hd.2.1 hd.2.2 h i e
section
variable {gl:Option (List (Nat × Obj))} {X:Ext} (hX:Mine X) (hV:Gj X) (hC:CallOk Tryz.prog tab gl (run tab X)) (hS:SeqOk Tryz.prog tab gl (run tab X))
include hX hV hC hS
theorem ZR{W0:World}{M0:Nat->Prop}{J:List PV->(Nat->Prop)->(Nat->Prop)->World->Prop}{Jx:(Nat->Prop)->(Nat->Prop)->World->Prop}{L By:Nat}
    (hJ:∀ r,Bears gl W0 (J r))(Z:Bears gl W0 Jx)(o:∀ r O K W,J r O K W->∀ b,O b\/K b->b<W.heap.size)
    (hY:∀ vs r O K W (M:Nat->Prop) cargs,J (.agg vs::r) O K W->W0.heap.size<=W.heap.size->(∀ b,M b->b<W.heap.size/\¬ O b/\(M0 b\/W0.heap.size<=b))->cargs.size=vs.length->(∀ i c,vs[i]?=some c->VR W M c (cargs.getD i undef))->YldOk Tryz.prog gl L cargs W (J r) Jx O K M)
    {Pl:List (List V3)}(U:∀ l∈Pl,dG l=true)(q:Pl.length<=1000)(ZY:∀ a w O K,J [] O K w->Marks W0 O K a w->Q (.exit 0) a w)(VO:∀ a w O K,Jx O K w->Marks W0 O K a w->Q .ret a w) :
    ∀(r:List (List V3)) (i:Nat),Pl.drop i=r->i<=Pl.length->∀(a:Act) (w:World) (cx:Cx) (Oo Ko:Nat->Prop),Sep gl W0 (J ((jA i r).map eY)) By L cx Oo Ko->Inv cx ⟨E (hdE Pl.length i),h12 (bI Pl)⟩ a w->Code.roundsIn (FW none) 0 Tryz.prog cX Q (r.length+1) a w:=by
  obtain⟨_,_,o3,oI,_,_,_,oZ⟩:=ZQ;intro r;induction r with
  | nil =>intro i I hi a w cx Oo Ko s C;have d:Pl.length<=i:=List.drop_eq_nil_iff.1 I;rw[roundsIn_succ,OY];have e3:=λS0=>ch3 (run tab X) (uZ .normal S0) (bI Pl) Pl.length (i:Int);refine wpIn_seq (vY hC s.JV o3 ((e3 _).trans (iH _ _)) C λa1 w1 n=>?_);have eI:=λS0=>chI (run tab X) (uZ (.exit 0) S0) (bI Pl) Pl.length (i:Int) false;rw[yL (by omega)]at n;show(Code.seq cI _).wpIn _ _ _ _ _ _;refine wpIn_seq (vY hC s.JV oI ((eI _).trans (iH _ _)) n λa2 y D=>?_);obtain⟨h1,h2⟩:=s.end (hJ _) D;exact ZY a2 y Oo Ko h1 h2
  | cons l r ih =>
   intro i I hi a w cx Oo Ko s C;have d:i<Pl.length:=by grind
   have hv:gh Pl i=l:=by grind[qLb,List.head?_drop]
   have hm:l∈Pl:=hv▸tH d;have g:=U l hm;rw[roundsIn_succ,OY];have e3:=λS0=>ch3 (run tab X) (uZ .normal S0) (bI Pl) Pl.length (i:Int);refine wpIn_seq (vY hC s.JV o3 ((e3 _).trans (iH _ _)) C λa1 w1 n=>?_);have eI:=λS0=>chI (run tab X) (uZ .normal S0) (bI Pl) Pl.length (i:Int) true;rw[sG d]at n;show(Code.seq cI _).wpIn _ _ _ _ _ _;refine wpIn_seq (vY hC s.JV oI ((eI _).trans (iH _ _)) n λa2 y D=>?_);have TK:Inv cx ⟨E (hdE Pl.length i),h12 (bI Pl)⟩ a2 y:=Inv.less D λp hp=>by simp only[hdE,List.mem_cons,List.not_mem_nil,or_false]at hp;rcases hp with rfl | rfl | rfl<;>rfl
   show(Code.seq (.block 1 _) cZ).wpIn _ _ _ _ _ _;refine wpIn_seq (wpIn_block ?_);refine VN hX hV hC hS s.JV d q (by rw[gJ Pl d,hv]) g TK λk w4 i4=>wpIn_block ?_;obtain⟨M,β,Ls,ds,e,j1,j2,j3,j⟩:=i4;have h:=e.slot 34;have he:(E (hdE Pl.length i++[(34,.p (.fn 100 [.ref [.list true kV3 (encL (orient (decide (i=0)) l))]]))])).getD 34 .undef=.p (.fn 100 [.ref [.list true kV3 (encL (orient (decide (i=0)) l))]]):=rfl;rw[he]at h;obtain⟨v,z,S,P⟩:∃ v:Array Value,k.tmps.getD 34 undef=.func (.func 100) #[] v/\v.size=1/\∀(m:Nat) (c:PV),([.ref [.list true kV3 (encL (orient (decide (i=0)) l))]]:List PV)[m]?=some c->VR w4 M c (v.getD m undef):=by
    generalize k.tmps.getD 34 undef=c at h;cases h with
    | p _ _ F=>cases F with | fn _ _ vs hn hc=>exact⟨vs,rfl,hn,hc⟩
   have H:k.tmps.size=43:=j.size.trans s.JV.t0;have t2:k.tmps.getD 2 undef=.pointer (some ⟨By,0,none⟩):=(j.tmps 2 (by rw[s.JV.wr];simp)).trans s.t2;have T:=j.lies _ (j.sub _ s.box);have t:=s.now (hJ _) e j3;have hrs:=e.size;have R:(orient (decide (i=0)) l).length<=1000000:=by have h1:=(lF (b:=decide (i=0)) g).2;have h2:=(eH g).2.1;omega
   have eE:(jA i (l::r)).map eY=(dA (orient (decide (i=0)) l)).map eY++(jA (i+1) r).map eY:=by rw[jA,List.map_append]
   rw[eE]at t;refine QK (OA:=Oo) (KA:=Ko) hJ Z o hY (VL hX hV hC hS _ R) H t2 z S P (λb hb=>⟨e.msub b hb,s.mO e b hb⟩) (λp hp=>by
    have N:p∈cx.w0.gl.getD []:=by rw[s.JV.hgl];exact hp
    exact e.glob p N) (by have:=s.w0;omega) t T.1 (s.l0 _ s.box).1 ?_ ?_
   . intro W' O' K' x G hD V Y f;obtain⟨u,s',B⟩:=Sep.anew (J':=J ((jA (i+1) r).map eY)) s e j1 j2 j x G hD V Y (o _ _ _ _ x) f;have A:Inv u ⟨E (hdE Pl.length i),h12 (bI Pl)⟩ {k with defers:=markOf w4.heap.size::k.defers} W':=Inv.less B λp hp=>by simp only[hdE,List.mem_cons,List.not_mem_nil,or_false]at hp;rcases hp with rfl | rfl | rfl<;>rfl
     have eZ:=λS0=>chZ (run tab X) (uZ .normal S0) (bI Pl) Pl.length (i:Int);show cZ.wpIn _ _ _ _ _ _;refine vY hC s'.JV oZ ((eZ _).trans (iH _ _)) A λa5 w5 i5=>?_;rw[fH (by omega)]at i5;exact ih (i+1) (by rw[<- List.tail_drop,I];rfl) (by omega) a5 w5 u O' K' s' (Inv.less i5 λp hp=>by simp only[hdE,List.mem_cons,List.not_mem_nil,or_false]at hp;rcases hp with rfl | rfl | rfl<;>rfl)
   . intro W' O' K' x G hD V Y f;exact VO _ W' O' K' x (s.after e j G hD V Y)
end
end Go.Skm.Fen
set_option maxRecDepth 100000
namespace Go.Skm.Fen
open Go Go.Skm Go.Proofs Go.RowKit
theorem ND:Tryz.f87.ntmps=43:=by kernel_rfl
theorem OW:Tryz.f87.results=#[]:=by kernel_rfl
theorem Lp{gl:Option (List (Nat × Obj))}{W0:World}{J:(Nat->Prop)->(Nat->Prop)->World->Prop}(p:Bears gl W0 J){a:Act}{w:World}{O K:Nat->Prop}(n:J O K w)(m:Marks W0 O K a w){R:Ending->World->Prop}(o:∀ v w',J O K w'->R (.returned v) w') :
    LeavesInM (FW none) 0 Tryz.prog Tryz.f87 a.tmps R a.defers .returning w:=by
  obtain⟨ds,s,r,d⟩:=m;rw[s];refine leaves_marks ds w r (λD q=>(d D q).1) λw' l t k j i h=>?_;refine⟨wrapV [],run_results (cs:=[]) (by rw[OW];rfl),o _ _ ?_⟩;refine p _ _ _ _ (λb=>b∈ds) n ⟨by omega,λb _ c=>l b c,k,j,i,λu=>by rw[h];exact qNr _⟩ λb c=>?_;obtain⟨_,g,f,e⟩:=d b c;exact⟨e,g,f⟩
section
variable {gl:Option (List (Nat × Obj))} {X:Ext} (hX:Mine X) (hV:Gj X) (hC:CallOk Tryz.prog tab gl (run tab X)) (hS:SeqOk Tryz.prog tab gl (run tab X))
include hX hV hC hS
theorem Tj(f:Fen)(hf:qW f):IterOk Tryz.prog gl 87 [.ref (vT f)] ((mJ f).map eY):=by
 obtain⟨o1,o2,_⟩:=ZQ;intro W0 M0 L i J Jx O0 x hlb Z j N I B hY h0;have W:i.size=1:=hlb;have S:VR W0 M0 (.ref (vT f)) (i.getD 0 undef):=Z 0 _ rfl;refine calls_of_fw (rd:=none) (n:=0) (callsIn_of_wp_marks Tryz.func87 TG trivial ?_);generalize hR:(λ(e:Ending) (W':World)=>(∃ v,e=.returned v)/\∃ O K:Nat->Prop,J [] O K W'\/Jx O K W')=R;have H:∀ a w O K,J [] O K w->Marks W0 O K a w->LeavesInM (FW none) 0 Tryz.prog Tryz.f87 a.tmps R a.defers .returning w:=λa w O K u r=>Lp (N []) u r λv w' h=>by rw[<- hR];exact⟨⟨v,rfl⟩,O,K,.inl h⟩
 have hQX:∀ a w O K,Jx O K w->Marks W0 O K a w->LeavesInM (FW none) 0 Tryz.prog Tryz.f87 a.tmps R a.defers .returning w:=λa w O K u r=>Lp I u r λv w' h=>by rw[<- hR];exact⟨⟨v,rfl⟩,O,K,.inr h⟩
 have V:(#[xZ L]++i).size=2:=by rw[Array.size_append,W];rfl
 have U:(#[xZ L]++i++Array.replicate (Tryz.f87.ntmps-(#[xZ L]++i).size) undef).size=43:=by rw[Array.size_append,V,Array.size_replicate,ND]
 have t0:(#[xZ L]++i++Array.replicate (Tryz.f87.ntmps-(#[xZ L]++i).size) undef).getD 0 undef=xZ L:=by rw[qAb,Array.getElem?_append_left (by omega),Array.getElem?_append_left (by simp)];rfl
 have t1:(#[xZ L]++i++Array.replicate (Tryz.f87.ntmps-(#[xZ L]++i).size) undef).getD 1 undef=i.getD 0 undef:=by rw[qAb,Array.getElem?_append_left (by omega),Array.getElem?_append_right (by simp),qAb];simp
 generalize #[xZ L]++i++Array.replicate (Tryz.f87.ntmps-(#[xZ L]++i).size) undef=T at *;refine wpIn_seq ?_;rw[Vt];refine wpIn_region_list ?_;have e0:({tmps:=T,defers:=[]}:Act).eval (.tmp 0)=xZ L:=t0;refine wpListIn_val rfl (by simp[Oper.about]) (λc h=>by cases h) (v:=.pointer (some ⟨W0.heap.size,0,none⟩)) (w':=W0.alloc (.cells #[xZ L] 122 (0,0))) (by simp only[execOp,e0];simp[Instr.box,newVar,newRow,Value.cells]) ?_;refine wpListIn_nil ?_;generalize hA:(({tmps:=T,defers:=[]}:Act).put (some 2) (.pointer (some ⟨W0.heap.size,0,none⟩)))=A;have UJ:A.tmps.size=43:=by rw[<- hA,put_size];exact U
 have A1:A.tmps.getD 1 undef=i.getD 0 undef:=by rw[<- hA,put_ne (by decide)];exact t1
 have A2:A.tmps.getD 2 undef=.pointer (some ⟨W0.heap.size,0,none⟩):=by rw[<- hA,put_self (by show 2<T.size;omega)]
 have Ad:A.defers=[]:=by rw[<- hA];rfl
 have hbx:=World.alloc_heap_new W0 (.cells #[xZ L] 122 (0,0));have G:Grows gl W0 (W0.alloc (.cells #[xZ L] 122 (0,0))):=Grows.alloc W0 _;have hws:(W0.alloc (.cells #[xZ L] 122 (0,0))).heap.size=W0.heap.size+1:=by simp
 generalize W0.alloc (.cells #[xZ L] 122 (0,0))=Wb at *;have hO0:∀ b,O0 b->b<W0.heap.size:=λb d=>B _ _ _ _ h0 b (.inl d);have hJb:=(N _).grows h0 G;let y:Cx:={w0:=⟨Wb,Wb.heap.size,qNr _,gl⟩,Pr:=λ_=>False,M0:=M0,β0:=λ_=>none,hp0:=[],Wr:=λt=>t≠2,t0:=A.tmps,rd:=none,L0:=[(W0.heap.size,.cells #[xZ L] 122 (0,0))],nm:=W0.heap.size};have F:∀ b,b<W0.heap.size->Wb.heap[b]?=W0.heap[b]?:=λb d=>G.keep b d λh=>h;have M:TJ gl y:=⟨rfl,rfl,rfl,rfl,rfl,UJ⟩;have g:Sep gl W0 (J ((mJ f).map eY)) W0.heap.size L y O0 (λ_=>False):=by refine⟨M,hJb,λb d=>d.elim (λh=>by have:=hO0 b h;show b<Wb.heap.size;omega) λh=>h.elim,λb d=>(j b d).2,λb d=>d.elim,λp hp=>?_,List.mem_singleton.2 rfl,A2,by show W0.heap.size<=Wb.heap.size;omega,by show W0.heap.size<=Wb.heap.size;omega⟩;grind
 have m:Inv y ⟨E [(1,SC (encL f.outer) (bI f.holes) f.low f.high)],[]⟩ A Wb:=by
  refine⟨M0,λ_=>none,[(W0.heap.size,.cells #[xZ L] 122 (0,0))],[],⟨by show(E _).length<=_;rw[Lr];omega,λt v k=>?_,λs blk h=>(by cases h),λs b o h=>(by cases h),λs s' b o o' h=>(by cases h),λb d=>by have:=(j b d).1;omega,λb d=>.inl d,λb d=>d,λ_ _ _=>rfl,λ_ _ _ h=>h.elim,qNr _,rfl,rfl,rfl,λp hp=>⟨(x p hp).1,(F _ (j _ (x p hp).1).1).trans (x p hp).2⟩⟩,λ_ _=>rfl,λs _ blk h=>(by cases h),.refl _ _,⟨λp hp=>?_,λp hp=>hp,Ad,List.nodup_nil,λD hD=>by simp at hD,λl hl=>(by cases hl),rfl,λ_ _=>rfl,λh=>absurd M.noLog h,λ_ h=>h.elim,by show W0.heap.size<=Wb.heap.size;omega⟩⟩
  . obtain⟨ht,rfl⟩:=SE _ t v k;by_cases h1:t=1
    . subst h1;rw[A1];exact .p _ _ (S.mono λb d=>⟨d,F b (j b d).1⟩)
    . have:tlook [(1,SC (encL f.outer) (bI f.holes) f.low f.high)] t=none:=by grind[tlook]
      rw[this];exact .undef _
  . rw[List.mem_singleton.1 hp];exact⟨hbx,λ⟨s,o,h,_⟩=>(by cases h),λh=>absurd (j _ h).1 (Nat.lt_irrefl _)⟩
 have z:=c18 X hX f hf;have q:=λ(e0:Ex) S0=>ch1 (run tab X) (uZ e0 S0) (encL f.outer) (bI f.holes) f.low f.high;rw[encF]at z;rw[z]at q;simp only[qOb,qLh,pv_p,toBool_bool]at q;show(Code.seq c1 _).wpIn _ _ _ _ _ _;cases k:validP f with
 | false =>
  rw[k]at q;simp only[qBf,qCt]at q;refine wpIn_seq (vY hC M o1 ((q .ret _).trans (iH _ _)) m λa1 P Q=>?_);have he:mJ f=[]:=by unfold mJ;rw[k];rfl
  rw[he]at g;obtain⟨k1,k2⟩:=g.end (N _) Q;exact H a1 P _ _ k1 k2
 | true =>
  rw[k]at q;simp only[qBt,qCf]at q;refine wpIn_seq (vY hC M o1 ((q .normal _).trans (iH _ _)) m λa1 P Q=>?_);have he:mJ f=jA 0 (f.outer::f.holes):=by unfold mJ;rw[if_pos k,ES]
  rw[he]at g;obtain⟨v1,v2⟩:=kW k;have hn:=(o7 k).2.1;have UL:Inv y ⟨E [(1,SC (encL f.outer) (bI f.holes) f.low f.high)],[]⟩ a1 P:=Inv.less Q λp hp=>by rw[List.mem_singleton.1 hp];rfl
  have e2:=λS0=>ch2 (run tab X) (uZ .normal S0) (encL f.outer) (bI f.holes) f.low f.high;have hl2:leN (1+(bI f.holes).length) 2147483648=true:=decide_eq_true (by rw[bH];omega);rw[hl2]at e2;simp only[qCt]at e2;show(Code.seq c2 _).wpIn _ _ _ _ _ _;refine wpIn_seq (vY hC M o2 ((e2 _).trans (iH _ _)) UL λa2 w2 i2=>?_);show(Code.block 0 _).wpIn _ _ _ _ _ _;refine wpIn_block (wpIn_loop_rounds ((f.outer::f.holes).length+1) ?_);have C:1+(bI f.holes).length=(f.outer::f.holes).length:=by rw[bH,qLl];omega
  have Y:([.list true kV3 (encL f.outer)]:List PV)++bI f.holes=bI (f.outer::f.holes):=rfl;rw[C,Y]at i2;have TK:Inv y ⟨E (hdE (f.outer::f.holes).length ((0:Nat):Int)),h12 (bI (f.outer::f.holes))⟩ a2 w2:=Inv.less i2 λp hp=>by simp only[hdE,List.mem_cons,List.not_mem_nil,or_false]at hp;rcases hp with rfl | rfl | rfl<;>rfl
  have hcx:Code.seq c3 (.seq cI (.seq (.block 1 (.seq c4 (.seq c5 (.seq c8 (.block 2 Vq))))) cZ))=cX:=OY.symm;rw[hcx];refine ZR hX hV hC hS N I B hY (λl hl=>?_) (by rw[qLl];omega) (λa w O K u r=>?_) (λa w O K u r=>?_) (f.outer::f.holes) 0 rfl (Nat.zero_le _) a2 w2 y O0 _ g TK
  . grind
  . have:Exit.inBlock 0 (bodyPostM (FW none) 0 Tryz.prog Tryz.f87 R) (.exit 0) a w=bodyPostM (FW none) 0 Tryz.prog Tryz.f87 R .normal a w:=by simp[Exit.inBlock]
    rw[this];exact H a w O K u r
  . exact hQX a w O K u r
end
end Go.Skm.Fen
set_option maxRecDepth 100000
namespace Go.Skm.Fen
open Go Go.Skm Go.Proofs Go.RowKit Go.Lib Go.Sort
variable {gl:Option (List (Nat × Obj))}
theorem run_seq{P:Program}{T:Tab}(ok:TabOk P T){X:Ext}(d:ExtOk P T gl X):SeqOk P T gl (run T X):=by intro g fi a r c hp h;obtain⟨n,b⟩:=lim_some h;exact(acall_sound2 ok d n).2 g fi a r c hp b
theorem Si(t:TypeId)(n:Nat)(h:(Tryz.prog.info? t).map (λi=>(i.zero.map (λz:Value=>z.cells.size),i.size,decide (i.bytes<=1000)))=some (some n,n,true)):∃ a z,Tryz.prog.info? t=some a/\a.zero=some z/\a.size=n/\z.cells.size=n/\a.bytes<=1000:=by
 cases c:Tryz.prog.info? t with
 | none=>rw[c]at h;cases h
 | some i =>
  rw[c]at h;cases b:i.zero with
  | none=>rw[Option.map_some,b]at h;cases h
  | some z =>rw[Option.map_some,b]at h;simp only[Option.map_some,qOa,Prod.mk.injEq,qDa]at h;exact⟨i,z,rfl,b,h.2.1,h.1,h.2.2⟩
theorem U1:CloneAt Tryz.prog tab Tryz.vP 88 fi88 22 26 true kV3:=⟨Tryz.JE,rfl,by kernel_rfl,⟨_,rfl⟩,rfl,by kernel_rfl,by kernel_rfl,by kernel_rfl,Si 26 3 (by kernel_rfl),by decide,λw=>Tryz.sizeOf26 w⟩
theorem U2:CloneAt Tryz.prog tab Tryz.vS 193 OE 140 143 false kU:=⟨Tryz.JF,rfl,by kernel_rfl,⟨_,rfl⟩,rfl,by kernel_rfl,by kernel_rfl,by kernel_rfl,Si 143 1 (by kernel_rfl),by decide,λw=>Tryz.sizeOf143 w⟩
theorem cloneN_of{a:Bool}{ks:List Kd}{xs:List PV}(h:xs.length<=100000):cloneN a ks [.p (.list a ks xs)] []=some ([.fresh a ks xs],[]):=by
 unfold cloneN;have b:Kd.beqs ks ks=true:=by simpa using Kd.beqs_refl ks
 simp[b,h]
def La:Ext:=extL [(88,cloneN true kV3)]
theorem OG:Mine La:=by
 intro f h;simp only[extB,Bool.or_eq_false_iff]at h;obtain⟨_,_,a,_⟩:=h;unfold La extL;have:(88==f)=false:=by rw[beq_eq_false_iff_ne]at a ⊢;exact λe=>a e.symm
 simp only[tlook,this,qCf]
theorem Nj:Gj La:=⟨λl a=>run_ext (fi:=fi88) (by kernel_rfl) rfl (cloneN_of (by simp[encL];omega))⟩
theorem Lc(hne:gl≠none):ExtOk Tryz.prog tab gl La:=extOk_cons (by kernel_rfl) (ext1_cloneN hne U1 rfl) JD
theorem OH{a b:V3}(h:encV a=encV b):a=b:=by unfold encV at h;simp only[PV.agg.injEq,List.cons.injEq,PV.int.injEq,true_and,and_true]at h;obtain⟨e,d,c⟩:=h;cases a;cases b;simp_all
theorem Ik{l m:List V3}(h:encL l=encL m):l=m:=List.map_inj_right (λ_ _=>OH) |>.1 h
theorem Nk{l m:List (List V3)}(h:bI l=bI m):l=m:=List.map_inj_right (f:=λh=>PV.list true kV3 (encL h)) (λa b e=>Ik (by simpa using e)) |>.1 h
theorem OI{f g:Fen}(h:vT f=vT g):f=g:=by simp only[vT,List.cons.injEq,PV.list.injEq,PV.int.injEq,true_and,and_true]at h;obtain⟨b,a,c,h4⟩:=h;have e:=Ik b;have d:=Nk a;cases f;cases g;simp_all
noncomputable def Dc:ExtFn:=λargs bl=>open Classical in if h:∃ f:Fen,qW f/\args=[.yld,.p (.ref (vT f))]/\bl=[.log true []]then some ([],[.log true ((mJ h.choose).map eY)])else none
theorem Nl(f:Fen)(a:qW f):Dc [.yld,.p (.ref (vT f))] [.log true []]=some ([],[.log true ((mJ f).map eY)]):=by
 unfold Dc;have h:∃ g:Fen,qW g/\([.yld,.p (.ref (vT f))]:List AV)=[.yld,.p (.ref (vT g))]/\([.log true []]:List Blk)=[.log true []]:=⟨f,a,rfl,rfl⟩;rw[dif_pos h];have b:vT f=vT h.choose:=by
  have c:=h.choose_spec.2.1;injection c with _ h1
  injection h1 with h2 _
  injection h2 with h3
  injection h3
 have e:h.choose=f:=(OI b).symm;rw[e]
theorem JG(a:gl≠none):JH Tryz.prog tab gl 87 Dc:=by
 intro fi args bl r b h;unfold Dc at h;split at h
 . next hx =>
   obtain⟨f,d,c⟩:=hx.choose_spec;cases h;refine⟨[.ref (vT hx.choose)],d,c,?_,?_⟩
   . have:fi=kJ:=by
       have e:tlook tab.funcs 87=some kJ:=by kernel_rfl
       rw[e]at b;exact(Option.some.inj b).symm
     rw[this];exact Tryz.func87
   . exact Tj OG Nj (run_sound tabTrue (Lc a)) (run_seq tabTrue (Lc a)) hx.choose f
 . cases h
end Go.Skm.Fen
