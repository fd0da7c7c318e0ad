import Derived.Test.YtoheflpoanjihaaGreatSkmD
import Derived.ProofKit
import Derived.Lib.SplitLaws
import Derived.Lib.AtoiAll
import Derived.Lib.ItoaMem
import Derived.Lib.IndexBytes
import Derived.Laws.Strings
import Derived.Test.YtoheflpoanjihaaGreatSkmA
set_option linter.all false
namespace Go.Skm
section
open Go.ChangeShapes Go.WideShapes
variable {b0 f n:Nat}{t:TypeId}{cs:List Value}{a:Addr}{v:Value}{T:Tab}{fi:FI}{P:Program}
mutual
def PV.wf:PV->Prop
 | .int k n=>(Lit.int k n).wf=true
 | .str s=>s.size<=maxLen
 | .list _ _ xs=>xs.length<=maxLen/\PV.wfs xs
 | .agg cs=>PV.wfs cs
 | .nil=>False
 | _=>True
def PV.wfs:List PV->Prop
 |[]=>True
 | v::r=>PV.wf v/\PV.wfs r
end
theorem wfs_mem:∀{l:List PV},PV.wfs l↔∀ v∈l,v.wf
 |[]=>by simp[PV.wfs]
 | v::r=>by simp[PV.wfs,wfs_mem]
section
variable (P:Program)
def argT:Nat->TypeId->Bool
 | 0,_=>false
 | n+1,t =>
  match P.underlying t with
  | some (.int _)=>Nat.beq (P.cellsOf t) 1
  | some .bool=>Nat.beq (P.cellsOf t) 1
  | some .string=>Nat.beq (P.cellsOf t) 1
  | some (.slice e)=>argT n e&&(Nat.blt 0 (P.cellsOf e)&&Nat.beq (P.cellsOf t) 1)
  | some (.struct fs)=>go n 0 fs.toList&&Nat.beq (P.cellsOf t) (sum fs.toList)
  | some (.array m e)=>argT n e&&Nat.beq (P.cellsOf t) (m*P.cellsOf e)
  | _=>false
where
 go (n:Nat):Nat->List Field->Bool
 | _,[]=>true
 | o,f::r=>f.offset==o&&(argT n f.type&&go n (o+P.cellsOf f.type) r)
 sum:List Field->Nat
 |[]=>0
 | f::r=>P.cellsOf f.type+sum r
end
section
variable {H:Type} {enc:TypeId × Value->H} {P:Program} {w:World} {base:Nat} {sp:Nat->Bool} {held:Bool} {M:Nat->Prop}
theorem argT_len:∀{n:Nat} {t:TypeId},argT P n t=true->(shapeP P n t).2.length=P.cellsOf t
 | 0,t,h=>by simp[argT]at h
 | n+1,t,h=>by
  unfold argT at h;unfold shapeP;split at h
  . simp_all
  . simp_all
  . simp_all
  . simp_all
  . rename_i d b;rw[b];simp only[qBa]at h;rw[Nat.eq_of_beq_eq_true h.2];have:∀(l:List Field) (o:Nat),argT.go P n o l=true->(l.flatMap λf=>(shapeP P n f.type).2).length=argT.sum P l:=by
     intro l;induction l with
     | nil=>intro o _;rfl
     | cons f r c =>intro o h;simp only[argT.go,qBa]at h;simp only[List.flatMap_cons,qLp,argT.sum,argT_len h.2.1,c _ h.2.2]
    grind
  . rename_i m e b;rw[b];simp only[qBa]at h;simp only[List.length_flatten,List.map_replicate,List.sum_replicate_nat,argT_len h.1];simp_all
  . cases h
def ArgR(w:World)(M:Nat->Prop)(ks:List Kd)(cs:List Value)(ps:List PV):Prop:=
 kindsOk ks ps=true/\ps.length=cs.length/\(∀(i:Nat) (p:PV),ps[i]?=some p->VR w M p (cs.getD i undef))/\PV.wfs ps
theorem kindsOk_append:∀{e c:List Kd} {d b:List PV},kindsOk e d=true->kindsOk c b=true->kindsOk (e++c) (d++b)=true
 |[],c,[],b,_,h=>h
 | k::e,c,v::d,b,h1,h2=>by simp only[kindsOk,qBa]at h1;simp only[List.cons_append,kindsOk,qBa];exact⟨h1.1,kindsOk_append h1.2 h2⟩
 |[],_,_::_,_,h,_=>by simp[kindsOk]at h
 | _::_,_,[],_,h,_=>by simp[kindsOk]at h
theorem ArgR.append{j h:List Kd}{c1 c2:List Value}{e g:List PV}(c:ArgR w M j c1 e)(d:ArgR w M h c2 g):ArgR w M (j++h) (c1++c2) (e++g):=by
 refine⟨kindsOk_append c.1 d.1,by simp[c.2.1,d.2.1],λi p hp=>?_,?_⟩
 . by_cases k:i<e.length
   . rw[List.getElem?_append_left k]at hp;have:=c.2.2.1 i p hp;grind[qLb,c.2.1]
   . rw[List.getElem?_append_right (by omega)]at hp;have:=d.2.2.1 _ p hp;grind[qLb,c.2.1]
 . rw[wfs_mem]at *;have a:=wfs_mem.1 c.2.2.2;have b:=wfs_mem.1 d.2.2.2;grind
def elemPV(a:Bool)(ps:List PV):PV:=match a with | true=>.agg ps | false=>ps.headD .nil
theorem shapeP_one(h:argT P n t=true)(b:(shapeP P n t).1=false):(shapeP P n t).2.length=1:=by
 cases n with
 | zero=>simp[argT]at h
 | succ n=>grind[argT,shapeP]
theorem arg_elem_ok{c:List PV}(h:argT P n t=true)(d:ArgR w M (shapeP P n t).2 cs c) :
    shapeOk (shapeP P n t).1 (shapeP P n t).2 (elemPV (shapeP P n t).1 c)=true/\(elemPV (shapeP P n t).1 c).cells=c/\(elemPV (shapeP P n t).1 c).wf:=by
  cases g:(shapeP P n t).1 with
  | true=>exact⟨d.1,rfl,by simp only[elemPV,PV.wf];exact d.2.2.2⟩
  | false =>
   have i:=shapeP_one h g;have b:=d.1
   match hks:(shapeP P n t).2,i,b with
   |[k],_,b =>
    match c,b,d with
    |[p],b,d =>
     simp only[kindsOk,Bool.and_true]at b;have e:=kindOk_leaf b;refine⟨b,?_,?_⟩
     . simp only[elemPV,qLh];cases p<;>first | rfl | simp[PV.leaf]at e
     . exact(wfs_mem.1 d.2.2.2) p (by simp)
    |[],b,_=>simp[kindsOk]at b
    | _::_::_,b,_=>simp[kindsOk]at b
theorem spot_of_cells{i:Nat}(h:w.cell? (a.add i)=some v)(c:i<n)(b:i=0):a.spot=none:=by subst b;simp only[Addr.add,if_true]at h;unfold World.cell? at h;split at h;all_goals simp_all
theorem cells?_get(h:w.cells? base a n=some cs):cs.length=n/\∀ i,i<n->∃ v,cs[i]?=some v/\w.cell? (a.add i)=some v:=by
 unfold World.cells? at h;split at h
 . have b:=mapM_some_length h;simp at b;refine⟨b,λi c=>?_⟩;have:=mapM_some_get h i i (by simp[c]);grind
 . cases h
theorem trod_pure(hM:∀ b,b<w.heap.size->M b):∀(d n:Nat) (t:TypeId) (cs:List Value) (x:DataW H × List MemPlace),DataW.trod enc P w base sp held d t cs=some x->argT P n t=true->∃ B,ArgR w M (shapeP P n t).2 cs B:=by
 intro d;induction d with
 | zero=>intro n t cs x h;simp[DataW.trod]at h
 | succ d ih =>
  intro n t cs x h z;cases n with
  | zero=>simp[argT]at z
  | succ n =>
   unfold argT at z;have one:∀(k:Kd) (p:PV) (v:Value),kindOk k p=true->VR w M p v->p.wf->ArgR w M [k] [v] [p]:=by intro k p v Q G F;refine⟨by simp[kindsOk,Q],rfl,λi q hq=>?_,by simp[PV.wfs,F]⟩;grind
   split at z
   . rename_i k u;obtain⟨m,rfl,_,hw⟩:=DataW.trod_int u h;have e:(shapeP P (n+1) t).2=[.int k]:=by (conv=>lhs;unfold shapeP);rw[u]
     rw[e];exact⟨_,one _ (.int k m) _ (by simp[kindOk]) (.int k m) hw⟩
   . rename_i u;obtain⟨b,rfl,_⟩:=DataW.trod_bool u h;have e:(shapeP P (n+1) t).2=[.bool]:=by (conv=>lhs;unfold shapeP);rw[u]
     rw[e];exact⟨_,one _ (.bool b) _ rfl (.bool b) trivial⟩
   . rename_i u;obtain⟨s,rfl,_,hw⟩:=DataW.trod_string u h;have e:(shapeP P (n+1) t).2=[.str]:=by (conv=>lhs;unfold shapeP);rw[u]
     rw[e];exact⟨_,one _ (.str s) _ rfl (.str s) hw⟩
   . -- a slice
     rename_i e u;simp only[qBa]at z;have Y:(shapeP P (n+1) t).2=[.slice (shapeP P n e).1 (shapeP P n e).2]:=by (conv=>lhs;unfold shapeP);rw[u]
     rw[Y];have C:0<P.cellsOf e:=Nat.le_of_ble_eq_true z.2.1;have hlen:=argT_len z.1;rcases DataW.trod_slice u h with⟨rfl,_⟩ |⟨a,len,cap,elems,rest,m,O,rfl,_,hb,U,hcm,W,V,_,_⟩
     . exact⟨_,one _ (.list (shapeP P n e).1 (shapeP P n e).2 []) _ (by simp[kindOk,Kd.beqs_refl]) (.listE _ _ none 0) (by simp[PV.wf,PV.wfs])⟩
     . cases O;have I:∀ i,i<len->∃(B:List PV) (N:List Value),w.cells? base (a.add (i*P.cellsOf e)) (P.cellsOf e)=some N/\ArgR w M (shapeP P n e).2 N B:=by grind[Option.bind_eq_some_iff]
       by_cases h0:len=0
       . subst h0;exact⟨_,one _ (.list (shapeP P n e).1 (shapeP P n e).2 []) _ (by simp[kindOk,Kd.beqs_refl]) (.listE _ _ (some a) cap) (by simp[PV.wf,PV.wfs])⟩
       . have hspot:a.spot=none:=by
           obtain⟨B,N,G,_⟩:=I 0 (by omega);obtain⟨_,F⟩:=cells?_get G;obtain⟨v,_,h4⟩:=F 0 C;simp only[Nat.zero_mul]at h4;have e0:a.add 0=a:=by simp[Addr.add]
           rw[e0]at h4;exact spot_of_cells h4 C rfl
         have Z:∀ i j,(a.add (i*P.cellsOf e)).add j=⟨a.block,a.off+i*P.cellsOf e+j,none⟩:=by intro i j;obtain⟨ab,ao,as⟩:=a;grind[Addr.add]
         have hex:∃(f:Nat->List PV) (g:Nat->List Value),∀ i,i<len->w.cells? base (a.add (i*P.cellsOf e)) (P.cellsOf e)=some (g i)/\ArgR w M (shapeP P n e).2 (g i) (f i):=
          ⟨λi=>if h:i<len then(I i h).choose else [],λi=>if h:i<len then(I i h).choose_spec.choose else [],λi D=>by grind⟩
         obtain⟨f,g,E⟩:=hex;have X:a.block<w.heap.size:=by obtain⟨G,_⟩:=E 0 (by omega);obtain⟨_,F⟩:=cells?_get G;obtain⟨v,_,h4⟩:=F 0 C;rw[Z]at h4;grind[World.cell?]
         have A:∀(i:Nat) (x:PV),((List.range len).map λi=>elemPV (shapeP P n e).1 (f i))[i]?=some x->i<len/\x=elemPV (shapeP P n e).1 (f i):=by grind
         refine⟨[.list (shapeP P n e).1 (shapeP P n e).2 ((List.range len).map λi=>elemPV (shapeP P n e).1 (f i))],one _ _ _ (by simp[kindOk,Kd.beqs_refl]) ?_ ?_⟩
         . have:=VR.list (w:=w) (M:=M) (shapeP P n e).1 (shapeP P n e).2 ((List.range len).map λi=>elemPV (shapeP P n e).1 (f i)) a.block a.off cap (λi j=>(g i).getD j undef) (hM _ X) (by simpa using U)
             (λi x j c K hj=>by obtain⟨D,rfl⟩:=A i x K;obtain⟨G,F⟩:=E i D;rw[(arg_elem_ok z.1 F).2.1]at hj;obtain⟨hl,h4⟩:=cells?_get G;grind[F.2.1])
             (λi x j c K hj=>by obtain⟨D,rfl⟩:=A i x K;obtain⟨G,F⟩:=E i D;rw[(arg_elem_ok z.1 F).2.1]at hj;exact F.2.2.1 j c hj)
             (λx K=>by obtain⟨i,D⟩:=List.mem_iff_getElem?.1 K;obtain⟨L,rfl⟩:=A i x D;exact(arg_elem_ok z.1 (E i L).2).1)
           have ea:a=⟨a.block,a.off,none⟩:=by cases a;simp at hspot;simp[hspot]
           grind
         . refine⟨by simpa using Nat.le_trans U hcm,wfs_mem.2 λx K=>?_⟩;obtain⟨i,D⟩:=List.mem_iff_getElem?.1 K;obtain⟨L,rfl⟩:=A i x D;exact(arg_elem_ok z.1 (E i L).2).2.2
   . -- a struct
     rename_i fs u;simp only[qBa]at z;have Y:(shapeP P (n+1) t).2=fs.toList.flatMap λf=>(shapeP P n f.type).2:=by (conv=>lhs;unfold shapeP);rw[u]
     rw[Y];obtain⟨xs,m,O,_,hl,hxl,V⟩:=DataW.trod_struct u h;cases O;have J:=Nat.eq_of_beq_eq_true z.2
     have R:∀(l:List Field) (o:Nat),argT.go P n o l=true->(∀ f∈l,∃ y,DataW.trod enc P w base sp held d f.type ((cs.drop f.offset).take (P.cellsOf f.type))=some y)->o+argT.sum P l=cs.length ->
         ∃ B,ArgR w M (l.flatMap λf=>(shapeP P n f.type).2) (cs.drop o) B:=by
       intro l;induction l with
       | nil =>intro o _ _ ho;simp only[argT.sum,Nat.add_zero]at ho;refine⟨[],rfl,?_,λi p h=>by simp at h,trivial⟩;simp[ho]
       | cons f r ihl =>intro o hg O ho;simp only[argT.go,qBa,beq_iff_eq]at hg;obtain⟨S,hf,hr⟩:=hg;obtain⟨y,hy⟩:=O f (by simp);rw[S]at hy;obtain⟨p1,Q⟩:=ih n f.type _ y hy hf;simp only[argT.sum]at ho;obtain⟨p2,G⟩:=ihl (o+P.cellsOf f.type) hr (λg hg=>O g (by simp[hg])) (by omega);refine⟨p1++p2,?_⟩;have:=Q.append G;grind[List.drop_drop,List.take_append_drop]
     obtain⟨B,hps⟩:=R fs.toList 0 z.1 (λf hf=>by obtain⟨i,D⟩:=List.mem_iff_getElem?.1 hf;grind) (by rw[qNz,hl,J]);grind
   . -- an array
     rename_i m e u;simp only[qBa]at z;have Y:(shapeP P (n+1) t).2=(List.replicate m (shapeP P n e).2).flatten:=by (conv=>lhs;unfold shapeP);rw[u]
     rw[Y];have h':(if cs.length=P.cellsOf t then((List.range m).mapM λi=>DataW.trod enc P w base sp held d e ((cs.drop (i*P.cellsOf e)).take (P.cellsOf e))).map λxs=>((.agg (xs.map (·.1)):DataW H),xs.flatMap (·.2))else none)=some x:=by rw[<- h,DataW.trod_step];simp_all[DataW.trodStep]
     clear h;split at h'
     . rename_i hl;simp only[Option.map_eq_some_iff]at h';obtain⟨xs,A,rfl⟩:=h';have J:=Nat.eq_of_beq_eq_true z.2;have W:∀ i,i<m->∃ B,ArgR w M (shapeP P n e).2 ((cs.drop (i*P.cellsOf e)).take (P.cellsOf e)) B:=by intro i D;have Q:=mapM_some_get A i i (by simp[D]);have hl:=mapM_some_length A;grind
       have R:∀(k:Nat),k<=m->∃ B,ArgR w M (List.replicate k (shapeP P n e).2).flatten (cs.drop ((m-k)*P.cellsOf e)) B:=by
        intro k;induction k with
        | zero =>intro _;refine⟨[],rfl,?_,λi p h=>by simp at h,trivial⟩;grind
        | succ k ihk =>
         intro hk;obtain⟨p2,G⟩:=ihk (by omega);obtain⟨p1,Q⟩:=W (m-(k+1)) (by omega);refine⟨p1++p2,?_⟩;have:=Q.append G;rw[List.replicate_succ,List.flatten_cons];have e1:m-k=m-(k+1)+1:=by omega
         rw[e1,Nat.add_mul,Nat.one_mul,<- List.drop_drop,List.take_append_drop]at this;exact this
       grind
     . cases h'
   . cases z
theorem sameAt_of{w w':World}(c:∀ b,b<w.heap.size->w'.heap[b]?=w.heap[b]?){p:MemPlace}(hp:p.block<w.heap.size):w.sameAt w' p:=by
 cases p with
 | cell b off=>simp only[World.sameAt,World.cell?];rw[c b hp]
 | map b=>exact c b hp
theorem trod_spare:∀(c n:Nat) (t:TypeId) (cs:List Value) (x:DataW H × List MemPlace),DataW.trod enc P w base (λ_=>true) held c t cs=some x->argT P n t=true->(∀ p∈x.2,sp p.block=true)->DataW.trod enc P w base sp held c t cs=some x:=by
 intro c;induction c with
 | zero=>intro n t cs x h;simp[DataW.trod]at h
 | succ c O =>
  intro n t cs x h j E;cases n with
  | zero=>simp[argT]at j
  | succ n =>
   unfold argT at j;split at j
   . rename_i k d;obtain⟨m,rfl,rfl,Y⟩:=DataW.trod_int d h;simp_all[DataW.trod_step,DataW.trodStep]
   . rename_i d;obtain⟨b,rfl,rfl⟩:=DataW.trod_bool d h;simp_all[DataW.trod_step,DataW.trodStep]
   . rename_i d;obtain⟨s,rfl,rfl,Y⟩:=DataW.trod_string d h;simp_all[DataW.trod_step,DataW.trodStep]
   . rename_i e d;simp only[qBa]at j;have z:0<P.cellsOf e:=Nat.le_of_ble_eq_true j.2.1;rcases DataW.trod_slice d h with⟨rfl,rfl⟩ |⟨a,len,cap,elems,N,m,F,rfl,rfl,hb,G,K,hel,A,hrest,_⟩
     . simp_all[DataW.trod_step,DataW.trodStep]
     . cases F;obtain⟨Z,hrg⟩:=hrest rfl;rw[DataW.trod_step]at h ⊢;unfold DataW.trodStep at h ⊢;rw[d]at h ⊢;simp only[hb,G,K,and_self,if_true,Option.bind_eq_some_iff,Option.map_eq_some_iff]at h ⊢;obtain⟨V,he,B,hr,hd⟩:=h;have S:∀ y∈V++B,∀ p∈y.2,sp p.block=true:=by grind
       refine⟨V,mapM_carry he λi y R u q=>?_,B,?_,hd⟩
       . grind[Option.bind_eq_some_iff]
       . split
         . refine mapM_carry hr λi y R u q=>?_;grind[Option.bind_eq_some_iff]
         . rename_i D;by_cases Q:B=[]
           . rw[Q]
           . exfalso;refine D (E (.cell a.block a.off) ?_);rw[<- (Prod.mk.inj hd).2];refine List.mem_append.2 (.inl (MemPlace.mem_row.2 ⟨0,?_,by simp⟩));have:0<B.length:=List.length_pos_iff.2 Q;exact Nat.mul_pos (by omega) z
   . rename_i U d;simp only[qBa]at j;obtain⟨xs,m,F,rfl,I,X,A⟩:=DataW.trod_struct d h;cases F;have h':(if cs.length=P.cellsOf t then(U.toList.mapM λf=>DataW.trod enc P w base (λ_=>true) held c f.type ((cs.drop f.offset).take (P.cellsOf f.type))).map λxs=>((.agg (xs.map (·.1)):DataW H),xs.flatMap (·.2))else none)=some (.agg (xs.map (·.1)),xs.flatMap (·.2)):=by rw[<- h,DataW.trod_step];unfold DataW.trodStep;rw[d]
     rw[DataW.trod_step];unfold DataW.trodStep;rw[d];show(if cs.length=P.cellsOf t then(U.toList.mapM λf=>DataW.trod enc P w base sp held c f.type ((cs.drop f.offset).take (P.cellsOf f.type))).map λxs=>((.agg (xs.map (·.1)):DataW H),xs.flatMap (·.2))else none)=_;rw[if_pos I]at h' ⊢;simp only[Option.map_eq_some_iff]at h' ⊢;obtain⟨ys,u,hd⟩:=h';have J:∀(l:List Field) (o:Nat),argT.go P n o l=true->∀ f∈l,argT P n f.type=true:=by
      intro l;induction l with
      | nil=>intro o _ f q;simp at q
      | cons g r W =>intro o hg f q;simp only[argT.go,qBa]at hg;grind
     refine⟨ys,mapM_carry u λf y q C L=>O n f.type _ y L (J _ _ j.1 f q) λp hp=>E p ?_,hd⟩;grind
   . rename_i m e d;simp only[qBa]at j;have h':(if cs.length=P.cellsOf t then((List.range m).mapM λi=>DataW.trod enc P w base (λ_=>true) held c e ((cs.drop (i*P.cellsOf e)).take (P.cellsOf e))).map λxs=>((.agg (xs.map (·.1)):DataW H),xs.flatMap (·.2))else none)=some x:=by simp_all[DataW.trod_step,DataW.trodStep]
     rw[DataW.trod_step];unfold DataW.trodStep;rw[d];show(if cs.length=P.cellsOf t then((List.range m).mapM λi=>DataW.trod enc P w base sp held c e ((cs.drop (i*P.cellsOf e)).take (P.cellsOf e))).map λxs=>((.agg (xs.map (·.1)):DataW H),xs.flatMap (·.2))else none)=_;split at h'
     . rename_i I;rw[if_pos I];simp only[Option.map_eq_some_iff]at h' ⊢;obtain⟨ys,u,hd⟩:=h';refine⟨ys,mapM_carry u λi y R C L=>O n e _ y L j.1 λp hp=>E p ?_,hd⟩;grind
     . cases h'
   . cases j
inductive ArgsR (P:Program) (w:World) (M:Nat->Prop):List TypeId->List Value->List PV->Prop
 | nil:ArgsR P w M [] [] []
 | cons (t:TypeId) (ts:List TypeId) (v:Value) (vs:List Value) (x:PV) (xs:List PV) (h1:VR w M x v) (h2:shapeOk (shapeP P 8 t).1 (shapeP P 8 t).2 x=true) (h3:x.wf) (h:ArgsR P w M ts vs xs):ArgsR P w M (t::ts) (v::vs) (x::xs)
theorem arg_read(K:∀ b,b<w.heap.size->M b){d:DataW H}{D:List MemPlace}(r:argT P 8 t=true)(l:Value.okWide P w .any b0 t v)(h:DataW.Trod enc P w base sp held t v d D) :
    ∃ x,VR w M x v/\shapeOk (shapeP P 8 t).1 (shapeP P 8 t).2 x=true/\x.wf:=by
  obtain⟨o,h⟩:=h;obtain⟨z,g⟩:=trod_pure K o 8 t _ _ h r;obtain⟨O,R,N⟩:=arg_elem_ok r g;refine⟨_,?_,O,N⟩;cases E:(shapeP P 8 t).1 with
  | true =>
   have B:(∃ L,P.underlying t=some (.struct L))\/∃ m e,P.underlying t=some (.array m e):=by grind[shapeP]
   have s:∃ cs,v=.agg cs:=by grind[Value.okWide]
   obtain⟨cs,rfl⟩:=s;have y:(Value.agg cs).cells.toList=cs.toList:=rfl;rw[y]at g;refine .agg z cs (by simpa using g.2.1.symm) (λc y=>?_) λi c J=>?_
   . obtain⟨j,A⟩:=List.mem_iff_getElem?.1 y;have k:=kindsOk_get g.1;have u:j<(shapeP P 8 t).2.length:=by rw[k.1];exact(qLa.1 A).1
     exact kindOk_leaf (k.2 j _ c (qLd u) A)
   . have:=g.2.2.1 i c J;simp_all
  | false =>
   have C:=shapeP_one r E;have k:=kindsOk_get g.1
   match z,g,k with
   |[q],g,k =>
    have Q:q.leaf=true:=by refine kindOk_leaf (k.2 0 ((shapeP P 8 t).2[0]'(by omega)) q (by simp) rfl)
    have s:v.cells.toList=[v]:=by
     have I:=g.2.1;cases v<;>first | rfl | skip
     rename_i cs;exfalso;unfold Value.okWide at l;split at l
     . grind[shapeP]
     . grind[shapeP]
     . rename_i F G;unfold argT at r;simp_all[Value.cells,Cell.okWide,Cell.ok]
    rw[s]at g;simpa[elemPV] using g.2.2.1 0 q rfl
   |[],g,k=>have:=k.1;rw[C]at this;simp at this
   | _::_::_,g,k=>have:=k.1;rw[C]at this;simp at this
theorem trodAll_later{w':World}(k:∀ b,b<w.heap.size->w'.heap[b]?=w.heap[b]?):∀{ts:List TypeId} {vs:List Value} {ds:List (DataW H)} {i:List MemPlace},DataW.TrodAll enc P w base (λ_=>true) held ts vs ds i->(∀ t∈ts,argT P 8 t=true) ->
    DataW.TrodAll enc P w' base (λb=>decide (b<w.heap.size)) held ts vs ds i
  |[],[],[],i,h,_=>h
  | t::ts,v::vs,d::ds,i,⟨p,q,j,h2,e⟩,ha=>by refine⟨p,q,?_,trodAll_later k h2 (λu l=>ha u (by simp[l])),e⟩;obtain⟨c,j⟩:=j;have g:=DataW.trod_lt _ _ _ _ j;exact⟨c,trod_spare c 8 t _ _ (DataW.trod_carry c t _ _ j λp hp=>sameAt_of k (g p hp)) (ha t (by simp)) λp hp=>by simpa using g p hp⟩
theorem args_read{b0:Nat}(k:∀ b,b<w.heap.size->M b):∀{ts:List TypeId} {vs:List Value} {ds:List (DataW H)} {c:List MemPlace},DataW.TrodAll enc P w base sp held ts vs ds c->(∀ t∈ts,argT P 8 t=true)->(∀(j:Nat) t v,ts[j]?=some t->vs[j]?=some v->Value.okWide P w .any b0 t v) ->
    ∃ xs,ArgsR P w M ts vs xs
  |[],[],[],c,_,_,_=>⟨[],.nil⟩
  | t::ts,v::vs,d::ds,c,⟨p,q,i,h,e⟩,ha,hv=>by obtain⟨xs,g⟩:=args_read k h (λu l=>ha u (by simp[l])) λj t v i h=>hv (j+1) t v (by simpa using i) (by simpa using h);obtain⟨x,r,o,m⟩:=arg_read k (ha t (by simp)) (hv 0 t v rfl rfl) i;exact⟨x::xs,.cons t ts v vs x xs r o m g⟩
theorem ArgsR.length{ts:List TypeId}{vs:List Value}{xs:List PV}(h:ArgsR P w M ts vs xs):xs.length=vs.length:=by
 induction h with
 | nil=>rfl
 | cons _ _ _ _ _ _ _ _ _ _ b=>simp[b]
theorem ArgsR.get{ts:List TypeId}{vs:List Value}{xs:List PV}(h:ArgsR P w M ts vs xs):∀(i:Nat) (x:PV),xs[i]?=some x->∃ v,vs[i]?=some v/\VR w M x v:=by
 induction h with
 | nil=>intro i x h;simp at h
 | cons t ts v vs x xs e d c h b=>grind
theorem law_calls(ok:TabOk P T){X:Ext}{gl:Option (List (Nat × Obj))}(hX:ExtOk P T gl X)(Z:tlook T.funcs f=some fi){fn:Func}(G:fi.fn=fn){tb:TypeId}(k:fn.resultTypes=#[tb])(hrets:fi.cfg.rets=[])
    (D:P.underlying tb=some .bool){s:ChangeSpec}(hvars:s.vars=[]){W:World}{args:Array Value}{ds R:List (DataW H)}{before:List MemPlace} 
    (r:∀(j:Nat) t v,fn.params[j]?=some t->args[j]?=some v->Value.okWide P W .any b0 t v)(O:DataW.Whole enc P fn.params.toList s.vars false W args.toList ds R before)
    (A:fn.params.toList.all (argT P 8)=true)(E:s.fn H ds={results:=[.lit (.bool true)],args:=ds})
    (F:∀ p∈gl.getD [],p.1<W.heap.size/\W.heap[p.1]?=some p.2)(y:∀ xs,ArgsR P W (λb=>b<W.heap.size) fn.params.toList args.toList xs->run T X f (xs.map .p) []=some ([.p (.bool true)],[])) :
    Calls P f args W λe W'=>∃ v,e=.returned v/\s.post enc P fn false true false false W args v W':=by
  subst G;have K:=O;obtain⟨p,q,hA,Q,N,hz,hn⟩:=O;have l:∀ t∈fi.fn.params.toList,argT P 8 t=true:=λt Y=>List.all_eq_true.1 A t Y;rw[hvars]at Q;cases R with
  | cons g gr=>exact Q.elim
  | nil =>
   obtain⟨xs,m⟩:=args_read (M:=λb=>b<W.heap.size) (λ_ h=>h) hA l (base:=0) (λj t v C B=>by exact r j t v (by simpa using C) (by simpa using B));have u:=(run_sound ok hX).plain f fi (xs.map .p) [] _ [] Z (by simp) (y xs m);have z:CallPre W (λb=>b<W.heap.size) (λ_=>none) (xs.map .p) [] args:=by refine⟨by simp[m.length],λi v d=>?_,λi b0 d=>by simp at d,λi b o d=>by simp at d,λi j b o o' d=>by simp at d,λb J=>J⟩;simp only[List.getElem?_map,Option.map_eq_some_iff]at d;obtain⟨x,U,rfl⟩:=d;obtain⟨v,C,B⟩:=m.get i x U;rw[qAb,<- Array.getElem?_toList,C];exact .p _ _ B
   refine Calls.mono (u.2 W _ _ args F z) λe W' hpost=>?_;obtain⟨cs,ps,M',rfl,post⟩:=hpost;have hkeep:∀ b,b<W.heap.size->W'.heap[b]?=W.heap[b]?:=λb J=>post.keep b J λi o d=>by simp at d
   have L:=post.res;rw[k,hrets]at L;have I:cs=[.bool true]:=by
    cases L with
    | cons _ _ _ _ _ c cs' p S C B _ =>
     cases B;cases C with
     | deep _ x _ _ V=>cases V;rfl
   subst I;refine⟨.bool true,rfl,ds,[],before,[],p,[],K,?_,?_,?_,?_,λh=>by cases h⟩
   . rw[List.append_nil,E,k];exact⟨[],[],⟨1,by simp[DataW.trod,Value.cells,D]⟩,rfl,rfl⟩
   . rw[List.append_nil,E];exact trodAll_later hkeep hA l
   . rw[List.append_nil,E,hvars];rfl
   . refine⟨post.os,post.output,λi d=>?_⟩;grind
end
def TypesOk(P:Program):List (Nat × TI)->Prop
 |[]=>True
 |(t,i)::r=>mkTI P t=some i/\TypesOk P r
structure FuncOk (P:Program) (T:Tab) (f:Nat) (fi:FI):Prop where
 fn:P.funcs[f]?=some fi.fn
 name : (fi.fn.name == "runtime.NumGoroutine") = false
 draws:(match fi.fn.body with | some c=>drawsOk T fi.hides c | none=>true)=true
 flat:(fi.cfg.byRef||(fi.cfg.shares||retsFlat T fi.cfg.rets fi.fn.resultTypes.toList))=true
 nvars:Nat.ble fi.cfg.nvars 100000=true
def Vs (T : Tab) (fi : FI) : Bool := !(fi.fn.name == "runtime.NumGoroutine") && ((match fi.fn.body with | some c => drawsOk T fi.hides c | none => true) && ((fi.cfg.byRef || (fi.cfg.shares || retsFlat T fi.cfg.rets fi.fn.resultTypes.toList)) && Nat.ble fi.cfg.nvars 100000))
theorem FuncOk.of(h:P.funcs[f]?=some fi.fn)(q:Vs T fi=true):FuncOk P T f fi:=by simp only[Vs,qBa,qBb]at q;exact⟨h,q.1,q.2.1,q.2.2.1,q.2.2.2⟩
def FuncsOk(P:Program)(T:Tab):List (Nat × FI)->Prop
 |[]=>True
 |(f,i)::r=>FuncOk P T f i/\FuncsOk P T r
theorem typesOk_get{P:Program}:∀{l:List (Nat × TI)} {t:Nat} {i:TI},TypesOk P l->tlook l t=some i->mkTI P t=some i
 |[],t,i,_,h=>by simp[tlook]at h
 |(k,x)::r,t,i,hk,h=>by
  simp only[tlook]at h;cases b:k==t with
  | true =>
   rw[b]at h;have e:k=t:=by simpa using b
   subst e;cases h;exact hk.1
  | false=>rw[b]at h;exact typesOk_get hk.2 h
theorem funcsOk_get{P:Program}{T:Tab}:∀{l:List (Nat × FI)} {f:Nat} {i:FI},FuncsOk P T l->tlook l f=some i->FuncOk P T f i
 |[],f,i,_,h=>by simp[tlook]at h
 |(k,x)::r,f,i,hk,h=>by
  simp only[tlook]at h;cases b:k==f with
  | true =>
   rw[b]at h;have e:k=f:=by simpa using b
   subst e;cases h;exact hk.1
  | false=>rw[b]at h;exact funcsOk_get hk.2 h
def PrimsOk(P:Program)(T:Tab):Prop:=∀ f fi,tlook T.funcs f=some fi->PrimC P f fi.cfg.prim
theorem tabOk_of(e:TypesOk P T.types)(b:FuncsOk P T T.funcs)(d:P.follows .mixedOrders=true)(h4:PrimsOk P T):TabOk P T:=by
 refine⟨λt i h=>typesOk_get e h,λf fi h=>?_,d,λf fi h=>Nat.le_of_ble_eq_true (funcsOk_get b h).nvars,h4⟩;have g:=funcsOk_get b h;refine⟨g.fn,g.name,λc hc=>?_,λk j=>?_⟩
 . have:=g.draws;grind
 . have:=g.flat
   grind
end
section
variable {α:Type}
theorem wrap_eq{x:Int}(d:-9223372036854775808<=x)(c:x<=9223372036854775807):IntKind.i64.wrap x=x:=by
 have:∀ y:Int,y=x%2^64->(if(true&&decide (y >= 2^(64-1)))=true then y-2^64 else y)=x:=by
  intro y b;by_cases h:y >= 2^(64-1)
  . rw[if_pos (by simpa using h)];omega
  . rw[if_neg (by simpa using h)];omega
 exact this _ rfl
theorem condD(p:Prop)[Decidable p](a b:α):cond (decide p) a b=if p then a else b:=by by_cases h:p<;>simp[h]
theorem condE(x y:Int)(a b:α):cond (x==y) a b=if x=y then a else b:=by
 by_cases h:x=y
 . simp[h]
 . have:(x==y)=false:=by simpa using h
   simp[h,this]
theorem condA(p q:Bool)(a b:α):cond (p&&q) a b=cond p (cond q a b) b:=by cases p<;>rfl
@[simp] theorem toInt_int(k:IntKind)(n:Int):(PV.int k n).toInt=n:=rfl
@[simp] theorem toBool_bool(b:Bool):(PV.bool b).toBool=b:=rfl
@[simp] theorem toStr_str(s:ByteArray):(PV.str s).toStr=s:=rfl
@[simp] theorem toList_list(a:Bool)(ks:List Kd)(xs:List PV):(PV.list a ks xs).toList=xs:=rfl
@[simp] theorem pv_p(v:PV):(AV.p v).pv=v:=rfl
@[simp] theorem freshList_fresh(a:Bool)(ks:List Kd)(xs:List PV):(AV.fresh a ks xs).freshList=xs:=rfl
@[simp] theorem sOff_slice(s z o l:Nat):(AV.slice s z o l).sOff=o:=rfl
@[simp] theorem sLen_slice(s z o l:Nat):(AV.slice s z o l).sLen=l:=rfl
@[simp] theorem xs_arr(a:Bool)(ks:List Kd)(xs:List PV):(Blk.arr a ks xs).xs=xs:=rfl
@[simp] theorem cell_agg(cs:List PV)(j:Nat):(PV.agg cs).cell j=cs.getD j .nil:=rfl
@[simp] theorem cell_list(a:Bool)(ks:List Kd)(xs:List PV)(j:Nat):(PV.list a ks xs).cell j=.list a ks xs:=rfl
@[simp] theorem cell_int(k:IntKind)(n:Int)(j:Nat):(PV.int k n).cell j=.int k n:=rfl
structure V3 where
 x:Int
 y:Int
 z:Int
 deriving DecidableEq
namespace V3
instance:Inhabited V3:=⟨⟨0,0,0⟩⟩
end V3
abbrev kV:List Kd:=[.int .i64,.int .i64,.int .i64]
def encV(v:V3):PV:=.agg [.int .i64 v.x,.int .i64 v.y,.int .i64 v.z]
def encL(l:List V3):List PV:=l.map encV
def encI(l:List Int):List PV:=l.map λn=>.int .i64 n
@[simp] theorem encL_length(l:List V3):(encL l).length=l.length:=by simp[encL]
@[simp] theorem encI_length(l:List Int):(encI l).length=l.length:=by simp[encI]
@[simp] theorem encL_nil:encL []=[]:=rfl
theorem encL_get(l:List V3)(i:Nat):(encL l)[i]?=(l[i]?).map encV:=by simp[encL]
theorem encL_getD(l:List V3){i:Nat}(h:i<l.length):(encL l).getD i .nil=encV (l.getD i default):=by rw[qLb,qLb,encL_get];simp[h]
@[simp] theorem encL_x(l:List V3)(i:Nat):(((encL l).getD i .nil).cell 0).toInt=(l.getD i default).x:=by
 by_cases h:i<l.length
 . rw[encL_getD l h];rfl
 . have c:(encL l).getD i .nil=.nil:=by rw[qLb,encL_get];simp[h]
   have b:l.getD i default=default:=by rw[qLb];simp[h]
   rw[c,b];rfl
@[simp] theorem encL_y(l:List V3)(i:Nat):(((encL l).getD i .nil).cell 1).toInt=(l.getD i default).y:=by
 by_cases h:i<l.length
 . rw[encL_getD l h];rfl
 . have c:(encL l).getD i .nil=.nil:=by rw[qLb,encL_get];simp[h]
   have b:l.getD i default=default:=by rw[qLb];simp[h]
   rw[c,b];rfl
@[simp] theorem encL_z(l:List V3)(i:Nat):(((encL l).getD i .nil).cell 2).toInt=(l.getD i default).z:=by
 by_cases h:i<l.length
 . rw[encL_getD l h];rfl
 . have c:(encL l).getD i .nil=.nil:=by rw[qLb,encL_get];simp[h]
   have b:l.getD i default=default:=by rw[qLb];simp[h]
   rw[c,b];rfl
def V3.ok(v:V3):Prop:=(-9223372036854775808<=v.x/\v.x<=9223372036854775807)/\(-9223372036854775808<=v.y/\v.y<=9223372036854775807)/\(-9223372036854775808<=v.z/\v.z<=9223372036854775807)
theorem wf_i64{n:Int}:(PV.int .i64 n).wf↔-9223372036854775808<=n/\n<=9223372036854775807:=by simp[PV.wf,Lit.wf,IntKind.min,IntKind.max,IntKind.bits,IntKind.signed]
theorem vec_of{x:PV}(h:shapeOk true kV x=true)(d:x.wf):∃ v:V3,x=encV v/\v.ok:=by
 cases x<;>simp only[shapeOk,Bool.false_eq_true]at h;rename_i cs
 match cs,h,d with
 |[a,b,c],h,d =>simp only[kindsOk,Bool.and_true,qBa]at h;obtain⟨i,g,e⟩:=h;cases a<;>simp[kindOk]at i;cases b<;>simp[kindOk]at g;cases c<;>simp[kindOk]at e;subst i g e;rename_i p q r;simp only[PV.wf,PV.wfs,and_true]at d;exact⟨⟨p,q,r⟩,rfl,wf_i64.1 d.1,wf_i64.1 d.2.1,wf_i64.1 d.2.2⟩
 |[],h,_=>simp[kindsOk]at h
 |[_],h,_=>simp[kindsOk]at h
 |[_,_],h,_=>simp[kindsOk]at h
 | _::_::_::_::_,h,_=>simp[kindsOk]at h
theorem vecs_of:∀{xs:List PV},(∀ x∈xs,shapeOk true kV x=true)->PV.wfs xs->∃ l:List V3,xs=encL l/\∀ v∈l,v.ok
 |[],_,_=>⟨[],rfl,by simp⟩
 | x::xs,h,hw=>by
  obtain⟨v,rfl,e⟩:=vec_of (h x (by simp)) hw.1;obtain⟨l,rfl,d⟩:=vecs_of (λy c=>h y (by simp[c])) hw.2;exact⟨v::l,rfl,λu b=>by 
   rcases List.mem_cons.1 b with rfl | b
   . exact e
   . exact d u b⟩
section
variable {P:Program} {w:World} {M:Nat->Prop}
theorem ArgsR.one{t:TypeId}{ts:List TypeId}{vs:List Value}{xs:List PV}(h:ArgsR P w M (t::ts) vs xs):∃ x ys v b,xs=x::ys/\vs=v::b/\VR w M x v/\shapeOk (shapeP P 8 t).1 (shapeP P 8 t).2 x=true/\x.wf/\ArgsR P w M ts b ys:=by
 cases h with
 | cons _ _ v vs x xs e d c h=>exact⟨x,xs,v,vs,rfl,rfl,e,d,c,h⟩
theorem ArgsR.none{vs:List Value}{xs:List PV}(h:ArgsR P w M [] vs xs):xs=[]:=by cases h;rfl
theorem Og{x:PV}{_v:Value}{t:TypeId}(c:shapeP P 8 t=(true,kV))(b:shapeOk (shapeP P 8 t).1 (shapeP P 8 t).2 x=true)(d:x.wf):∃ u:V3,x=encV u/\u.ok:=by rw[c]at b;exact vec_of b d
end
end
section
variable {p:Prop}
theorem ba_eq{a b:ByteArray}:a=b↔a.data.toList=b.data.toList:=by
 constructor
 . grind
 . intro h;cases a with | mk a=>cases b with | mk b =>simp only at h;rw[show a=b from by rw[<- Array.toArray_toList (xs:=a),h,Array.toArray_toList]]
theorem ba_beq(a b:ByteArray):(a.toList==b.toList)=decide (a=b):=by
 rw[ByteArray.toList_eq,ByteArray.toList_eq];by_cases h:a=b
 . subst h;simp
 . have:a.data.toList≠b.data.toList:=λe=>h (ba_eq.2 e);grind
def ba(l:List UInt8):ByteArray:=⟨l.toArray⟩
@[simp] theorem ba_data(l:List UInt8):(ba l).data.toList=l:=rfl
section
variable {α β γ:Type}
theorem condP{i:Decidable p}{a b x:α}(h:p)(c:a=x):cond (@decide p i) a b=x:=by rw[decide_eq_true h];exact c
theorem condNP{i:Decidable p}{a b x:α}(h:¬ p)(c:b=x):cond (@decide p i) a b=x:=by rw[decide_eq_false h];exact c
end
end
end Go.Skm
