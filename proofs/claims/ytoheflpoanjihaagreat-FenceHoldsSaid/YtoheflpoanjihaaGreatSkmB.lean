import Derived.Test.YtoheflpoanjihaaGreatSkmA
import Derived.Laws.BytesArg
set_option linter.all false
namespace Go.Skm
section
variable {t:TypeId}{b n o:Nat}{x:AV}{c:Value}{f:Nat->Value}
section
variable {P:Program} {T:Tab} {w:World} {M:Nat->Prop} {β:Nat->Option (Nat × Nat)} {h:Nat->Option bZ}
theorem aaN(ok:fB P T){h':Nat->Option bZ}(r:∀ s b,h' s=some b->h s=some b){e:TypeId}{lo L J:Option AV}{B D g:Option Value}
    (E:und T t=some (.array n e))(U:AR w M β h x c)(G:WV w M β h lo B)(H:WV w M β h L D)(F:WV w M β h J g) :
    aJ P w M β h (Iu T h' n e x lo L J) (Instr.sliceAt t c B D g):=by
  have E:=ok.und E;unfold Iu;split
  . rename_i s off V;obtain⟨j,X,W⟩:=ok.size V;have:g=none:=by cases g with | none=>rfl | some v=>exact F.elim
    subst this;split
    . rename_i cs p;have p:=r _ _ p;split
      . rename_i l u e1 Z;refine aJ.chk λK=>aJ.chk λN=>?_;have K:=Nat.le_of_ble_eq_true K;simp only[qBa,qDa]at N;obtain⟨R,Q,O⟩:=N;have Y:(u-l).toNat=u.toNat-l.toNat:=by omega
        rw[Y];have S:=N8 (P:=P) false (len:=n) (cap:=n) G H e1 Z R Q O (qNr _);cases U with
        | ptrB _ _ cs' b o q I =>
         rw[p]at q;cases q;refine aJ.ret (c:=.slice (if n=l.toNat then some ⟨b,o+off,none⟩else some ((⟨b,o+off,none⟩:Addr).add (l.toNat*1))) (u.toNat-l.toNat) (n-l.toNat)) ?_ ?_
         . by_cases z:n=l.toNat
           . rw[if_pos z,show u.toNat-l.toNat=0 from by omega,show n-l.toNat=0 from by omega];exact .bsliceE s _ cs _ p (by omega)
           . rw[if_neg z,addr_add,Nat.mul_one];have:=AR.bslice (w:=w) (M:=M) (β:=β) (h:=h) s (off+l.toNat) (u.toNat-l.toNat) cs b o (n-l.toNat) p (by omega) I (by omega);grind
         . have:(Instr.sureAddr (.pointer (some ⟨b,o+off,none⟩))).run P w=.ok ⟨b,o+off,none⟩ w:=rfl;simp only[Instr.sliceAt,Sem.run_bind,eP E,qRa,this,S,jm X,W,Sem.run_pure];grind
        | ptrA _ _ _ a ks xs b o q I p3=>rw[p]at q;cases q
      . exact aJ.fail
    . exact aJ.fail
  . exact aJ.fail
theorem ahA(ok:fB P T){i:AV}{d:Value}(z:AR w M β h x c)(r:AR w M β h i d):aJ P w M β h (Rk T t x i) (Instr.index t c d):=by
 unfold Rk;split
 . rename_i k n;rw[r.Ef];split
   . rename_i s q;have q:=ok.und q;rw[z.WL];refine aJ.chk λl=>?_;simp only[qBa,qDa]at l;have B:n.toNat<s.size:=by omega
     refine aJ.ret (.int _ _) ?_;have D:(if 0<=n then s[n.toNat]? else none)=some s[n.toNat]:=by grind
     have X:s.data.getD n.toNat 0=s[n.toNat]:=by have:n.toNat<s.data.size:=B;unfold Array.getD;rw[dif_pos this];rfl
     simp only[Instr.index,asIntOf,Sem.run_bind,Sem.run_pure,qRa,eP q,D,X]
   . rename_i m e cs q;have q:=ok.und q;split
     . rename_i kd V g;refine aJ.chk λD=>aJ.chk λl=>?_;simp only[qBa,qDa]at l D;obtain⟨⟨a1,R⟩,Z⟩:=D;have R:=Nat.eq_of_beq_eq_true R;cases z with
       | p _ _ z=>cases z with
       | agg _ vs O Q I =>
        have B:n.toNat<cs.length:=by omega
        have u:cs[n.toNat]?=some (cs.getD n.toNat .nil):=by simp[B]
        have W:kindOk kd (cs.getD n.toNat .nil)=true:=(List.all_eq_true.1 a1) _ (qLe u);refine aJ.ret (.p _ _ (IB W (I _ _ u))) ?_;obtain⟨j,L,E⟩:=ok.size g;obtain⟨dd,G⟩:=ok.ahw g;have J:EF P e=false:=by rw[<- ok.agg g];simpa using Z
        have K:vs[n.toNat]?=some (vs.getD n.toNat undef):=getD_some (by omega);simp only[Instr.index,asIntOf,Sem.run_bind,Sem.run_pure,qRa,eP q];rw[if_pos ⟨l.1,l.2⟩];simp only[Sem.run_bind,jm L,E,qRa,Nat.mul_one,part,qF G,J,Bool.false_eq_true,if_false,K,Sem.run_pure]
     . rename_i m' g _;refine aJ.chk λD=>aJ.chk λl=>?_;simp only[qBa,qDa]at l D;cases z with
       | p _ _ z=>cases z with
       | agg _ vs O Q I =>
        refine IE (λj hj=>?_) _ _;have F:j<m:=by omega
        obtain⟨v,N⟩:=Option.isSome_iff_exists.1 ((List.all_eq_true.1 D.2) j (by simp[F]));obtain⟨L,E,S⟩:=ok.size g;obtain⟨c,Y,g2⟩:=WQ (w:=w) (M:=M) (β:=β) (h:=h) ok g N (by simpa using O) (λc H=>by
         obtain⟨y,U,rfl⟩:=List.mem_map.1 H;exact Q y U) (λi c r=>by
         rw[List.getElem?_map]at r;cases hp:cs[i]? with
         | none=>rw[hp]at r;cases r
         | some y =>rw[hp]at r;simp only[Option.map_some,qOa]at r;subst r;exact .p _ _ (I i y hp)) (ok.ahw g)
        rw[N];refine aJ.ret Y ?_;simp only[Instr.index,asIntOf,Sem.run_bind,Sem.run_pure,qRa,eP q];rw[if_pos ⟨l.1,l.2⟩];simp only[Sem.run_bind,jm E,S,qRa];grind
     . exact aJ.fail
   . exact aJ.fail
 . exact aJ.fail
theorem yu(l:∀ j,j<n->w.cell? ⟨b,o+j,none⟩=some (f j)):(loadCells ⟨b,o,none⟩ n).run P w=.ok (Array.ofFn λ(i:Fin n)=>f i) w:=by
 have:=run_loadCells w (P:=P) ⟨b,o,none⟩ n f (λj g=>by rw[addr_add];exact l j g);rw[this];congr 1;apply Array.ext
 . simp
 simp
theorem AU:∀(ks:List Kd) (x:PV) (o j:Nat),(kP ks x o)[j]?=(ks[j]?).map λk=>eta k (x.cell (o+j))
 |[],x,o,j=>by simp[kP]
 | k::ks,x,o,0=>by simp[kP]
 | k::ks,x,o,j+1=>by simp[kP,AU ks x (o+1) j,Nat.add_assoc,Nat.add_comm 1 j]
theorem YV(ok:fB P T){a:Bool}{ks:List Kd}{x v:PV}{off:Nat}(I:yG T t=some n)(g:aaA T t n a ks x off=some v)(N:bY a ks x=true)
    (V:∀(j:Nat) (c:PV),x.cells[j]?=some c->w.cell? ⟨b,o+j,none⟩=some (f j))(O:∀(j:Nat) (c:PV),x.cells[j]?=some c->VR w M c (f j)) :
    ∃ c,VR w M v c/\(loadVar t ⟨b,o+off,none⟩).run P w=.ok c w:=by
  obtain⟨i,R,H⟩:=ok.size I;obtain⟨d,hd⟩:=ok.ahw I;unfold aaA at g;cases K:Nat.ble (off+n) ks.length with
  | false=>rw[K]at g;cases g
  | true =>
   have S:=Nat.le_of_ble_eq_true K;rw[K,ok.agg I]at g;simp only[qCt]at g;cases G:EF P t with
   | true =>
    rw[G]at g;simp only[qCt]at g;cases a with
    | false=>cases g
    | true =>
     simp only[qCt,qOa]at g;subst g;have B:(kP ((ks.drop off).take n) x off).length=n:=by
      have:∀(l:List Kd) (y:PV) (o:Nat),(kP l y o).length=l.length:=by
       intro l;induction l with
       | nil=>intros;rfl
       | cons k r Q=>intro y o;simp[kP,Q]
      grind
     have cell:∀ j,j<n->∃ k c,ks[off+j]?=some k/\x.cells[off+j]?=some c/\kindOk k c=true/\x.cell (off+j)=c:=by
      intro j q;have D:ks[off+j]?=some (ks[off+j]'(by omega)):=by simp
      obtain⟨c,z,E,u⟩:=uU N D;grind
     refine⟨.agg (Array.ofFn λ(i:Fin n)=>f (off+i)),.agg _ _ (by simp[B]) ?_ ?_,?_⟩
     . intro c J;obtain⟨j,q⟩:=List.mem_iff_getElem?.1 J;rw[AU]at q;have p:j<n:=by grind
       obtain⟨k,U,z,E,u,L⟩:=cell j p;rw[List.getElem?_take,if_pos p,List.getElem?_drop,z]at q;simp only[Option.map_some,qOa]at q;rw[<- q,L];exact WI u
     . intro j c q;rw[AU]at q;have p:j<n:=by grind
       obtain⟨k,U,z,E,u,L⟩:=cell j p;rw[List.getElem?_take,if_pos p,List.getElem?_drop,z]at q;simp only[Option.map_some,qOa]at q;rw[<- q,L];have:(Array.ofFn λ(i:Fin n)=>f (off+i)).getD j undef=f (off+j):=by simp[p]
       rw[this];exact IB u (O _ _ E)
     . have:=yu (P:=P) (w:=w) (b:=b) (o:=o+off) (n:=n) (f:=λj=>f (off+j)) (λj q=>by grind);simp only[loadVar,Sem.run_bind,qF hd,G,qRa,if_true,jm R,H,this,Sem.run_pure]
   | false =>
    rw[G]at g;simp only[qCf]at g;cases F:Nat.beq n 1 with
    | false=>rw[F]at g;cases g
    | true =>
     have F:=Nat.eq_of_beq_eq_true F;subst F;cases D:ks[off]? with
     | none=>simp at D;omega
     | some k =>
      have:(ks.drop off).head?=some k:=by rw[List.head?_drop];exact D
      rw[this]at g;simp only[show Nat.beq 1 1=true from rfl,qCt,qOa]at g;subst g;obtain⟨c,z,E,u⟩:=uU N D;refine⟨f off,by rw[u];exact IB E (O _ _ z),?_⟩;simp only[loadVar,Sem.run_bind,qF hd,G,qRa,Bool.false_eq_true,if_false];simp_all
end
end
section
variable {t:TypeId}{x:AV}{c:Value}{xs:List AV}
section
variable {P:Program} {T:Tab} {w:World} {M:Nat->Prop} {β:Nat->Option (Nat × Nat)} {h:Nat->Option bZ}
theorem Dc{b i:Nat}{C:Array Value}{e:TypeId}{fr:Nat × Nat}(g:w.heap[b]?=some (.cells C e fr))(l:i<C.size):w.cell? ⟨b,i,none⟩=some (C.getD i undef):=by simp_all[World.cell?]
theorem acQ(ok:fB P T){h':Nat->Option bZ}(B:∀ s b,h' s=some b->h s=some b)(hh:∀ s b,h s=some b->BR w M β h s b) 
    (G:AR w M β h x c):aJ P w M β h (JZ T h' t x) (Instr.loadAt t c):=by
  unfold JZ;split
  . exact aJ.fail
  . rename_i n H;obtain⟨i,hi,J⟩:=ok.size H;obtain⟨d,hd⟩:=ok.ahw H;have l:∀(a:Addr) (v:Value),(loadVar t a).run P w=.ok v w->(Instr.loadAt t (.pointer (some a))).run P w=.ok v w:=by simp[Instr.loadAt,Instr.sureAddr]
    split
    . rename_i s r off;split
      . rename_i cs u;have u:=B _ _ u;cases G with
        | ptrA _ _ _ a ks xs b o z E p3=>rw[u]at z;cases z
        | ptrB _ _ Y b o z E =>
         split
         . rename_i v F;obtain⟨Z,q⟩:=N7 ok H F;cases hh s _ u with
           | box _ b' o' C e fr L W g3 g4 g5 V =>
            rw[E]at L;cases L;have cell:∀ j,j<cs.length->w.cell? ⟨b,o+j,none⟩=some (C.getD (o+j) undef):=λj g=>Dc W (by omega);rcases q with⟨q,rfl⟩ |⟨q,rfl,rfl⟩
            . refine aJ.ret (c:=.agg (Array.ofFn λ(i:Fin n)=>C.getD (o+off+i) undef)) (AR.IW ?_ ?_ ?_) (l _ _ ?_)
              . simp;omega
              . grind
              . simp_all[List.getElem?_take,List.getElem?_drop,Nat.add_assoc,Array.getD]
              . have:=yu (P:=P) (w:=w) (b:=b) (o:=o+off) (n:=n) (f:=λj=>C.getD (o+off+j) undef) (λj g=>by have:=cell (off+j) (by omega);grind);simp only[loadVar,Sem.run_bind,qF hd,q,qRa,if_true,jm hi,J,this,Sem.run_pure]
            . have K:off<cs.length:=by omega
              refine aJ.ret (V off _ (by simp[K])) (l _ _ ?_);simp only[loadVar,Sem.run_bind,qF hd,q,qRa,Bool.false_eq_true,if_false];simp_all
         . exact aJ.fail
      . rename_i a ks xs u;have u:=B _ _ u;cases G with
        | ptrB _ _ Y b o z E=>rw[u]at z;cases z
        | ptrA _ _ _ a' ks' xs' b o z E p3 =>
         rw[u]at z;cases z;split
         . rename_i v F;have D:xs[r]?=some (xs.getD r .nil):=by simp[E]
           cases hh s _ u with
           | lU=>simp at E
           | arr _ _ _ b' o' C e fr L W g3 g4 g5 V =>
            rw[p3]at L;cases L;have hshape:=g5 _ (qLe D);have hlen:=gq hshape
            obtain⟨c,S,R⟩:=YV (P:=P) (w:=w) (M:=M) ok (b:=b) (o:=o+r*ks.length) (f:=λj=>C.getD (o+r*ks.length+j) undef) H F hshape
             (λj c g=>by
               have hj':j<ks.length:=by grind
               have:(r+1)*ks.length<=xs.length*ks.length:=Nat.mul_le_mul_right _ E;rw[Nat.add_mul]at this;exact Dc W (by omega))
             (λj c g=>V _ _ _ _ D g)
            exact aJ.ret (.p _ _ S) (l _ _ R)
         . exact aJ.fail
      . exact aJ.fail
    . rename_i a ks x off;split
      . rename_i v F;cases G with
        | rE _ _ _ _ b o f q1 Q O N =>obtain⟨c,S,R⟩:=YV (P:=P) (w:=w) (M:=M) ok H F Q O N;exact aJ.ret (.p _ _ S) (l _ _ R)
      . exact aJ.fail
    . rename_i cs;split
      . rename_i v F;obtain⟨Z,q⟩:=N7 ok H F;simp only[qLm,qNz]at Z;cases G with
        | p _ _ G=>cases G with
        | ref _ b o f q1 Q O N _ =>
         have cell:∀ j,j<cs.length->w.cell? ⟨b,o+j,none⟩=some (f j):=λj g=>O j _ (qLd g);rcases q with⟨q,rfl⟩ |⟨q,rfl,rfl⟩
         . refine aJ.ret (c:=.agg (Array.ofFn λ(i:Fin n)=>f i)) (AR.IW ?_ ?_ ?_) (l _ _ ?_)
           . simp;omega
           . intro c hc;have:=List.mem_of_mem_drop (List.mem_of_mem_take hc);obtain⟨y,I,rfl⟩:=List.mem_map.1 this;exact Q y I
           . intro j c g;have U:j<n:=by grind
             rw[List.getElem?_take,if_pos U,List.getElem?_drop,qNz,List.getElem?_map]at g;have X:(Array.ofFn λ(i:Fin n)=>f i).getD j undef=f j:=by simp_all
             rw[X];cases I:cs[j]? with
             | none=>rw[I]at g;simp at g
             | some y=>rw[I]at g;simp at g;subst g;exact .p _ _ (N j y I)
           . have:=yu (P:=P) (w:=w) (b:=b) (o:=o) (n:=n) (f:=f) (λj g=>cell j (by omega));simp only[loadVar,Sem.run_bind,qF hd,q,qRa,if_true,jm hi,J,this,Sem.run_pure]
         . have h0:0<cs.length:=by omega
           have hg:cs[0]?=some cs[0]:=qLd h0;have X:(cs.map AV.p).getD 0 .undef=.p cs[0]:=by simp[List.getD,hg]
           refine aJ.ret (c:=f 0) (by rw[X];exact .p _ _ (N 0 _ hg)) (l _ _ ?_);have:=cell 0 h0;simp only[Nat.add_zero]at this;simp only[loadVar,Sem.run_bind,qF hd,q,qRa,Bool.false_eq_true,if_false];simp_all
      . exact aJ.fail
    . exact aJ.fail
theorem al3(ok:fB P T){ts:Array TypeId}{ty:TypeId}(q:ts[0]?=some t)(l:AR w M β h x c) :
    aJ P w M β h (aaC T t x) (Builtin.len_ ts ty #[c]):=by
  unfold aaC;split
  . rename_i s g;rw[l.WL];exact aJ.ret (.int _ _) (by simp[Builtin.len_,q,eP (ok.und g),goInt])
  . rename_i e s z off len g;have g:=ok.und g;cases l with
    | slice=>exact aJ.ret (.int _ _) (by simp[Builtin.len_,q,eP g,goInt])
    | sliceE=>exact aJ.ret (.int _ _) (by simp[Builtin.len_,q,eP g,goInt])
  . rename_i e s off len g;have g:=ok.und g;cases l with
    | bslice=>exact aJ.ret (.int _ _) (by simp[Builtin.len_,q,eP g,goInt])
    | bsliceE=>exact aJ.ret (.int _ _) (by simp[Builtin.len_,q,eP g,goInt])
  . rename_i e a ks xs g;have g:=ok.und g;cases l with
    | p _ _ l=>cases l with
    | list=>exact aJ.ret (.int _ _) (by simp[Builtin.len_,q,eP g,goInt])
    | wW=>exact aJ.ret (.int _ _) (by simp[Builtin.len_,q,eP g,goInt])
  . rename_i e a ks xs g;have g:=ok.und g;cases l with
    | p _ _ l=>cases l with
    | full=>exact aJ.ret (.int _ _) (by simp[Builtin.len_,q,eP g,goInt])
    | SV=>exact aJ.ret (.int _ _) (by simp[Builtin.len_,q,eP g,goInt])
  . rename_i e g;have g:=ok.und g;cases l with
    | p _ _ l=>cases l with
    | nil=>exact aJ.ret (.int _ _) (by simp[Builtin.len_,q,eP g,goInt])
  . rename_i n e g;have g:=ok.und g;refine aJ.ret (.int _ _) ?_;cases c<;>simp[Builtin.len_,q,eP g,goInt]
  . exact aJ.fail
def oW(w:World)(M:Nat->Prop)(β:Nat->Option (Nat × Nat))(h:Nat->Option bZ)(xs:List AV)(cs:List Value):Prop:=
 xs.length=cs.length/\∀(i:Nat) (x:AV) (c:Value),xs[i]?=some x->cs[i]?=some c->AR w M β h x c
theorem oW.cons{cs:List Value}(g:oW w M β h (x::xs) (c::cs)):AR w M β h x c/\oW w M β h xs cs:=
 ⟨g.2 0 x c rfl rfl,by simpa using g.1,λi y d p l=>g.2 (i+1) y d (by simpa using p) (by simpa using l)⟩
theorem acR{g:Value->Value->Sem Value}{f:Int->Int->Int}{j:IntKind}(p:∀ x y,(g (.int j x) (.int j y)).run P w=.ok (.int j (f x y)) w) :
    ∀(xs:List AV) (cs:List Value) (x y:Int),oW w M β h xs cs->acJ f j x xs=some y->(cs.foldlM g (.int j x)).run P w=.ok (.int j y) w
  |[],[],x,y,_,hf=>by simp[acJ]at hf;subst hf;simp
  |[],c::cs,x,y,hl,hf=>by have:=hl.1;simp at this
  | v::r,[],x,y,hl,hf=>by have:=hl.1;simp at this
  | v::r,c::cs,x,y,hl,hf=>by
   obtain⟨u,q⟩:=hl.cons;unfold acJ at hf;split at hf
   . grind
   . rename_i i z B e;cases e;cases l:(i==j)with
     | false=>rw[l]at hf;cases hf
     | true =>
      rw[l]at hf;simp only[qCt]at hf;have:i=j:=by simpa using l
      subst this;rw[u.Ef];simp only[List.foldlM_cons,Sem.run_bind,p,qRa];exact acR p r cs _ y q hf
   . cases hf
theorem WX{f:Int->Int->Int}{g:Value->Value->Sem Value}{q:Sem Value}{cs:Array Value}(l:oW w M β h xs cs.toList)(B:∀ j x y,(g (.int j x) (.int j y)).run P w=.ok (.int j (f x y)) w) :
    aJ P w M β h (Iy f xs) (match cs.toList with
     |[]=>q
     | x::rest=>rest.foldlM g x):=by
  unfold Iy;split
  . rename_i j x r;cases p:cs.toList with
    | nil=>rw[p]at l;have:=l.1;simp at this
    | cons c u =>
     rw[p]at l;obtain⟨E,D⟩:=l.cons;rw[E.Ef];split
     . rename_i y z;exact aJ.ret (.int _ _) (acR (B j) r u x y D z)
     . exact aJ.fail
  . exact aJ.fail
end
end
section
variable {v:AV}{c:Value}{ss:List Nat}{b cap len o off s:Nat}{cs:List AV}{kd:Kd}{vs:List PV}{h':Nat -> Option bZ}{x:PV}
section
variable {P:Program} {T:Tab} {w:World} {M:Nat->Prop} {β:Nat->Option (Nat × Nat)} {h:Nat->Option bZ}
def eG(M:Nat->Prop)(β:Nat->Option (Nat × Nat))(ss:List Nat)(b:Nat):Prop:=M b\/∃ s o,s∈ss/\β s=some (b,o)
theorem VR.plus{v:PV}(g:VR w M v c)(ss:List Nat):VR w (eG M β ss) v c:=g.mono λ_ l=>⟨.inl l,rfl⟩
theorem VR.more{v:PV}{l:List Nat}(g:∀ s∈ss,s∈l)(p:VR w (eG M β ss) v c):VR w (eG M β l) v c:=
 p.mono λ_ q=>⟨q.imp id λ⟨s,o,u,r⟩=>⟨s,o,g s u,r⟩,rfl⟩
theorem ajV{a:Bool}{ks:List Kd}{xs:List PV}(H:BR w M β h s (.arr a ks xs))(B:β s=some (b,o))(E:s∈ss)(p:off+len<=xs.length)(N:len<=cap) :
    VR w (eG M β ss) (.list a ks ((xs.drop off).take len)) (.slice (some ⟨b,o+off*ks.length,none⟩) len cap):=by
  cases H with
  | lU =>
   have I:len=0:=by simp at p;omega
   subst I;simpa using VR.wW a ks (some ⟨b,o+off*ks.length,none⟩) cap
  | arr _ _ _ R L C e fr z K Q O r J =>
   rw[B]at z;cases z
   have D:=VR.sub (w:=w) (M:=eG M β ss) (a:=a) (ks:=ks) (xs:=xs) (b:=b) (o:=o) (_cap:=cap) (cap':=cap) (f:=λi j=>C.getD (o+i*ks.length+j) undef) (l:=off) (u:=off+len)
    (.inr ⟨s,o,E,B⟩)
    (λi x j c g q=>by
      have G:=(qLa.1 g).1;have F:j<ks.length:=by have:=gq (r x (qLe g));grind
      have:(i+1)*ks.length<=xs.length*ks.length:=Nat.mul_le_mul_right _ G;rw[Nat.add_mul]at this;exact Dc K (by omega))
    (λi x j c g q=>(J i x j c g q).plus ss) r (by omega) p (by omega)
   grind
theorem WY(g:PO cs=some (kd,vs)):cs=vs.map .p/\∀ v∈vs,kindOk kd v=true:=by
 unfold PO at g;split at g
 . rename_i v r hp;cases l:(v::r).all (kindOk (aax v))with
   | false=>rw[l]at g;cases g
   | true =>rw[l]at g;simp only[qCt,qOa,Prod.mk.injEq]at g;obtain⟨rfl,rfl⟩:=g;exact⟨AQ hp,λx q=>(List.all_eq_true.1 l) x q⟩
 . cases g
theorem ajW(I:BR w M β h s (.box cs))(E:β s=some (b,o))(G:s∈ss)(z:PO cs=some (kd,vs))
    (H:off+cap<=cs.length)(R:len<=cap):VR w (eG M β ss) (.list false [kd] ((vs.drop off).take len)) (.slice (some ⟨b,o+off,none⟩) len cap):=by
  obtain⟨N,D⟩:=WY z;subst N;simp only[qLm]at H;cases I with
  | box _ V O C e fr B L K U S J =>
   rw[E]at B;cases B;simp only[qLm]at K;have leaf:∀ v∈vs,v.cells=[v]:=λv z=>by have:=lg (D v z);cases v<;>first | rfl | simp[PV.leaf]at this
   have get:∀(i:Nat) (x:PV),vs[i]?=some x->VR w M x (C.getD (o+i) undef):=λi x g=>by have:=J i (.p x) (by simp[g]);cases this;assumption
   have F:=VR.sub (w:=w) (M:=eG M β ss) (a:=false) (ks:=[kd]) (xs:=vs) (b:=b) (o:=o) (_cap:=cap) (cap':=cap) (f:=λi j=>C.getD (o+i) undef) (l:=off) (u:=off+len)
    (.inr ⟨s,o,G,E⟩)
    (λi x j c g r=>by
      have Q:=(qLa.1 g).1;rw[leaf x (qLe g)]at r;have q:j=0:=by grind
      subst q;simpa using Dc L (i:=o+i) (by omega))
    (λi x j c g r=>by
      rw[leaf x (qLe g)]at r;have q:j=0:=by grind
      subst q;simp at r;subst r;exact(get i x g).plus ss)
    (λx g=>by simpa[bY] using D x g) (by omega) (by omega) (by omega)
   grind
theorem acS(J:∀ s b,h' s=some b->BR w M β h s b)(q:∀ s b,h' s=some b->h s=some b)(hd:SQ h' v=some (x,ss))(D:AR w M β h v c) :
    VR w (eG M β ss) x c/\(v.leaf=true->x.leaf=true)/\∀ s∈ss,(h s).isSome=true:=by
  unfold SQ at hd;split at hd
  . cases hd;cases D with
    | p _ _ D=>exact⟨D.plus [],λh=>h,λs g=>by simp at g⟩
  . rename_i s z off len;split at hd
    . rename_i a ks xs g;have u:=g;have g:=q _ _ g;cases hd;refine⟨?_,λ_=>rfl,λs' l=>by simp at l;subst l;rw[g];rfl⟩;cases D with
      | slice _ _ _ a' H E b o cap r B G F L =>rw[g]at r;cases r;exact ajV (J s _ u) G (by simp) B F
      | sliceE _ _ a' H E base r B=>simpa using VR.wW a ks base 0
    . cases hd
  . rename_i s off len;split at hd
    . rename_i cs g;have u:=g;have g:=q _ _ g;split at hd
      . rename_i kd vs K;cases hd;refine⟨?_,λ_=>rfl,λs' l=>by simp at l;subst l;rw[g];rfl⟩;cases D with
        | bslice _ _ _ I b o cap r B G F =>rw[g]at r;cases r;exact ajW (J s _ u) G (by simp) K B F
        | bsliceE _ _ I base r B=>simpa using VR.wW false [kd] base 0
      . cases hd
    . cases hd
  . cases hd
theorem Rw{h':Nat->Option bZ}(z:∀ s b,h' s=some b->BR w M β h s b)(g:∀ s b,h' s=some b->h s=some b):∀{vs:List AV} {xs:List PV} {ss:List Nat} {f:Nat->Value},Ea h' vs=some (xs,ss) ->
    (∀(i:Nat) (v:AV),vs[i]?=some v->AR w M β h v (f i))->(∀ v∈vs,v.leaf=true) ->
    xs.length=vs.length/\(∀ x∈xs,x.leaf=true)/\(∀(i:Nat) (x:PV),xs[i]?=some x->VR w (eG M β ss) x (f i))/\∀ s∈ss,(h s).isSome=true
  |[],xs,ss,f,hd,_,_=>by simp[Ea]at hd;obtain⟨rfl,rfl⟩:=hd;simp
  | v::r,xs,ss,f,hd,hv,hl=>by
   simp only[Ea]at hd;split at hd
   . rename_i x G ys s2 D B;cases hd;obtain⟨F,K,J⟩:=acS z g D (hv 0 v (by simp));obtain⟨b1,I,E,H⟩:=Rw z g (f:=λi=>f (i+1)) B (λi u p=>hv (i+1) u (by simpa using p)) (λu p=>hl u (by simp[p]));refine⟨by simp[b1],?_,?_,?_⟩
     . grind
     . intro i y l;cases i with
       | zero=>simp at l;subst l;exact F.more λs q=>by simp[q]
       | succ i=>simp at l;exact(E i y l).more λs q=>by simp[q]
     grind
   . cases hd
theorem WZ(z:∀ s b,h' s=some b->BR w M β h s b)(g:∀ s b,h' s=some b->h s=some b)(hd:PS h' v=some (x,ss))(B:AR w M β h v c) :
    VR w (eG M β ss) x c/\(v.leaf=true->x.leaf=true)/\∀ s∈ss,(h s).isSome=true:=by
  unfold PS at hd;split at hd
  . rename_i s;split at hd
    . rename_i cs l;have r:=l;have l:=g _ _ l;split at hd
      . rename_i vs F G;cases hd;cases B with
        | ptrA _ _ _ a ks xs b o q p O=>rw[l]at q;cases q
        | ptrB _ _ K b o q p =>
         cases z s _ r with
         | box _ U Q C e fr E D R J I H =>
          rw[p]at E;cases E;obtain⟨b1,N,L,S⟩:=Rw z g (f:=λi=>C.getD (o+i) undef) G H I;refine⟨?_,λ_=>rfl,?_⟩
          . simp only[Nat.add_zero];refine .ref vs b o (λi=>C.getD (o+i) undef) (.inr ⟨s,o,by simp,p⟩) N ?_ (λj c u=>(L j c u).more λs l=>by simp[l]) (Room.mk D (by omega) J);intro j c u;have:=(qLa.1 u).1;exact Dc D (by omega)
          grind
      . cases hd
    . cases hd
  . exact acS z g hd B
theorem YW{h':Nat->Option bZ}(q:∀ s b,h' s=some b->BR w M β h s b)(g:∀ s b,h' s=some b->h s=some b):∀{vs:List AV} {xs:List PV} {ss:List Nat} {f:Nat->Value},JX h' vs=some (xs,ss) ->
    (∀(i:Nat) (v:AV),vs[i]?=some v->AR w M β h v (f i)) ->
    xs.length=vs.length/\(∀(i:Nat) (x:PV),xs[i]?=some x->VR w (eG M β ss) x (f i))/\∀ s∈ss,(h s).isSome=true
  |[],xs,ss,f,hd,_=>by simp[JX]at hd;obtain⟨rfl,rfl⟩:=hd;simp
  | v::r,xs,ss,f,hd,hv=>by
   simp only[JX]at hd;split at hd
   . rename_i x G ys s2 D B;cases hd;obtain⟨F,J,I⟩:=WZ q g D (hv 0 v (by simp));obtain⟨b1,E,H⟩:=YW q g (f:=λi=>f (i+1)) B (λi u z=>hv (i+1) u (by simpa using z));refine⟨by simp[b1],?_,?_⟩
     . intro i y l;cases i with
       | zero=>simp at l;subst l;exact F.more λs p=>by simp[p]
       | succ i=>simp at l;exact(E i y l).more λs p=>by simp[p]
     grind
   . cases hd
theorem LM(r:∀ s b,h' s=some b->BR w M β h s b)(g:∀ s b,h' s=some b->h s=some b)(hd:deep h' v=some (x,ss))(q:AR w M β h v c) :
    VR w (eG M β ss) x c/\∀ s∈ss,(h s).isSome=true:=by
  unfold deep at hd;split at hd
  . rename_i cs;split at hd
    . rename_i vs p z;cases hd;cases q with
      | agg _ l E F u =>obtain⟨b1,G,D,B⟩:=Rw r g (f:=λi=>l.getD i undef) z u F;exact⟨.agg vs l (by omega) G D,B⟩
    . cases hd
  . rename_i f cs;split at hd
    . rename_i vs p z;cases hd;cases q with
      | fn _ _ l E u =>obtain⟨b1,D,B⟩:=YW r g (f:=λi=>l.getD i undef) z u;exact⟨.fn f vs l (by omega) D,B⟩
    . cases hd
  . obtain⟨I,_,H⟩:=WZ r g hd q;grind
theorem J8{h':Nat->Option bZ}(u:∀ s b,h' s=some b->BR w M β h s b)(g:∀ s b,h' s=some b->h s=some b):∀{vs:List AV} {xs:List PV} {ss:List Nat} {cs:List Value},JY h' vs=some (xs,ss) ->
    oW w M β h vs cs->xs.length=cs.length/\(∀(i:Nat) (x:PV) (c:Value),xs[i]?=some x->cs[i]?=some c->VR w (eG M β ss) x c)/\∀ s∈ss,(h s).isSome=true
  |[],xs,ss,cs,hd,hl=>by
   simp[JY]at hd;obtain⟨rfl,rfl⟩:=hd;have:cs=[]:=by have:=hl.1;simpa using this.symm
   grind
  | v::r,xs,ss,[],hd,hl=>by have:=hl.1;simp at this
  | v::r,xs,ss,c::cs,hd,hl=>by
   simp only[JY]at hd;split at hd
   . rename_i x H ys s2 E D;cases hd;obtain⟨B,z⟩:=hl.cons;obtain⟨G,J⟩:=LM u g E B;obtain⟨b1,F,I⟩:=J8 u g D z;refine⟨by simp[b1],?_,?_⟩
     . intro i y d p l;cases i with
       | zero=>simp at p l;subst p;subst l;exact G.more λs q=>by simp[q]
       | succ i=>simp at p l;exact(F i y d p l).more λs q=>by simp[q]
     grind
   . cases hd
end
end
section
variable {C C':Array Value}{b k:Nat}{vs:List Value}{w:World}{e:TypeId}{fr:Nat × Nat}{c v:Value}
def jK(w:World)(b:Nat)(C:Array Value)(e:TypeId)(fr:Nat × Nat):World:={w with heap:=w.heap.setIfInBounds b (.cells C e fr)}
def ku(C:Array Value)(k:Nat)(vs:List Value):Array Value:=(patch C.toList k vs).toArray
theorem jh(h:k+vs.length<=C.size):(ku C k vs).size=C.size:=by simp only[ku,List.size_toArray];rw[lV _ _ _ (by simpa using h)];simp
theorem wP(h:k+vs.length<=C.size)(i:Nat) :
    (ku C k vs).getD i undef=if k<=i/\i<k+vs.length then vs.getD (i-k) undef else C.getD i undef:=by
  have:=xI C.toList k vs (by simpa using h) i;simp only[ku,qAb,List.getElem?_toArray,this];split<;>simp[List.getD]
theorem acT(g:w.heap[b]?=some (.cells C e fr)):jK w b C e fr=w:=by
 unfold jK;have:w.heap.setIfInBounds b (.cells C e fr)=w.heap:=by grind
 rw[this]
theorem EL(g:w.heap[b]?=some (.cells C e fr)):(jK w b C' e fr).heap[b]?=some (.cells C' e fr):=by have:=(qAa.1 g).1;simp[jK,this]
theorem X6:jK (jK w b C e fr) b C' e fr=jK w b C' e fr:=by simp[jK]
theorem setCell_eq{i:Nat}(g:w.heap[b]?=some (.cells C e fr)):w.setCell ⟨b,i,none⟩ v=jK w b (C.setIfInBounds i v) e fr:=by unfold World.setCell jK;congr 1;grind
theorem ahB(h:k+(v::vs).length<=C.size):ku (C.setIfInBounds k v) (k+1) vs=ku C k (v::vs):=by
 simp only[qLl]at h;have p:k+1+vs.length<=(C.setIfInBounds k v).size:=by simp;omega
 have g:k+(v::vs).length<=C.size:=by simp;omega
 apply Array.ext
 . rw[jh p,jh g];simp
 . intro i B l;have r:=wP p i;have q:=wP g i;rw[Array.getD,dif_pos B]at r;rw[Array.getD,dif_pos l]at q;have E:(ku (C.setIfInBounds k v) (k+1) vs)[i]=_:=r;have D:(ku C k (v::vs))[i]=_:=q;rw[E,D];rw[jh g]at l;by_cases z:k=i
   . subst z;rw[if_neg (by omega),if_pos (by simp)];simp[l]
   . by_cases u:k+1<=i/\i<k+1+vs.length
     . grind
     . rw[if_neg u,if_neg (by simp;omega)];simp_all
theorem uq{P:Program}{b o:Nat}{e:TypeId}{fr:Nat × Nat}:∀(vs:List Value) (i:Nat) (w:World) (C:Array Value),w.heap[b]?=some (.cells C e fr)->Open C fr->o+i+vs.length<=C.size ->
    (∀ v∈vs,v.oneCell'=true)->(storeCells ⟨b,o,none⟩ vs i).run P w=.ok () (jK w b (ku C (o+i) vs) e fr)
  |[],i,w,C,hw,_,hl,_=>by
   have:ku C (o+i) []=C:=by simp[ku,patch]
   rw[this,acT hw];rfl
  | v::r,i,w,C,hw,ho,hl,h1=>by
   simp only[qLl]at hl;have hcell:w.cell? ⟨b,o+i,none⟩=some (C.getD (o+i) undef):=Dc hw (by omega);have g:w.frozen? ⟨b,o+i,none⟩=false:=by simp only[World.frozen?,hw];have:=ho.at (o+i) (by omega);grind
   have p:=(qAa.1 hw).1;simp only[storeCells,Sem.run_bind,addr_add,run_store P w _ v .plain (h1 v (by simp)),hcell,g,Bool.false_eq_true,if_false,qRa,setCell_eq hw];rw[uq r (i+1) _ (C.setIfInBounds (o+i) v) (EL hw) (ho.size (by simp)) (by simp;omega) (λu l=>h1 u (by simp[l])),X6];congr 2;rw[<- Nat.add_assoc];exact ahB (by simp;omega)
section
variable {w0:Base} {Pr M0 M:Nat->Prop} {β:Nat->Option (Nat × Nat)} {st:St} {a:Act} {w:World}
theorem rM:∀{ss:List Nat},kC ss=true->∀ s∈ss,s<ah
 |[],_,s,g=>by simp at g
 | x::r,h,s,g=>by
  simp only[kC,qBa]at h;rcases List.mem_cons.1 g with rfl | g
  . exact(Nat.blt_eq▸h.1:_)
  . exact rM h.2 s g
theorem Rel.freeze(r:Rel w0 Pr M0 M β st a w)(ds ss:List Nat)(q:kC ss=true)(p:∀ s∈ss,(look st.heap s).isSome=true):Rel w0 Pr M0 (eG M β ss) β (st.strike (ds++ss)) a w:=by
 refine r.strike (ds++ss) (λb g=>.inl g) λb g=>?_;rcases g with g |⟨s,o,l,g⟩
 . exact .inl g
 . refine .inr ⟨?_,s,o,by simp[l],p s l,g⟩;rcases(r.own s b o (p s l) g).2.2.2 with h | h
   . exact h
   . have:=rM q s l;omega
theorem iw(ss:List Nat)(x:Nat):look (st.strike ss).heap x=if x∈ss then none else(look st.heap x).map (bZ.kill ss):=by
 cases ss with
 | nil =>
  have:∀ b:bZ,bZ.kill [] b=b:=by
   have kn:∀ v:AV,AV.kill [] v=v:=by
    have:(∀ v:AV,AV.refers [] v=false):=by
     intro v;have g:∀(v:AV),AV.refers [] v=false:=by intro v;apply AV.rec (motive_1:=λv=>AV.refers [] v=false) (motive_2:=λl=>AV.kY [] l=false)<;>intros<;>simp_all[AV.refers,AV.kY,l7]
     exact g v
    simp[this,AV.kill]
   have p:∀ cs:List AV,jQ [] cs=cs:=by
    intro cs;induction cs with
    | nil=>rfl
    | cons v r q=>simp[jQ,kn,q]
   intro b;cases b with
   | box cs=>simp[bZ.kill,p]
   | arr=>rfl
   | log=>rfl
  simp only[St.strike,List.not_mem_nil,if_false];cases look st.heap x with
  | none=>rfl
  | some b=>simp[this]
 | cons z u=>simp only[St.strike,yI,jO]
theorem AR.struck{M':Nat->Prop}{v:AV}(h:AR w M β (look st.heap) v c)(ss:List Nat)(u:∀ b,M b->M' b)(l:∀ s∈ss,AV.refers [s] v=false):AR w M' β (look (st.strike ss).heap) v c:=by refine h.mono (λb r=>⟨u b r,rfl⟩) λs blk g q=>⟨blk.kill ss,?_,bZ.Du _ _,rfl,λ_ _ _ _ h=>h⟩;rw[iw,if_neg (λp=>by rw[l s p]at g;cases g),q];rfl
theorem xJ{hp:Heap}:∀{l:List Nat} {s:Nat},s∈present hp l->s∈l/\(look hp s).isSome=true
 |[],s,h=>by simp[present]at h
 | x::r,s,h=>by
  simp only[present]at h;split at h
  . rename_i b g;rcases List.mem_cons.1 h with rfl | h
    . grind
    . exact⟨by simp[(xJ h).1],(xJ h).2⟩
  . exact⟨by simp[(xJ h).1],(xJ h).2⟩
theorem AY{hp:Heap}:∀{l:List Nat} {s:Nat},s∈l->(look hp s).isSome=true->s∈present hp l
 |[],s,h,_=>by simp at h
 | x::r,s,h,hs=>by
  simp only[present];split
  . rcases List.mem_cons.1 h with rfl | h
    . simp
    . simp[AY h hs]
  . rename_i g;rcases List.mem_cons.1 h with rfl | h
    . grind
    . exact AY h hs
theorem Rel.fresh(r:Rel w0 Pr M0 M β st a w){ss:List Nat}(Y:kC ss=true)(X:∀ s∈ss,(look st.heap s).isSome=true){d:Nat}{blk:bZ}{w':World}{o:Nat}{v:AV} 
    (I:w.heap.size<=w'.heap.size)(K:w'.os=w.os)(H:w'.tape=w.tape)(L:w'.output=w.output)(g:∀ k,k<w.heap.size->w'.heap[k]?=w.heap[k]?)(Z:w.heap.size<=b)(O:b<w'.heap.size)
    (hB:∀(β':Nat->Option (Nat × Nat)) (h':Nat->Option bZ),β' d=some (b,o)->h' d=some blk ->
      (∀(v:AV) (c:Value),AR w M β (look st.heap) v c->(∀ s∈d::ss,AV.refers [s] v=false)->AR w' (eG M β ss) β' h' v c)->(∀(v:PV) (c:Value),VR w (eG M β ss) v c->VR w' (eG M β ss) v c) ->
      BR w' (eG M β ss) β' h' d blk/\AR w' (eG M β ss) β' h' v c) :
    Rel w0 Pr M0 (eG M β ss) (λx=>if x=d then some (b,o)else β x) (st.apply (some d) {val:=v,uz:=[(d,blk)],new:=[d],Ip:=ss}) (a.put (some d) c) w':=by
  have D:=r.freeze (present st.heap [d]) ss Y X;have B:∀ b,eG M β ss b->b<w.heap.size:=D.iU;have U:Rel w0 Pr M0 (eG M β ss) β (st.strike (present st.heap [d]++ss)) a w':=D.world I K H L (λk l _=>g k l) (λk n _ l _ G=>G.of_block (g k l)) (λ_ h=>h) (λ_ h=>.inl h);have q:look (st.strike (present st.heap [d]++ss)).heap d=none:=by
   rw[iw];by_cases N:d∈present st.heap [d]++ss
   . grind
   . rw[if_neg N];cases hd:look st.heap d with
     | none=>rfl
     | some x=>exact absurd (List.mem_append.2 (.inl (AY (by simp) (by rw[hd];rfl)))) N
  have u:∀(v:PV) (c:Value),VR w (eG M β ss) v c->VR w' (eG M β ss) v c:=λv c h=>h.mono λk l=>⟨l,g k (B k l)⟩
  have hkeep:∀(v:AV) (c:Value),AR w M β (look st.heap) v c->(∀ s∈d::ss,AV.refers [s] v=false) ->
      AR w' (eG M β ss) (λx=>if x=d then some (b,o)else β x) (λx=>if x=d then some blk else look (st.strike (present st.heap [d]++ss)).heap x) v c:=by
    intro v c h G;have h1:=h.struck (M':=eG M β ss) (present st.heap [d]++ss) (λ_ h=>.inl h) λs F=>by
     rcases List.mem_append.1 F with F | F
     . have:=(xJ F).1;grind
     grind
    refine h1.mono (λk l=>⟨l,g k (B k l)⟩) λs x _ E=>?_;have z:s≠d:=by rintro rfl;rw[q]at E;cases E
    refine⟨x,by simp only[if_neg z];exact E,Like.refl _,by simp only[if_neg z],λb1 V n hb G=>G.of_block (g b1 ?_)⟩;exact(D.own s b1 V (by rw[E];rfl) hb).2.1
  obtain⟨Q,hB2⟩:=hB (λx=>if x=d then some (b,o)else β x) (λx=>if x=d then some blk else look (st.strike (present st.heap [d]++ss)).heap x) (by simp) (by simp) hkeep u;have S:=U.lay (s:=d) (blk:=blk) q (p:=some (b,o)) (λb' R e=>by
   cases e;refine⟨λN=>?_,O,⟨.inl (by have:=r.size;omega),.inl (by have:=r.size;have:=w0.le';omega)⟩,λs' R J AX=>?_⟩
   . grind
   . have:=(D.own s' b R J AX).2.1;omega) Q
  have W:look (put (st.strike (present st.heap [d]++ss)).heap d blk)=λx=>if x=d then some blk else look (st.strike (present st.heap [d]++ss)).heap x:=funext λx=>eH _ _ _ _
  exact S.setEnv (some d) (v:=v) (c:=c) (by grind)
end
end
section
variable {e t:TypeId}{hp:Heap}{s:Nat}{ss:List Nat}{o:Obj}{C:Array Value}{sa:Bool}{ks:List Kd}{v:AV}
def nZ(hp hp':Heap):Prop:=∀ s,ah<=s->∀ blk',look hp' s=some blk'->∃ blk,look hp s=some blk/\Like blk blk'
theorem Like.trans{x y z:bZ}(l:Like x y)(g:Like y z):Like x z:=by cases x<;>cases y<;>cases z<;>simp only[Like]at *;all_goals grind
theorem nZ.trans{a b c:Heap}(z:nZ a b)(u:nZ b c):nZ a c:=by intro s g blk h;obtain⟨y,q,l⟩:=u s g blk h;obtain⟨x,r,p⟩:=z s g y q;exact⟨x,r,p.trans l⟩
theorem J9(x:Nat):∀(l:List (Nat × bZ)) (hp:Heap) (b:bZ),look (gZ hp l) x=some b->look hp x=some b\/(x,b)∈l
 |[],hp,b,h=>.inl h
 |(s,c)::r,hp,b,h=>by rcases J9 x r (put hp s c) b h with h | h;all_goals grind[eH]
theorem ET(st:St)(ss:List Nat):nZ st.heap (st.strike ss).heap:=by
 intro s _ blk h;rw[iw]at h;split at h
 . cases h
 . cases g:look st.heap s with
   | none=>rw[g]at h;cases h
   | some b=>rw[g]at h;cases h;exact⟨b,rfl,bZ.Du _ _⟩
theorem Du(st:St)(ss:List Nat):nZ st.heap (st.kill ss).heap:=by
 intro s _ blk h;cases ss with
 | nil=>exact⟨blk,h,Like.refl _⟩
 | cons x r =>
  simp only[St.kill,jO]at h;cases g:look st.heap s with
  | none=>rw[g]at h;cases h
  | some b=>rw[g]at h;cases h;exact⟨b,rfl,bZ.Du _ _⟩
def acU(hp:Heap)(l:List (Nat × bZ)):Prop:=∀ k b,(k,b)∈l->k<ah\/∃ b0,look hp k=some b0/\Like b0 b
theorem ou{st:St}{d:Option Nat}{e:Eff}(h:acU st.heap e.uz):nZ st.heap (st.apply d e).heap:=by
 intro s l blk g;rcases J9 s _ _ _ g with g | g
 . exact(ET st _).trans (Du _ e.cut) s l blk g
 . rcases h s blk g with h | h;all_goals omega
theorem P7:acU hp []:=λ_ _ h=>by simp at h
theorem wH{b:bZ}(h:s<ah\/∃ b0,look hp s=some b0/\Like b0 b):acU hp [(s,b)]:=by intro k c g;grind
structure dK (P:Program) (w0:Base) (Pr M0:Nat->Prop) (β:Nat->Option (Nat × Nat)) (st:St) (a:Act) (w:World) (d:Option Nat) (D:DT) (sem:Sem Next):Prop where
 sim:∀ (α:Type) (k:Eff->Option α) (r:α),D.run k=some r->∃ e nv c w' M' β',k e=some r/\sem.run P w=.ok nv w'/\(nv=.value c\/(nv=.skip/\c=undef)) /\
  (kC (e.new++e.Ip)=true->Rel w0 Pr M0 M' β' (st.apply d e) (a.put d c) w'/\(∀ s,ah<=s->β' s=β s)/\nZ st.heap (st.apply d e).heap)
theorem o7:∀{x y:List Nat},kC (x++y)=true->kC x=true/\kC y=true
 |[],y,h=>⟨rfl,h⟩
 | s::x,y,h=>by simp only[List.cons_append,kC,qBa]at h ⊢;exact⟨⟨h.1,(o7 h.2).1⟩,(o7 h.2).2⟩
section
variable {P:Program} {T:Tab} {w0:Base} {Pr M0 M:Nat->Prop} {β:Nat->Option (Nat × Nat)} {st:St} {a:Act} {w:World} {d:Option Nat}
theorem dK.fail{sem:Sem Next}:dK P w0 Pr M0 β st a w d .fail sem:=⟨λ_ _ _ g=>by simp[DT.run]at g⟩
theorem dK.chk{c:Bool}{D:DT}{sem:Sem Next}(q:c=true->dK P w0 Pr M0 β st a w d D sem):dK P w0 Pr M0 β st a w d (Skm.chk c D) sem:=
 ⟨λα k r g=>by obtain⟨p,l⟩:=aaK g;exact(q p).sim α k r l⟩
theorem dK.ret{e:Eff}{sem:Sem Next}{nv:Next}{c:Value}{w':World}{M':Nat->Prop}{β':Nat->Option (Nat × Nat)}(r:sem.run P w=.ok nv w')(q:nv=.value c\/(nv=.skip/\c=undef))
    (p:kC e.Ip=true->Rel w0 Pr M0 M' β' (st.apply d e) (a.put d c) w')(h4:kC (e.new++e.Ip)=true->∀ s,ah<=s->β' s=β s:=by exact λ_ _ _=>rfl)
    (h5:kC (e.new++e.Ip)=true->acU st.heap e.uz:=by exact λg=>wH (.inl (rM g _ (by simp)))):dK P w0 Pr M0 β st a w d (.ret e) sem:=
  ⟨λ_ _ _ l=>⟨e,nv,c,w',M',β',l,r,q,λg=>⟨p (o7 g).2,h4 g,ou (h5 g)⟩⟩⟩
theorem zV{d:Nat}{p:Option (Nat × Nat)}(g:kC ([d]++ss)=true):∀ s,ah<=s->(if s=d then p else β s)=β s:=by intro s l;have:=rM g d (by simp);grind
theorem dK.Rx(r:Rel w0 Pr M0 M β st a w){D:DT}{sem:Sem Value}(h:aJ P w M β (look st.heap) D sem):dK P w0 Pr M0 β st a w d D (do pure (.value (<- sem))):=by refine⟨λα k q g=>?_⟩;obtain⟨v,c,u,p,l⟩:=h.sim α k q g;exact⟨_,.value c,c,w,M,β,u,by simp[l],.inl rfl,λ_=>⟨r.setEnv d p,λ_ _=>rfl,ou P7⟩⟩
theorem alloc_old{w:World}{k:Nat}(h:k<w.heap.size):(w.alloc o).heap[k]?=w.heap[k]?:=by show(w.heap.push o)[k]?=_;grind
theorem zA{w:World}:(w.alloc o).heap[w.heap.size]?=some o:=by show(w.heap.push o)[w.heap.size]?=_;simp
theorem zB(C:Array Value):Open C (0,0):=.inl rfl
theorem Rel.ajX(r:Rel w0 Pr M0 M β st a w){d:Nat}{cs:List AV}(z:C.size=cs.length)(p:∀ c∈cs,c.leaf=true)
    (D:∀(j:Nat) (c:AV),cs[j]?=some c->AR w M β (look st.heap) c (C.getD j undef))(u:∀ c∈cs,AV.refers [d] c=false) :
    Rel w0 Pr M0 (eG M β []) (λx=>if x=d then some (w.heap.size,0)else β x) (st.apply (some d) {val:=.ptr d 0 0,uz:=[(d,.box cs)],new:=[d]}) (a.put (some d) (.pointer (some ⟨w.heap.size,0,none⟩))) (w.alloc (.cells C e)):=by
  refine r.fresh (ss:=[]) (b:=w.heap.size) (o:=0) rfl (by simp) (by simp) rfl rfl rfl (λk g=>alloc_old g) (qNr _) (by simp) ?_;intro β' h' l q g _;refine⟨.box cs w.heap.size 0 C e (0,0) l zA (by omega) (zB C) p λj c B=>?_,?_⟩
  . grind
  . have:=AR.ptrB (w:=w.alloc (.cells C e)) (M:=eG M β []) (β:=β') (h:=h') d 0 cs w.heap.size 0 q l;omega
theorem Rel.aeN(r:Rel w0 Pr M0 M β st a w)(D:kC ss=true)(hlive:∀ s∈ss,(look st.heap s).isSome=true){d:Nat}{xs:List PV}{fr:Nat × Nat}{len cap:Nat}
    (l:Open C fr)(u:∀ x∈xs,bY sa ks x=true)(p:len<=xs.length)(g:len<=cap)(E:cap*ks.length<=C.size)(J:xs.length*ks.length<=C.size)
    (I:∀(i:Nat) (x:PV) (j:Nat) (c:PV),xs[i]?=some x->x.cells[j]?=some c->VR w (eG M β ss) c (C.getD (i*ks.length+j) undef)) :
    Rel w0 Pr M0 (eG M β ss) (λx=>if x=d then some (w.heap.size,0)else β x) (st.apply (some d) {val:=.slice d ks.length 0 len,uz:=[(d,.arr sa ks xs)],new:=[d],Ip:=ss}) (a.put (some d) (.slice (some ⟨w.heap.size,0,none⟩) len cap)) (w.alloc (.cells C e fr)):=by
  refine r.fresh D hlive (b:=w.heap.size) (o:=0) (by simp) rfl rfl rfl (λk z=>alloc_old z) (qNr _) (by simp) ?_;intro β' h' q B _ G;refine⟨.arr sa ks xs w.heap.size 0 C e fr q zA (by omega) l u λi x j c F H=>?_,?_⟩
  . grind
  . have:=AR.slice (w:=w.alloc (.cells C e fr)) (M:=eG M β ss) (β:=β') (h:=h') d 0 len sa ks xs w.heap.size 0 cap B (by omega) q g (Room.mk zA (by rw[qNz,qNz];exact E) l);grind
theorem Rel.ajY(r:Rel w0 Pr M0 M β st a w){d:Nat}(base:Option Addr:=none) :
    Rel w0 Pr M0 M (λx=>if x=d then none else β x) (st.apply (some d) {val:=.slice d ks.length 0 0,uz:=[(d,.arr sa ks [])],new:=[d]}) (a.put (some d) (.slice base 0 0)) w:=by
  have B:=r.strike (M':=M) (present st.heap [d]) (λ_ h=>h) (λ_ h=>.inl h);have g:look (st.strike (present st.heap [d])).heap d=none:=by
   rw[iw];by_cases q:d∈present st.heap [d]
   . grind
   . rw[if_neg q];cases hd:look st.heap d with
     | none=>rfl
     | some x=>exact absurd (AY (by simp) (by rw[hd];rfl)) q
  have z:=B.lay (s:=d) (blk:=.arr sa ks []) g (p:=none) (λ_ _ e=>by cases e) (.lU sa ks);have l:look (put (st.strike (present st.heap [d])).heap d (.arr sa ks [])) d=some (.arr sa ks []):=by rw[eH];simp
  have u:=z.setEnv (some d) (v:=.slice d ks.length 0 0) (c:=.slice base 0 0) (.sliceE d 0 sa ks [] base l (by simp))
  have e:st.apply (some d) {val:=.slice d ks.length 0 0,uz:=[(d,.arr sa ks [])],new:=[d]} =
      {env:=Skm.setEnv (st.strike (present st.heap [d])).env (some d) (.slice d ks.length 0 0),heap:=put (st.strike (present st.heap [d])).heap d (.arr sa ks [])}:=by
    simp only[St.apply,List.append_nil];rfl
  rw[e];exact u
theorem Dw{v:Value}{z:PV}(u:ofValue v=some z):∃ cs:List PV,z.cells=cs/\v.cells.size=cs.length/\(∀ c∈cs,c.leaf=true)/\∀(w:World) (M:Nat->Prop) (j:Nat) (c:PV),cs[j]?=some c->VR w M c (v.cells.getD j undef):=by
 refine⟨z.cells,rfl,?_⟩;have p:∀(w:World) (M:Nat->Prop),VR w M z v:=λw M=>NY u;have r:=p default (λ_=>False);cases z with
 | agg cs =>
  cases r with
  | agg _ vs B D q =>
   refine⟨by simpa[PV.cells,Value.cells] using B,D,λw M j c g=>?_⟩;have:=p w M;cases this with
   | agg _ _ _ _ q=>exact q j c g
 | _ =>
  have l:=r.NW rfl;refine⟨by rw[l];rfl,by simp[PV.cells,PV.leaf],λw M j c g=>?_⟩;rw[l];cases j with
  | zero=>simp[PV.cells]at g;subst g;simpa using p w M
  | succ j=>simp[PV.cells]at g
theorem ahC(ok:fB P T)(r:Rel w0 Pr M0 M β st a w):dK P w0 Pr M0 β st a w d (Rf T d t) (do pure (.value (<- Instr.alloc t true (.tuple #[])))):=by
 unfold Rf;split
 . rename_i d z B;obtain⟨i,v,H,G,F⟩:=ok.zero B;obtain⟨cs,L,K,J,I⟩:=Dw F;have hcells:(AV.p z).cells=cs.map .p:=by rw[<- L];cases z<;>rfl
   have q:∀ c∈cs.map AV.p,AV.refers [d] c=false:=by intro c u;obtain⟨y,_,rfl⟩:=List.mem_map.1 u;rfl
   have D:=r.ajX (d:=d) (cs:=cs.map .p) (C:=v.cells) (e:=t) (by simpa using K) (λc u=>by
       obtain⟨y,l,rfl⟩:=List.mem_map.1 u;exact J y l) (λj c g=>by
       rw[List.getElem?_map]at g;cases l:cs[j]? with
       | none=>rw[l]at g;simp at g
       | some y=>rw[l]at g;simp at g;subst g;exact .p _ _ (I _ _ j y l)) q
   rw[hcells];exact dK.ret (nv:=.value (.pointer (some ⟨w.heap.size,0,none⟩))) (by simp[Instr.alloc,vK H G,newVar,newRow]) (.inl rfl) (λ_=>D) (λE=>zV E)
 . exact dK.fail
theorem aaO(h:AV.refers [s] v=false):∀ c∈v.cells,AV.refers [s] c=false:=by
 have any:∀(cs:List AV),AV.kY [s] cs=false->∀ c∈cs,AV.refers [s] c=false:=by
  intro cs;induction cs with
  | nil=>intro _ c g;simp at g
  | cons x r l=>grind[AV.kY,Bool.or_eq_false_iff]
 intro c g;cases v with
 | p v =>
  have:∃ y,c=.p y:=by cases v<;>simp[AV.cells]at g<;>first | exact⟨_,g⟩ |(obtain⟨y,_,rfl⟩:=g;exact⟨y,rfl⟩)
  obtain⟨y,rfl⟩:=this;rfl
 | agg cs=>simp only[AV.cells]at g;exact any cs (by simpa[AV.refers] using h) c g
 | _=>simp[AV.cells]at g;subst g;exact h
theorem al4(r:Rel w0 Pr M0 M β st a w){c:Value}(q:AR w M β (look st.heap) v c):dK P w0 Pr M0 β st a w d (aaz d v) (do pure (.value (<- Instr.box t c))):=by
 unfold aaz;split
 . rename_i d;refine dK.chk λg=>?_;simp only[qBa,qBb]at g;obtain⟨D,B⟩:=q.cells g.1;have u:=r.ajX (d:=d) (cs:=v.cells) (C:=c.cells) (e:=t) D (λx p=>by obtain⟨j,l⟩:=List.mem_iff_getElem?.1 p;grind) (λj x l=>(B j x l).1) (aaO g.2);exact dK.ret (nv:=.value (.pointer (some ⟨w.heap.size,0,none⟩))) (by simp[Instr.box,newVar,newRow]) (.inl rfl) (λ_=>u) (λz=>zV z)
 . exact dK.fail
end
end
section
variable {i j n:Nat}
section
variable {P:Program} {T:Tab} {w0:Base} {Pr M0 M:Nat->Prop} {β:Nat->Option (Nat × Nat)} {st:St} {a:Act} {w:World} {d:Option Nat}
theorem Eh{v:Value}{z:PV}{sa:Bool}{ks:List Kd}(g:ofValue v=some z)(l:bY sa ks z=true):v.cells.size=ks.length:=by obtain⟨cs,q,p,_,_⟩:=Dw g;rw[p,<- q];exact gq l
theorem acV(g:j<n):(i*n+j)%n=j:=by rw[Nat.mul_comm,Nat.mul_add_mod,Nat.mod_eq_of_lt g]
theorem LP{g:Array Value}{k:Nat}(p:g.size=k)(r:i<n)(q:j<k):((Array.range (n*k)).map (g[·%g.size]!)).getD (i*k+j) undef=g.getD j undef:=by
 have l:i*k+j<n*k:=by have:(i+1)*k<=n*k:=Nat.mul_le_mul_right _ r;grind
 have u:j<g.size:=by omega
 simp only[qAb,Array.getElem?_map,Array.getElem?_range,l,if_true,Option.map_some,Option.getD_some,p,acV q];grind
theorem acW(V:∀ s b,look st.heap s=some b->BR w M β (look st.heap) s b){h':Nat->Option bZ}(u:∀ s b,h' s=some b->look st.heap s=some b){sa:Bool}{ks:List Kd} :
    ∀(U:List (Nat × AV)) (D:List (Nat × Value)) (xs:List PV) (ss:List Nat) (C:Array Value) (g:List PV) (l:List Nat),
    WT w M β (look st.heap) U D->C.size=xs.length*ks.length->(∀ x∈xs,bY sa ks x=true)->(∀ s∈ss,(look st.heap s).isSome=true) ->
    (∀(i:Nat) (x:PV) (j:Nat) (c:PV),xs[i]?=some x->x.cells[j]?=some c->VR w (eG M β ss) c (C.getD (i*ks.length+j) undef)) ->
    acI h' sa ks xs ss U=some (g,l) ->
    ∃ C',Instr.fill (λi=>some (i*ks.length,ks.length)) C D=some C'/\C'.size=g.length*ks.length/\g.length=xs.length/\(∀ x∈g,bY sa ks x=true)/\(∀ s∈l,(look st.heap s).isSome=true) /\
     (∀(i:Nat) (x:PV) (j:Nat) (c:PV),g[i]?=some x->x.cells[j]?=some c->VR w (eG M β l) c (C'.getD (i*ks.length+j) undef))
  |[],D,xs,ss,C,g,l,hp,hC,E,hl,hc,hf=>by
   have:D=[]:=by have:=hp.1;simpa using this.symm
   subst this;simp[acI]at hf;obtain⟨rfl,rfl⟩:=hf;exact⟨C,rfl,hC,rfl,E,hl,hc⟩
  |(n,v)::r,[],xs,ss,C,g,l,hp,hC,E,hl,hc,hf=>by have:=hp.1;simp at this
  |(n,v)::r,(m,c)::cr,xs,ss,C,g,l,hp,hC,E,hl,hc,hf=>by
   have hp0:=hp.2 0 (n,v) (m,c) (by simp) (by simp);simp only at hp0;obtain⟨rfl,Z⟩:=hp0;simp only[acI]at hf;cases hd:deep h' v with
   | none=>rw[hd]at hf;cases hf
   | some p =>
    obtain⟨x,S⟩:=p;rw[hd]at hf;simp only at hf;cases J:(bY sa ks x&&Nat.blt n xs.length)with
    | false=>rw[J]at hf;cases hf
    | true =>
     rw[J]at hf;simp only[qCt]at hf;simp only[qBa]at J;obtain⟨Q,B⟩:=J;have B:n<xs.length:=(Nat.blt_eq▸B:_);obtain⟨R,d2⟩:=LM (λs b h=>V s b (u s b h)) u hd Z;have F:=gq Q;have I:c.cells.size=ks.length/\∀(j:Nat) (y:PV),x.cells[j]?=some y->VR w (eG M β S) y (c.cells.getD j undef):=by
      cases x with
      | agg cs =>
       cases R with
       | agg _ vs hn hl2 O=>exact⟨by simpa[Value.cells,PV.cells] using hn.trans F,λj y z=>O j y z⟩
      | _ =>
       have e:=R.NW rfl;refine⟨by rw[e];simpa[PV.cells] using F,λj y z=>?_⟩;rw[e];cases j with
       | zero=>simp[PV.cells]at z;subst z;simpa using R
       | succ j=>simp[PV.cells]at z
     have hroom:n*ks.length+ks.length<=C.size:=by rw[hC,<- Nat.succ_mul];exact Nat.mul_le_mul_right _ B
     obtain⟨f1,f2⟩:=foldl_set c.cells.toList (n*ks.length) 0 C (by simp;omega)
     obtain⟨C',k1,Y⟩:=acW V u r cr (xs.set n x) (ss++S) ((c.cells.toList.zipIdx 0).foldl (λcs (W:Value × Nat)=>cs.setIfInBounds (n*ks.length+W.2) W.1) C) g l
      ⟨by simpa using hp.1,λi p q h1 h2=>hp.2 (i+1) p q (by simpa using h1) (by simpa using h2)⟩ (by rw[f1];simpa using hC)
      (λy H=>by grind)
      (λs hs'=>by grind)
      (λi y j X H z=>by
        rw[f2];simp only[Nat.add_zero,Array.length_toList,Nat.sub_zero,I.1];by_cases G:i=n
        . subst G;rw[List.getElem?_set_self B]at H;cases H;have L:j<ks.length:=by have:=(qLa.1 z).1;omega
          rw[if_pos (by omega)];have e:i*ks.length+j-i*ks.length=j:=by omega
          rw[e,Array.toArray_toList];exact(I.2 j X z).more λs E=>by simp[E]
        . rw[List.getElem?_set_ne (λe=>G e.symm)]at H;have L:j<ks.length:=by have:=(qLa.1 z).1;have:=gq (E y (qLe H));omega
          rw[if_neg ?_]
          . exact(hc i y j X H z).more λs E=>by simp[E]
          . rcases Nat.lt_or_gt_of_ne G with K | N
            . have:(i+1)*ks.length<=n*ks.length:=Nat.mul_le_mul_right _ K;grind
            . have:(n+1)*ks.length<=i*ks.length:=Nat.mul_le_mul_right _ N;grind) hf
     grind[Y.2.1,Instr.fill,Array.toList_zipIdx]
theorem W9(ok:fB P T)(r:Rel w0 Pr M0 M β st a w){h':Nat->Option bZ}(p:∀ s b,h' s=some b->look st.heap s=some b){t:TypeId}{len:Nat}{B:List (Nat × AV)}{cs:Array (Nat × Value)}
    (hp:WT w M β (look st.heap) B cs.toList):dK P w0 Pr M0 β st a w d (Eb T h' d t len B) (do pure (.value (<- Instr.buildSlice t len cs))):=by
  unfold Eb;split
  . rename_i d e E;have E:=ok.und E;split
    . rename_i z n hz hn;obtain⟨i,v,J,h2,S⟩:=ok.zero hz;obtain⟨i',N,Y⟩:=ok.size hn;rw[J]at N;cases N;refine dK.chk λR=>?_;simp only[qBa,beq_iff_eq]at R;obtain⟨⟨b1,L⟩,U⟩:=R;have U:=Nat.le_of_ble_eq_true U;subst b1;split
      . rename_i xs ss hf;have D:=Eh S L;obtain⟨zc,X,z2,z3,W⟩:=Dw S
        have hstart:∀(i:Nat) (x:PV) (j:Nat) (c:PV),(List.replicate len z)[i]?=some x->x.cells[j]?=some c ->
            VR w (eG M β []) c (((Array.range (len*(dD T e).2.length)).map (v.cells[·%v.cells.size]!)).getD (i*(dD T e).2.length+j) undef):=by
          intro i x j c g G;have H:=(qLa.1 g).1;simp at H;rw[List.getElem?_replicate,if_pos H]at g;cases g;have u:=(qLa.1 G).1;rw[gq L]at u;rw[LP D H u];exact W _ _ j c (by rw[<- X];exact G)
        obtain⟨C',Q,k2,O,k4,Z,k6⟩:=acW (w:=w) (M:=M) (β:=β) (st:=st) r.heap p B cs.toList (List.replicate len z) [] _ xs ss hp (by simp) (λx g=>by simp at g;rw[g.2];exact L) (by simp) hstart hf;simp at O;have run:(Instr.buildSlice t len cs).run P w=.ok (.slice (some ⟨w.heap.size,0,none⟩) len len) (w.alloc (.cells C' e)):=by
         simp only[Instr.buildSlice,Sem.run_bind,eP E,qRa,jm J,Y];rw[if_neg (by omega)];by_cases K:len*(dD T e).2.length=0
         . rw[if_pos K];simp only[Sem.run_bind,Sem.run_pure,qRa];have e0:(Array.range (len*(dD T e).2.length)).map ((#[]:Array Value)[·%(#[]:Array Value).size]!)=(Array.range (len*(dD T e).2.length)).map (v.cells[·%v.cells.size]!):=by rw[K];simp
           rw[e0,Q];simp[newRow]
         . rw[if_neg K];simp only[Sem.run_bind,vK J h2,Sem.run_pure,qRa,Q];simp[newRow]
        refine⟨λα k q F=>?_⟩;refine⟨_,.value (.slice (some ⟨w.heap.size,0,none⟩) len len),.slice (some ⟨w.heap.size,0,none⟩) len len,w.alloc (.cells C' e),eG M β ss,λx=>if x=d then some (w.heap.size,0)else β x,F,by simp[run],.inl rfl,λl=>⟨?_,zV l,ou (wH (.inl (rM l _ (by simp))))⟩⟩;have I:=(o7 l).2;have:=r.fresh (d:=d) (blk:=.arr (dD T e).1 (dD T e).2 xs) (v:=.slice d (dD T e).2.length 0 len) (c:=.slice (some ⟨w.heap.size,0,none⟩) len len) (w':=w.alloc (.cells C' e)) (b:=w.heap.size) (o:=0) I Z (by simp) rfl rfl rfl (λk F=>alloc_old F) (qNr _) (by simp) ?_
        . exact this
        . intro β' h' V hh _ hv;refine⟨.arr _ _ xs w.heap.size 0 C' e (0,0) V zA (by omega) (zB _) k4 λi x j c g G=>?_,?_⟩
          . grind
          . have:=AR.slice (w:=w.alloc (.cells C' e)) (M:=eG M β ss) (β:=β') (h:=h') d 0 len _ _ xs w.heap.size 0 len hh (by omega) V (qNr _) (Room.mk (fr:=(0,0)) zA (by rw[qNz,qNz,k2,O];exact qNr _) (zB _));grind
      . exact dK.fail
    . exact dK.fail
  . exact dK.fail
end
end
section
variable {y:AV}{ks:List Kd}{xs:List PV}{c:Value}
section
variable {P:Program} {T:Tab} {w0:Base} {Pr M0 M:Nat->Prop} {β:Nat->Option (Nat × Nat)} {st:St} {a:Act} {w:World} {d:Option Nat}
theorem X7(ok:fB P T)(r:Rel w0 Pr M0 M β st a w){t:TypeId}{x:AV}{c1 c2:Value}(g:AR w M β (look st.heap) x c1)(W:AR w M β (look st.heap) y c2) :
    dK P w0 Pr M0 β st a w d (FC T d t x y) (do pure (.value (<- Instr.makeSlice t c1 c2))):=by
  unfold FC;split
  . rename_i d e S l R c E;have E:=ok.und E;rw[g.Ef,W.Ef];split
    . rename_i z n DN V Y F
      obtain⟨i,v,p,h2,J⟩:=ok.zero V;obtain⟨U,q,O⟩:=ok.size Y;rw[p]at q;cases q;obtain⟨U,q,q3⟩:=ok.bytes F
      rw[p]at q;cases q;refine dK.chk λI=>dK.chk λu=>?_;simp only[qBa,beq_iff_eq,qDa]at I u;obtain⟨⟨b1,H⟩,K⟩:=I;have K:=Nat.le_of_ble_eq_true K;obtain⟨l0,l1,Q⟩:=u;subst b1;have D:=Eh J H;obtain⟨zc,z1,z2,z3,z4⟩:=Dw J;have L:IntKind.i64.wrap l=l:=IntWalk.i64_in _ (by omega);have N:IntKind.i64.wrap c=c:=IntWalk.i64_in _ (by omega);have big:¬(2:Int)^48<(i.bytes:Int)*c:=by have p:(i.bytes:Int)*c<=16384*2147483648:=Int.mul_le_mul (by omega) Q (by omega) (by omega);omega
      have run:(Instr.makeSlice t (.int S l) (.int R c)).run P w=.ok (.slice (some ⟨w.heap.size,0,none⟩) l.toNat c.toNat) (w.alloc (.cells ((Array.range (c.toNat*(dD T e).2.length)).map (v.cells[·%v.cells.size]!)) e)):=by
       simp only[Instr.makeSlice,Sem.run_bind,eP E,qRa,asInt,asIntOf,Sem.run_pure,vX p,L,N];have c1:(decide (c<0)||decide ((i.bytes:Int)*c > 2^48)||decide (l<0)||decide (l > c))=false:=by grind
       rw[if_neg (by simpa using c1)];simp only[Sem.run_bind,run_askRoom,qRa,jm p,O];by_cases G:c.toNat*(dD T e).2.length=0
       . rw[if_pos G];have e0:(Array.range (c.toNat*(dD T e).2.length)).map ((#[]:Array Value)[·%(#[]:Array Value).size]!)=(Array.range (c.toNat*(dD T e).2.length)).map (v.cells[·%v.cells.size]!):=by rw[G];simp
         simp only[Sem.run_pure,qRa,newRow,Sem.run_bind,run_newObj,e0];rfl
       . rw[if_neg G];simp only[Sem.run_bind,vK p h2,Sem.run_pure,qRa];simp[newRow]
      have X:=r.aeN (ss:=[]) rfl (by simp) (d:=d) (sa:=(dD T e).1) (ks:=(dD T e).2) (xs:=List.replicate l.toNat z)
       (C:=(Array.range (c.toNat*(dD T e).2.length)).map (v.cells[·%v.cells.size]!)) (e:=e) (fr:=(0,0)) (len:=l.toNat) (cap:=c.toNat) (zB _)
       (λx g=>by simp at g;rw[g.2];exact H) (by simp) (by omega) (by simp) (by simp;exact Nat.mul_le_mul_right _ (by omega))
       (λi x j c' g Z=>by
         have hi:i<l.toNat:=by simpa using (qLa.1 g).1
         rw[List.getElem?_replicate,if_pos hi]at g;cases g;have B:=(qLa.1 Z).1;rw[gq H]at B;rw[LP D (by omega) B];grind)
      exact dK.ret (nv:=.value (.slice (some ⟨w.heap.size,0,none⟩) l.toNat c.toNat)) (by simp[run]) (.inl rfl) (λ_=>X) (λhf=>zV hf)
    . exact dK.fail
  . exact dK.fail
theorem ahD{b o n k:Nat}{f:Nat->Nat->Value}(z:∀ i j,i<n->j<k->w.cell? ⟨b,o+i*k+j,none⟩=some (f i j)) :
    ∃ C:Array Value,(loadCells ⟨b,o,none⟩ (n*k)).run P w=.ok C w/\C.size=n*k/\∀ i j,i<n->j<k->C.getD (i*k+j) undef=f i j:=by
  refine⟨_,yu (f:=λq=>f (q / k) (q%k)) ?_,by simp,?_⟩
  . intro q l;have p:0<k:=Nat.pos_of_ne_zero λe=>by subst e;simp at l
    have D:q / k<n:=(Nat.div_lt_iff_lt_mul p).2 l;have B:q%k<k:=qNm _ p;have:=z (q / k) (q%k) D B;have e:q / k*k+q%k=q:=by rw[Nat.mul_comm];exact Nat.div_add_mod q k
    grind
  . intro i j u r;have g:i*k+j<n*k:=by have:(i+1)*k<=n*k:=Nat.mul_le_mul_right _ u;grind
    unfold Array.getD;rw[dif_pos (by simpa using g)];simp only[Array.getInternal_eq_getElem,Array.getElem_ofFn];congr 1
    . rw[Nat.mul_comm,Nat.mul_add_div (by omega)];simp_all
    . exact acV r
def aaP(P:Program)(w:World)(M:Nat->Prop)(a:Bool)(ks:List Kd)(m:Nat)(ys:List PV)(c:Value):Prop:=
 (Builtin.lenOf c).run P w=.ok m w/\ys.length=m/\(∀ y∈ys,bY a ks y=true)/\∀ n,n<=m ->
   ∃ C:Array Value,(Builtin.firstCells ks.length n c).run P w=.ok C w/\C.size=n*ks.length/\∀(i:Nat) (x:PV) (j:Nat) (cc:PV),i<n->ys[i]?=some x->x.cells[j]?=some cc->VR w M cc (C.getD (i*ks.length+j) undef)
theorem LQ{a:Bool}(b o cap:Nat)(f:Nat->Nat->Value)(G:∀(i:Nat) (x:PV) (j:Nat) (c:PV),xs[i]?=some x->x.cells[j]?=some c->w.cell? ⟨b,o+i*ks.length+j,none⟩=some (f i j))
    (u:∀(i:Nat) (x:PV) (j:Nat) (c:PV),xs[i]?=some x->x.cells[j]?=some c->VR w M c (f i j))(p:∀ x∈xs,bY a ks x=true):aaP P w M a ks xs.length xs (.slice (some ⟨b,o,none⟩) xs.length cap):=by
  refine⟨by simp[Builtin.lenOf],rfl,p,λn F=>?_⟩;obtain⟨C,D,B,z⟩:=ahD (P:=P) (w:=w) (b:=b) (o:=o) (n:=n) (k:=ks.length) (f:=f) (λi j q l=>by have g:xs[i]?=some xs[i]:=qLd (by omega);have r:=gq (p _ (qLe g));grind);refine⟨C,by simpa[Builtin.firstCells] using D,B,λi x j E q g l=>?_⟩;have r:=gq (p _ (qLe g));have:=(qLa.1 l).1;rw[z i j q (by omega)];exact u i x j E g l
theorem wR{a:Bool}(base:Option Addr)(cap:Nat):aaP P w M a ks 0 [] (.slice base 0 cap):=by
 refine⟨by simp[Builtin.lenOf],rfl,by simp,λn g=>?_⟩;have:n=0:=by simpa using g
 subst this;refine⟨#[],?_,by simp,λi x j p l=>by omega⟩;cases base<;>simp[Builtin.firstCells,loadCells,loadCellsFrom]
theorem RD{v:PV}{a:Bool}(r:v=.list a ks xs\/v=.full a ks xs)(h:VR w M v c):aaP P w M a ks xs.length xs c:=by
 rcases r with rfl | rfl
 . cases h with
   | list _ _ _ b o cap f q u p l g=>exact LQ b o cap f p l g
   | wW _ _ base cap=>exact wR base cap
 . cases h with
   | full _ _ _ b o f q p l g=>exact LQ b o _ f p l g
   | SV _ _ base=>exact wR base 0
theorem Kq(r:Rel w0 Pr M0 M β st a w){h':Nat->Option bZ}(G:∀ s b,h' s=some b->look st.heap s=some b){s2:Option (Bool × List Kd)}{m:Nat}{ys:List PV}
    (B:AR w M β (look st.heap) y c)(u:YS h' y=some (s2,m,ys)){sa:Bool}(hsame:Iq s2 sa ks=true):aaP P w M sa ks m ys c:=by
  have same:∀(a':Bool) (g:List Kd),Iq (some (a',g)) sa ks=true->a'=sa/\g=ks:=by intro a' g h;simp only[Iq,qBa,beq_iff_eq]at h;exact⟨h.1.symm,(Kd.uD _ _ h.2).symm⟩
  unfold YS at u;split at u
  . rename_i s z off len;split at u
    . rename_i a' g xs F;have F:=G _ _ F;cases u;obtain⟨rfl,rfl⟩:=same _ _ hsame;cases B with
      | slice _ _ _ a1 Q N b o cap H I O p4 p5 =>
       rw[F]at H;cases H;have J:((xs.drop off).take m).length=m:=by simp;omega
       cases r.heap s _ F with
       | lU =>
        have:m=0:=by simp at I;omega
        subst this;simpa using wR (P:=P) (w:=w) (M:=M) (a:=a') (ks:=g) (some ⟨b,o+off*g.length,none⟩) cap
       | arr _ _ _ b' o' C e fr K V Y g4 U S =>
        rw[O]at K;cases K
        have:=LQ (P:=P) (w:=w) (M:=M) (a:=a') (ks:=g) (xs:=(xs.drop off).take m) b (o+off*g.length) cap (λi j=>C.getD (o+(off+i)*g.length+j) undef)
         (λi x j c l E=>by
           have l:=C9 l;have R:=(qLa.1 l).1;have hj':j<g.length:=by have:=gq (U x (qLe l));grind
           have X:(off+i+1)*g.length<=xs.length*g.length:=Nat.mul_le_mul_right _ R;rw[Nat.add_mul]at X;have h2:o+off*g.length+i*g.length+j=o+(off+i)*g.length+j:=by rw[Nat.add_mul];omega
           rw[h2];exact Dc V (by omega))
         (λi x j c l E=>S _ x j c (C9 l) E) (λx l=>U x (List.mem_of_mem_drop (List.mem_of_mem_take l)))
        grind
      | sliceE _ _ a1 Q N base H I=>simpa using wR (P:=P) (w:=w) (M:=M) (a:=a') (ks:=g) base 0
    . cases u
  . rename_i s off len;split at u
    . rename_i cs F;have F:=G _ _ F;split at u
      . rename_i kd vs L;cases u;obtain⟨rfl,rfl⟩:=same _ _ hsame;obtain⟨e1,Z⟩:=WY L;subst e1;cases B with
        | bslice _ _ _ W b o cap H I O p4 =>
         rw[F]at H;cases H;simp only[qLm]at I;have J:((vs.drop off).take m).length=m:=by simp;omega
         have leaf:∀ v∈vs,v.cells=[v]:=λv hv=>by have:=lg (Z v hv);cases v<;>first | rfl | simp[PV.leaf]at this
         cases r.heap s _ F with
         | box _ b' o' C e fr K V Y g4 U S =>
          rw[O]at K;cases K;simp only[qLm]at Y
          have:=LQ (P:=P) (w:=w) (M:=M) (a:=false) (ks:=[kd]) (xs:=(vs.drop off).take m) b (o+off) cap (λi j=>C.getD (o+(off+i)) undef)
           (λi x j c l E=>by
             have l:=C9 l;have R:=(qLa.1 l).1;rw[leaf x (qLe l)]at E;have D:j=0:=by grind
             subst D;have:=Dc (w:=w) V (i:=o+(off+i)) (by omega);grind)
           (λi x j c l E=>by
             have l:=C9 l;rw[leaf x (qLe l)]at E;have D:j=0:=by grind
             subst D;simp at E;subst E;have:=S (off+i) (.p x) (by simp[l]);cases this;assumption)
           (λx l=>by simpa[bY] using Z x (List.mem_of_mem_drop (List.mem_of_mem_take l)))
          grind
        | bsliceE _ _ W base H I=>simpa using wR (P:=P) (w:=w) (M:=M) (a:=false) (ks:=[kd]) base 0
      . cases u
    . cases u
  . cases u;obtain⟨rfl,rfl⟩:=same _ _ hsame;cases B with
    | p _ _ B=>exact RD (.inl rfl) B
  . cases u;obtain⟨rfl,rfl⟩:=same _ _ hsame;cases B with
    | p _ _ B=>exact RD (.inr rfl) B
  . cases u;cases B with
    | p _ _ B=>cases B with
    | nil =>exact wR none 0
  . rename_i s;cases u;obtain⟨rfl,rfl⟩:=same _ _ hsame;rw[B.WL];refine⟨by simp[Builtin.lenOf],by simp,?_,?_⟩
    . intro y B;obtain⟨b,_,rfl⟩:=List.mem_map.1 B;rfl
    . intro n hn;refine⟨(s.extract 0 n).data.map λb=>.int .u8 b.toNat,rfl,?_,?_⟩
      . simp_all
      . intro i x j cc R l E;rw[List.getElem?_map]at l;cases L:s.data.toList[i]? with
        | none=>rw[L]at l;simp at l
        | some q =>
         rw[L]at l;simp at l;subst l;have D:j=0:=by grind[PV.cells]
         subst D;simp[PV.cells]at E;subst E;have:((s.extract 0 n).data.map λb=>Value.int .u8 b.toNat).getD (i*1+0) undef=.int .u8 q.toNat:=by
          have X:(s.extract 0 n).data[i]?=some q:=by grind[ByteArray.data_extract,Array.getElem?_extract]
          simp_all
         show VR w M _ (((s.extract 0 n).data.map λb=>Value.int .u8 b.toNat).getD (i*1+0) undef);rw[this];exact .int _ _
  . cases u
end
end
section
section
variable {P:Program} {T:Tab} {w0:Base} {Pr M0 M:Nat->Prop} {β:Nat->Option (Nat × Nat)} {st:St} {a:Act} {w:World} {d:Option Nat}
theorem Rel.drew(r:Rel w0 Pr M0 M β st a w):Rel w0 Pr M0 M β st a w.drew:=
 r.world (qNr _) rfl rfl rfl (λ_ _ _=>rfl) (λ_ _ _ _ _ g=>g) (λ_ h=>h) (λ_ h=>.inl h)
def Kr:TypeDesc->Bool
 | .int _=>true
 | _=>false
def Kt(P:Program)(w:World)(M:Nat->Prop)(t2:TypeId)(v:Value)(a:Bool)(ks:List Kd)(m:Nat)(ys:List PV)(c:Value):Prop:=
 ys.length=m/\(∀ y∈ys,bY a ks y=true)/\∃(zeros:Bool) (dd:TypeDesc) (C:Array Value),P.underlying t2=some dd/\Kr dd=zeros /\
  C.size=m*ks.length/\(∀(i:Nat) (x:PV) (j:Nat) (cc:PV),ys[i]?=some x->x.cells[j]?=some cc->VR w M cc (C.getD (i*ks.length+j) undef)) /\
  (match zeros with
   | true=>∃ k,c=.int k (m:Int)/\(m:Int)<=2147483648/\(m*ks.length=0->C=#[])/\(m*ks.length≠0->C=Builtin.zeroCells v.cells m)
   | false=>(Builtin.lenOf c).run P w=.ok m w/\(Builtin.firstCells ks.length m c).run P w=.ok C w)
def StR(P:Program)(base:Option Addr)(n:Nat)(C:Array Value)(w w1:World):Prop:=
 match base with
 | some a=>(storeCells (a.add n) C.toList).run P w=.ok () w1
 | none=>w1=w
def aj0(P:Program)(v:Value)(ks:List Kd)(m:Nat)(c:Value)(C:Array Value)(zeros:Bool)(w:World):Prop:=
 match zeros with
 | true=>∃ k,c=.int k (m:Int)/\(m:Int)<=2147483648/\(m*ks.length=0->C=#[])/\(m*ks.length≠0->C=Builtin.zeroCells v.cells m)
 | false=>(Builtin.lenOf c).run P w=.ok m w
theorem ahE(n:Nat):∀(r c:Nat),Builtin.growBy n r c<=max c (2*n+192):=by
 intro r;induction r with
 | zero=>intro c;simp[Builtin.growBy];omega
 | succ r g=>grind[Builtin.growBy]
theorem N9(n c:Nat)(h:c<n):Builtin.nextslicecap n c<=2*n+192:=by
 unfold Builtin.nextslicecap;split
 . omega
 . split
   . omega
   . have:=ahE n 4 c;omega
theorem YX{n c b:Nat}(h:c<n)(l:n<=2147483648)(g:b<=16384):¬ Builtin.nextslicecap n c*b > 2^48:=by have p:=N9 n c h;have q:Builtin.nextslicecap n c*b<=4294967488*16384:=Nat.mul_le_mul (by omega) g;omega
theorem Kt.one{t2:TypeId}{v:Value}{sa:Bool}{ks:List Kd}{m:Nat}{ys:List PV}{c:Value}(h:Kt P w M t2 v sa ks m ys c):∀(C:Array Value),C.size=m*ks.length ->
    (∀(i:Nat) (x:PV) (j:Nat) (p:PV),ys[i]?=some x->x.cells[j]?=some p->VR w M p (C.getD (i*ks.length+j) undef))->∀ u∈C.toList,u.oneCell'=true:=by
  intro C L G u E;obtain⟨q,K⟩:=List.mem_iff_getElem?.1 E;have g:q<m*ks.length:=by grind
  have z:0<ks.length:=Nat.pos_of_ne_zero λe=>by rw[e]at g;simp at g
  have I:q / ks.length<m:=(Nat.div_lt_iff_lt_mul z).2 g;have H:q%ks.length<ks.length:=qNm _ z;have r:ys[q / ks.length]?=some (ys[q / ks.length]'(by rw[h.1];exact I)):=qLd _;have F:=h.2.1 _ (qLe r);have l:ks[q%ks.length]?=some ks[q%ks.length]:=qLd H;obtain⟨p,D,B,_⟩:=uU F l;have:=G _ _ _ _ r D;have e:q / ks.length*ks.length+q%ks.length=q:=by rw[Nat.mul_comm];exact Nat.div_add_mod q ks.length
  rw[e]at this;have J:C.getD q undef=u:=by simp_all
  rw[J]at this;exact this.one (lg B)
theorem Xa{ts:Array TypeId}{ty t t2 e:TypeId}{i:TypeInfo}{v:Value}{ks:List Kd}{base:Option Addr}{len cap m:Nat}{c:Value}{dd:TypeDesc}{zeros:Bool}{C:Array Value}{N:World}{nv:Value}
    (L:ts[0]?=some t)(h1:ts[1]?=some t2)(hu:P.underlying t=some (.slice e))(q:P.info? e=some i)(Q:i.zero=some v)(z:i.size=ks.length)(J:i.bytes<=16384)
    (hd:P.underlying t2=some dd)(u:Kr dd=zeros)(Z:len+m<=2147483648)
    (H:∀ w,aj0 P v ks m c C zeros w)
    (hF:∀ w',(w'=w\/w'=w.drew)->zeros=false->(Builtin.firstCells ks.length m c).run P w'=.ok C w')
    (D:len+m<=cap->nv=.slice base (len+m) cap/\StR P base (len*ks.length) C w N)
    (hgrow:cap<len+m->∀ E,len+m<=E->E=(Question.appendCap (len+m) cap e).cut (w.tape w.drawn (.appendCap (len+m) cap e))->∃ r:Array Value,(Builtin.firstCells ks.length len (.slice base len cap)).run P w.drew=.ok r w.drew /\
      nv=.slice (some ⟨w.heap.size,0,none⟩) (len+m) E/\N=w.drew.alloc (.cells (r++C++Builtin.zeroCells v.cells (E-(len+m))) e)) :
    (Builtin.append_ ts ty #[.slice base len cap,c]).run P w=.ok nv N:=by
  have H:=H w;unfold Builtin.append_;simp only[L,h1,show(#[Value.slice base len cap,c]:Array Value)[0]?=some (.slice base len cap) from rfl,show(#[Value.slice base len cap,c]:Array Value)[1]?=some c from rfl];simp only[Sem.run_bind,eP hu,qRa,jm q,eP hd,Sem.run_pure];cases dd with
  | int k0 =>
   simp only[Kr]at u;subst u;simp only[aj0]at H;obtain⟨k,rfl,S,q1,q2⟩:=H;have wl:IntKind.i64.wrap (m:Int)=m:=IntWalk.i64_in _ (by omega);have W:¬(m:Int)*(i.bytes:Int) > 2^48:=by have q1:(m:Int)*(i.bytes:Int)<=2147483648*16384:=Int.mul_le_mul S (by omega) (by omega) (by omega);omega
   have l:∀ w',(if m*ks.length=0 then pure #[]else do pure (Builtin.zeroCells (<- zeroValue e).cells m):Sem (Array Value)).run P w'=.ok C w':=by
    intro w';by_cases L:m*ks.length=0
    . simp_all
    . rw[if_neg L];simp only[Sem.run_bind,vK q Q,qRa,Sem.run_pure];rw[q2 L]
   simp only[if_true,asInt,asIntOf,Sem.run_bind,Sem.run_pure,qRa,wl];rw[if_neg (by omega)];simp only[Sem.run_bind,qRa,vX q];rw[if_neg W];simp only[Sem.run_bind,Sem.run_pure,qRa,qIt];by_cases G:len+m<=cap
   . obtain⟨K,B⟩:=D G;simp only[if_pos G,qBt,Bool.false_eq_true,if_false,z,l,Sem.run_bind,qRa];cases base with
     | none=>simp only[StR]at B;subst B;rw[K];rfl
     | some ad=>simp only[StR]at B;simp only[Sem.run_bind,B,qRa,Sem.run_pure,K]
   . have p:cap<len+m:=by omega
     have I:=N9 (len+m) cap p;have V:¬(((len+m:Nat):Int) > IntKind.i64.max/\(True\/i.bytes=0)):=by
      have:IntKind.i64.max=9223372036854775807:=by decide
      omega
     have U:¬ Builtin.nextslicecap (len+m) cap*i.bytes > 2^48:=YX p Z J
     simp only[if_neg G,Sem.run_bind,vX q,qRa];rw[if_neg V];simp only[Sem.run_bind,vX q,qRa];rw[if_neg U];simp only[Sem.run_bind,Sem.run_pure];rw[run_choose];simp only[Question.forced,Bool.false_eq_true,if_false,qRa,World.drew_eq,vX q,run_askRoom];have g:len+m<=(Question.appendCap (len+m) cap e).cut (w.tape w.drawn (.appendCap (len+m) cap e)):=Nat.le_add_right _ _;generalize F:(Question.appendCap (len+m) cap e).cut (w.tape w.drawn (.appendCap (len+m) cap e))=E at g;obtain⟨r,O,o2,o3⟩:=hgrow p E g F.symm;rw[z];simp only[O,qRa];simp only[qBt,Bool.false_eq_true,if_false,l,vK q Q,qRa];simp_all[newRow]
  | _ =>
   simp only[Kr]at u;subst u;simp only[aj0]at H;have l:∀ w',(w'=w\/w'=w.drew)->(Builtin.firstCells ks.length m c).run P w'=.ok C w':=λw' R=>hF w' R rfl;have Y:=l w (.inl rfl);have X:=l w.drew (.inr rfl);simp only[Bool.false_eq_true,if_false,Sem.run_bind,H,qRa];by_cases G:len+m<=cap
   . obtain⟨K,B⟩:=D G;simp only[if_pos G,qBf,if_true,z,Y,Sem.run_bind,qRa];cases base with
     | none=>simp only[StR]at B;subst B;rw[K];rfl
     | some ad=>simp only[StR]at B;simp only[Sem.run_bind,B,qRa,Sem.run_pure,K]
   . have p:cap<len+m:=by omega
     have I:=N9 (len+m) cap p;have V:¬(((len+m:Nat):Int) > IntKind.i64.max/\(False\/i.bytes=0)):=by
      have:IntKind.i64.max=9223372036854775807:=by decide
      omega
     have U:¬ Builtin.nextslicecap (len+m) cap*i.bytes > 2^48:=YX p Z J
     simp only[if_neg G,Sem.run_bind,vX q,qRa];rw[if_neg V];simp only[Sem.run_bind,vX q,qRa];rw[if_neg U];simp only[Sem.run_bind,Sem.run_pure];rw[run_choose];simp only[Question.forced,Bool.false_eq_true,if_false,qRa,World.drew_eq,vX q,run_askRoom];have g:len+m<=(Question.appendCap (len+m) cap e).cut (w.tape w.drawn (.appendCap (len+m) cap e)):=Nat.le_add_right _ _;generalize F:(Question.appendCap (len+m) cap e).cut (w.tape w.drawn (.appendCap (len+m) cap e))=E at g;obtain⟨r,O,o2,o3⟩:=hgrow p E g F.symm;rw[z];simp only[O,qRa];simp only[qBf,if_true,X,vK q Q,qRa];simp_all[newRow]
end
end
section
variable {A ys:List PV}{ks:List Kd}{sa:Bool}{t2:TypeId}{c v:Value}{m:Nat}
section
variable {P:Program} {T:Tab} {w0:Base} {Pr M0 M:Nat->Prop} {β:Nat->Option (Nat × Nat)} {st:St} {a:Act} {w:World} {d:Option Nat}
theorem aeP{B:List PV}{CA l CR:Array Value}(hA:CA.size=A.length*ks.length)(H:l.size=B.length*ks.length)(q:∀ x∈B,bY sa ks x=true)(r:∀ x∈A,bY sa ks x=true)
    (J:∀(i:Nat) (x:PV) (j:Nat) (g:PV),A[i]?=some x->x.cells[j]?=some g->VR w M g (CA.getD (i*ks.length+j) undef))
    (I:∀(i:Nat) (x:PV) (j:Nat) (g:PV),B[i]?=some x->x.cells[j]?=some g->VR w M g (l.getD (i*ks.length+j) undef)) :
    ∀(i:Nat) (x:PV) (j:Nat) (g:PV),(A++B)[i]?=some x->x.cells[j]?=some g->VR w M g ((CA++l++CR).getD (i*ks.length+j) undef):=by
  intro i x j g p G;by_cases E:i<A.length
  . rw[List.getElem?_append_left E]at p;have z:j<ks.length:=by have:=gq (r x (qLe p));grind
    have u:i*ks.length+j<CA.size:=by have:(i+1)*ks.length<=A.length*ks.length:=Nat.mul_le_mul_right _ E;grind
    have e:(CA++l++CR).getD (i*ks.length+j) undef=CA.getD (i*ks.length+j) undef:=by simp only[qAb];grind
    grind
  . rw[List.getElem?_append_right (by omega)]at p;have D:=(qLa.1 p).1;have z:j<ks.length:=by have:=gq (q x (qLe p));grind
    have F:i*ks.length+j=CA.size+((i-A.length)*ks.length+j):=by
     rw[hA];have:i=A.length+(i-A.length):=by omega
     grind
    have u:(i-A.length)*ks.length+j<l.size:=by have:(i-A.length+1)*ks.length<=B.length*ks.length:=Nat.mul_le_mul_right _ D;grind
    have e:(CA++l++CR).getD (i*ks.length+j) undef=l.getD ((i-A.length)*ks.length+j) undef:=by simp only[qAb];rw[F,Array.getElem?_append_left (by simp;omega),Array.getElem?_append_right (by omega)];simp
    grind
theorem Ei(g:Array Value)(n:Nat):(Builtin.zeroCells g n).size=n*g.size:=by simp[Builtin.zeroCells]
theorem Kt.both(L:Kt P w M t2 v sa ks m ys c)(B:Kt P w.drew M t2 v sa ks m ys c) :
    ∃(zeros:Bool) (dd:TypeDesc) (C:Array Value),P.underlying t2=some dd/\Kr dd=zeros/\C.size=m*ks.length /\
     (∀(i:Nat) (x:PV) (j:Nat) (G:PV),ys[i]?=some x->x.cells[j]?=some G->VR w M G (C.getD (i*ks.length+j) undef)) /\
     (∀ w',aj0 P v ks m c C zeros w')/\∀ w',(w'=w\/w'=w.drew)->zeros=false->(Builtin.firstCells ks.length m c).run P w'=.ok C w':=by
  obtain⟨b1,Y,zeros,dd,F,I,H,V,S,E⟩:=L;obtain⟨_,_,zeros',Q,r,q,p,U,R,D⟩:=B;rw[I]at q;cases q;rw[H]at p;subst p;have z:F=r:=by
   cases zeros with
   | true=>grind
   | false =>
    have O:=E.2;have N:=D.2;have l:∀(n:Nat) (c:Value),(∃ C,(Builtin.firstCells ks.length n c).run P w=.ok C w)->∀ C',(Builtin.firstCells ks.length n c).run P w.drew=.ok C' w.drew->(Builtin.firstCells ks.length n c).run P w=.ok C' w:=by
     intro n c ⟨C,u⟩ C' g;have loads:∀(a:Addr) (k i:Nat) (acc:Array Value) (C C':Array Value),(loadCellsFrom a i k acc).run P w=.ok C w->(loadCellsFrom a i k acc).run P w.drew=.ok C' w.drew->C=C':=by
      intro a k;induction k with
      | zero=>intro i acc C C' h h';simp[loadCellsFrom]at h h';rw[<- h,<- h']
      | succ k W =>
       intro i acc C C' h h';simp only[loadCellsFrom,Sem.run_bind,run_load]at h h';rw[World.cell?_drew]at h';cases K:w.cell? (a.add i)with
       | some x=>grind[qRa]
       | none =>
        rw[K]at h h';simp only at h h';have X:w.drew.farLoad P (a.add i) false=w.farLoad P (a.add i) false:=rfl;cases J:w.farLoad P (a.add i) (Mode.plain==Mode.atomic)with
        | error x=>rw[J]at h;simp at h
        | ok x=>grind[qRa]
     have:C=C':=by
      unfold Builtin.firstCells at u g;split at u
      . exact loads _ _ _ _ _ _ u g
      . grind[Sem.run_pure,Result.ok.injEq]
      . grind[Sem.run_pure,Result.ok.injEq]
      . simp at u
     grind
    have:=l m c ⟨F,O⟩ r N;grind
  subst z;refine⟨zeros,dd,F,I,H,V,S,?_,?_⟩
  . intro w';cases zeros with
    | true=>exact E
    | false =>simp only[aj0];have:=E.1;unfold Builtin.lenOf at this ⊢;split at this<;>simp_all
  . grind
theorem Oa{ts:Array TypeId}{ty t e:TypeId}{i:TypeInfo}{base:Option Addr}{len cap:Nat} 
    (U:ts[0]?=some t)(S:ts[1]?=some t2)(L:P.underlying t=some (.slice e))(O:P.info? e=some i)(K:i.zero=some v)(u:i.size=ks.length)(B:i.bytes<=16384)(r:v.cells.size=ks.length)
    (N:len+m<=2147483648)(hA:aaP P w.drew M sa ks len A (.slice base len cap))(E:Kt P w M t2 v sa ks m ys c)(D:Kt P w.drew M t2 v sa ks m ys c)(Q:cap<len+m) :
    ∃(C:Array Value) (g:Nat),(Builtin.append_ ts ty #[.slice base len cap,c]).run P w=.ok (.slice (some ⟨w.heap.size,0,none⟩) (len+m) g) (w.drew.alloc (.cells C e))/\len+m<=g/\C.size=g*ks.length /\
     (∀ x∈A++ys,bY sa ks x=true)/\(A++ys).length=len+m /\
     ∀(i:Nat) (x:PV) (j:Nat) (l:PV),(A++ys)[i]?=some x->x.cells[j]?=some l->VR w.drew M l (C.getD (i*ks.length+j) undef):=by
  obtain⟨a1,H,a3,a4⟩:=hA;obtain⟨CA,p1,F,J⟩:=a4 len (qNr _);have b1:=E.1;have b2:=E.2.1;obtain⟨zeros,dd,I,b3,Z,G,Y,X,W⟩:=E.both D;let g:=(Question.appendCap (len+m) cap e).cut (w.tape w.drawn (.appendCap (len+m) cap e));have p:len+m<=g:=Nat.le_add_right _ _;refine⟨CA++I++Builtin.zeroCells v.cells (g-(len+m)),g,?_,p,?_,?_,?_,?_⟩
  . refine Xa U S L O K u B b3 Z N (C:=I) X W (λh=>by omega) ?_;grind
  . simp only[Array.size_append,F,G,Ei,r];rw[<- Nat.add_mul,<- Nat.add_mul];grind
  . grind
  . simp[H,b1]
  . have V:∀(v:PV) (c:Value),VR w M v c->VR w.drew M v c:=λv c h=>VR.mono (w:=w) (w':=w.drew) (M':=M) (λb R=>⟨R,rfl⟩) h;exact aeP (by rw[F,H]) (by rw[G,b1]) b2 a3 (λi x j l q z=>J i x j l (by have:=(qLa.1 q).1;omega) q z) (λi x j l q z=>V _ _ (Y i x j l q z))
end
end
section
variable {sa:Bool}{ks:List Kd}{e:TypeId}{len:Nat}{c:Value}
section
variable {P:Program} {T:Tab} {w0:Base} {Pr M0 M:Nat->Prop} {β:Nat->Option (Nat × Nat)} {st:St} {a:Act} {w:World} {d:Option Nat}
theorem Rel.agi(r:Rel w0 Pr M0 M β st a w){d:Nat}{xs:List PV}{C:Array Value}{cap:Nat}
    (q:∀ x∈xs,bY sa ks x=true)(g:len<=xs.length)(l:len<=cap)(D:cap*ks.length<=C.size)(B:xs.length*ks.length<=C.size)
    (z:∀(i:Nat) (x:PV) (j:Nat) (c:PV),xs[i]?=some x->x.cells[j]?=some c->VR w.drew M c (C.getD (i*ks.length+j) undef)) :
    Rel w0 Pr M0 (eG M β []) (λx=>if x=d then some (w.heap.size,0)else β x) (st.apply (some d) {val:=.slice d ks.length 0 len,uz:=[(d,.arr sa ks xs)],new:=[d]}) (a.put (some d) (.slice (some ⟨w.heap.size,0,none⟩) len cap)) (w.drew.alloc (.cells C e)):=
  r.drew.aeN (ss:=[]) rfl (by simp) (fr:=(0,0)) (zB C) q g l D B λi x j c p u=>(z i x j c p u).plus []
theorem Rel.aj1(r:Rel w0 Pr M0 M β st a w){s z:Nat}{blk:bZ}{w':World}{p:Option (Nat × Nat)}{d:Option Nat}(aAG:s<ah)
    (H:w.heap.size<=w'.heap.size)(J:w'.os=w.os)(G:w'.tape=w.tape)(K:w'.output=w.output)
    (l:∀ k,k<w.heap.size->(∀ o,β s=some (k,o)->(look st.heap s).isSome=true->False)->w'.heap[k]?=w.heap[k]?)
    (I:∀ b n,b<w.heap.size->Room w b n->Room w' b n)
    (hp:∀ b o,p=some (b,o)->¬ M b/\b<w'.heap.size/\((w0.heap.size<=b\/Pr b)/\(w0.n0<=b\/ah<=s))/\(∀ s' F,s'≠s->(look st.heap s').isSome=true->β s'≠some (b,F)))
    (Y:∀(β':Nat->Option (Nat × Nat)) (h':Nat->Option bZ),β' s=p->h' s=some blk->(∀(v:PV) (c:Value),VR w M v c->VR w' M v c)->BR w' M β' h' s blk/\AR w' M β' h' (.slice s z 0 len) c) :
    Rel w0 Pr M0 M (λx=>if x=s then p else β x) (st.apply d {val:=.slice s z 0 len,uz:=[(s,blk)],cut:=[s]}) (a.put d c) w':=by
  have U:=r.strike (M':=M) [s] (λ_ h=>h) (λ_ h=>.inl h);have u:∀ x,(look (st.strike [s]).heap x).isSome=true->x≠s/\(look st.heap x).isSome=true:=by grind[iw]
  have L:∀ k,M k->w'.heap[k]?=w.heap[k]?:=λk g=>l k (r.iU k g) λo E D=>(r.own s k o D E).1 g;have S:Rel w0 Pr M0 M β (st.strike [s]) a w':=U.world H J G K (λk g q=>l k g λo E D=>by
   rcases q with q |⟨s',F,O,h4⟩ |⟨O,h4⟩
   . exact(r.own s k o D E).1 q
   . exact(u s' O).1 (r.inj s' s k F o (u s' O).2 D h4 E)
   . rcases(r.own s k o D E).2.2.1 with h | h;all_goals grind) (λk n _ g _ V=>I k n g V) (λ_ h=>h) (λ_ h=>.inl h)
  have B:look (st.strike [s]).heap s=none:=by rw[iw,if_pos (by simp)]
  obtain⟨N,X⟩:=Y (λx=>if x=s then p else β x) (λx=>if x=s then some blk else look (st.strike [s]).heap x) (by simp) (by simp) (λv c h=>h.mono λk g=>⟨g,L k g⟩);have R:=S.lay (s:=s) (blk:=blk) B (p:=p) (λb o e=>by grind) N;have W:look (put (st.strike [s]).heap s blk)=λx=>if x=s then some blk else look (st.strike [s]).heap x:=funext λx=>eH _ _ _ _
  have Q:=R.setEnv d (v:=.slice s z 0 len) (c:=c) (by grind);have Z:st.apply d {val:=.slice s z 0 len,uz:=[(s,blk)],cut:=[s]}={env:=Skm.setEnv (st.strike [s]).env d (.slice s z 0 len),heap:=put (jL [s] st.heap) s blk}:=rfl;rw[Z];refine Rel.congr Q (hp:=put (jL [s] st.heap) s blk) λx=>?_;show look (put (jL [s] st.heap) s blk) x=look (put (st.strike [s]).heap s blk) x;rw[eH,eH];by_cases h:x=s
  . grind
  . grind[jO,iw]
theorem agj(_ok:fB P T)(r:Rel w0 Pr M0 M β st a w){h':Nat->Option bZ}(hsub:∀ s b,h' s=some b->look st.heap s=some b){ts:Array TypeId}{ty t t2:TypeId}{i:TypeInfo}{v:Value}{dd:Nat}{x:AV}{cy:Value}
    {s2:Option (Bool × List Kd)}{m:Nat}{ys:List PV}
    (h0:ts[0]?=some t)(E:ts[1]?=some t2)(hu:P.underlying t=some (.slice e))(hi:P.info? e=some i)(hz:i.zero=some v)(V:i.size=ks.length)(X:i.bytes<=16384)(hzs:v.cells.size=ks.length)
    (l:AR w M β (look st.heap) x c)(Y:Iq s2 sa ks=true->Kt P w M t2 v sa ks m ys cy)(I:Iq s2 sa ks=true->Kt P w.drew M t2 v sa ks m ys cy) :
    dK P w0 Pr M0 β st a w (some dd) (Uz h' dd (sa,ks) x s2 m ys) (do pure (.value (<- Builtin.append_ ts ty #[c,cy]))):=by
  unfold Uz;refine dK.chk λhsame=>?_;have Y:=Y hsame;have I:=I hsame;have N:ys.length=m:=Y.1;have b2:=Y.2.1;obtain⟨zeros,td,F,b3,b4,b5,b6,b7,b8⟩:=Y.both I;have one:∀ u∈F.toList,u.oneCell'=true:=Y.one F b5 b6;have H:∀(base:Option Addr) (len cap:Nat) (w1:World),len+m<=2147483648->len+m<=cap->StR P base (len*ks.length) F w w1->(Builtin.append_ ts ty #[.slice base len cap,cy]).run P w=.ok (.slice base (len+m) cap) w1:=by intro base len cap w1 S hcap W;exact Xa h0 E hu hi hz V X b3 b4 S (C:=F) b7 b8 (λ_=>⟨rfl,W⟩) (λh=>by omega)
  split
  . rename_i s z off len;split
    . rename_i a' g xs hl0;have hl:=hsub _ _ hl0;refine dK.chk λK=>dK.chk λS=>?_;simp only[qBa,beq_iff_eq,qDa]at K S;obtain⟨rfl,hk2,D⟩:=K;have:=Kd.uD _ _ hk2;subst this;have D:s<100000:=(Nat.blt_eq▸D:_);have hi0:(look st.heap s).isSome=true:=by rw[hl];rfl
      have hA:aaP P w.drew M a' g len ((xs.drop off).take len) c:=
       Kq (P:=P) r.drew hsub (y:=.slice s z off len) (c:=c) (s2:=some (a',g)) (m:=len) (ys:=(xs.drop off).take len) (AR.mono (w:=w) (w':=w.drew) (M':=M) (β':=β) (h':=look st.heap) (λb hb=>⟨hb,rfl⟩) l λs blk _ h=>⟨blk,h,Like.refl _,rfl,λ_ _ _ _ h=>h⟩)
        (by simp only[YS,hl0]) (by simp[Iq,Kd.rO])
      have grow:∀(base:Option Addr) (cap:Nat),c=.slice base len cap->cap<len+m->dK P w0 Pr M0 β st a w (some dd) (.ret {val:=.slice s g.length 0 (len+m),uz:=[(s,.arr a' g ((xs.drop off).take len++ys))],cut:=[s]}) (do pure (.value (<- Builtin.append_ ts ty #[c,cy]))):=by
       intro base cap hc hgr;subst hc;obtain⟨C,BF,g1,L,U,g4,g5,g6⟩:=Oa (ty:=ty) h0 E hu hi hz V X hzs S hA Y I hgr;refine dK.ret (h5:=λ_=>wH (.inl D)) (h4:=λ_ s' Q=>if_neg (by simp only[ah]at Q;omega)) (M':=M) (β':=λx=>if x=s then some (w.heap.size,0)else β x) (nv:=.value (.slice (some ⟨w.heap.size,0,none⟩) (len+m) BF)) (by simp only[Sem.run_bind,g1,qRa,Sem.run_pure];rfl) (.inl rfl) λ_=>?_;refine r.aj1 D (p:=some (w.heap.size,0)) (w':=w.drew.alloc (.cells C e)) (by simp) rfl rfl rfl (λk K _=>alloc_old (w:=w.drew) K) (λk n K J=>J.of_block (alloc_old (w:=w.drew) K)) ?_ ?_
       . intro b o hp;cases hp;refine⟨λhM=>by have:=r.iU _ hM;omega,by simp,⟨.inl r.size,.inl (Nat.le_trans w0.le' r.size)⟩,λs' o' _ E h2=>by have:=(r.own s' _ o' E h2).2.1;omega⟩
       . intro β' Z AX hh hv;have hdr:∀(v:PV) (c:Value),VR w.drew M v c->VR (w.drew.alloc (.cells C e)) M v c:=λv c h=>h.mono λb hb=>⟨hb,alloc_old (w:=w.drew) (r.iU b hb)⟩;have B:(w.drew.alloc (.cells C e)).heap[w.heap.size]?=some (.cells C e):=zA (w:=w.drew);have hX:((xs.drop off).take len++ys).length*g.length<=C.size:=by rw[g5,U];exact Nat.mul_le_mul_right _ L
         refine⟨.arr a' g _ w.heap.size 0 C e (0,0) AX B (by omega) (zB C) g4 (λi x j c l hj=>by rw[qNz];exact hdr _ _ (g6 i x j c l hj)),?_⟩;have:=AR.slice (w:=w.drew.alloc (.cells C e)) (M:=M) (β:=β') (h:=Z) s 0 (len+m) a' g _ w.heap.size 0 BF hh (by omega) AX L (Room.mk (fr:=(0,0)) B (by rw[qNz,qNz,U];exact qNr _) (zB C));grind
      cases l with
      | slice _ _ _ a1 ks1 xs1 b o cap p1 p2 p3 p4 p5 =>
       rw[hl]at p1;cases p1;by_cases hfit:len+m<=cap
       . obtain⟨C,ce,fr,k1,k2,k3⟩:=p5.get;have hroom:o+off*g.length+len*g.length+F.toList.length<=C.size:=by have:(off+(len+m))*g.length<=(off+cap)*g.length:=Nat.mul_le_mul_right _ (by omega);grind
         have W:=uq (P:=P) (b:=b) (o:=o+off*g.length+len*g.length) (e:=ce) (fr:=fr) F.toList 0 w C k1 k3 (by simpa using hroom) one;rw[Nat.add_zero]at W;have q:=H (some ⟨b,o+off*g.length,none⟩) len cap _ S hfit (by simp only[StR,addr_add];exact W);refine dK.ret (h5:=λ_=>wH (.inl D)) (h4:=λ_ s' Q=>if_neg (by simp only[ah]at Q;omega)) (M':=M) (β':=λx=>if x=s then some (b,o+off*g.length)else β x) (nv:=.value (.slice (some ⟨b,o+off*g.length,none⟩) (len+m) cap)) (by simp only[Sem.run_bind,q,qRa,Sem.run_pure];rfl) (.inl rfl) λ_=>?_;have hbk:∀ k,k≠b->(jK w b (ku C (o+off*g.length+len*g.length) F.toList) ce fr).heap[k]?=w.heap[k]?:=λk K=>by grind[jK]
         obtain⟨o1,o2,o3⟩:=r.own s b o hi0 p3;refine r.aj1 D (p:=some (b,o+off*g.length)) (by simp[jK]) rfl rfl rfl (λk K hne=>hbk k λe=>by subst e;exact hne o p3 hi0) (λk n K J=>by
          by_cases hkb:k=b
          . subst hkb;obtain⟨C1,e1,fr1,E,h2,h3⟩:=J;rw[k1]at E;cases E;have G:=jh (vs:=F.toList) hroom;exact⟨_,ce,fr,EL (C':=ku C (o+off*g.length+len*g.length) F.toList) k1,by omega,λh=>(h3 h).size (by omega)⟩
          . exact J.of_block (hbk k hkb)) ?_ ?_
         . intro b' o' hp;cases hp;exact⟨o1,by simpa[jK] using o2,o3,λs' o' hne E h2=>hne (r.inj s' s b o' o E hi0 h2 p3)⟩
         . intro β' Z AX hh hv;have B:=EL (C':=ku C (o+off*g.length+len*g.length) F.toList) k1;have G:=jh (vs:=F.toList) hroom;have hopen:Open (ku C (o+off*g.length+len*g.length) F.toList) fr:=k3.size G;have hlen:((xs.drop off).take len).length=len:=by simp;omega
           refine⟨.arr a' g _ b _ _ ce fr AX B ?_ hopen ?_ ?_,?_⟩
           . rw[G,qLp,hlen,N,Nat.add_mul];grind
           . intro x l;rcases List.mem_append.1 l with l | l
             . exact hA.2.2.1 x l
             grind
           . intro i x j cc l hj;rw[wP hroom];by_cases hi:i<len
             . rw[List.getElem?_append_left (by omega)]at l;have hj':j<g.length:=by have:=gq (hA.2.2.1 x (qLe l));grind
               have E:(i+1)*g.length<=len*g.length:=Nat.mul_le_mul_right _ hi;rw[Nat.add_mul]at E;rw[if_neg (by omega)];have hx':=C9 l;cases r.heap s _ hl with
               | lU=>simp at hx'
               | arr _ _ _ b' o' C2 e2 fr2 g1 L U g4 g5 g6 =>rw[p3]at g1;cases g1;rw[k1]at L;cases L;have:=g6 _ x j cc hx' hj;rw[Nat.add_mul,<- Nat.add_assoc]at this;grind
             . rw[List.getElem?_append_right (by omega),hlen]at l;have hi':=(qLa.1 l).1;have hj':j<g.length:=by have:=gq (b2 x (qLe l));grind
               have e0:i*g.length=len*g.length+(i-len)*g.length:=by rw[<- Nat.add_mul];congr 1;omega
               have E:(i-len+1)*g.length<=ys.length*g.length:=Nat.mul_le_mul_right _ hi';rw[Nat.add_mul]at E;rw[if_pos (by simp only[Array.length_toList,b5];rw[N]at E;omega)];have e1:o+off*g.length+i*g.length+j-(o+off*g.length+len*g.length)=(i-len)*g.length+j:=by omega
               rw[e1];have:=hv _ _ (b6 _ x j cc l hj);simpa using this
           . have:=AR.slice (w:=jK w b (ku C (o+off*g.length+len*g.length) F.toList) ce fr) (M:=M) (β:=β') (h:=Z) s 0 (len+m) a' g _ b (o+off*g.length) cap hh (by simp;omega) AX hfit
               (Room.mk B (by rw[G,qNz];have:=k2;rw[Nat.add_mul]at this;omega) hopen)
             grind
       grind
      | sliceE _ _ a1 ks1 xs1 base p1 p2 =>
       by_cases R:m=0
       . subst R;have hCB:F.toList=[]:=by grind
         have q:=H base 0 0 w S (qNr _) (by
          cases base with
          | none=>rfl
          | some ad=>simp only[StR,hCB];rfl)
         refine dK.ret (h5:=λ_=>wH (.inl D)) (h4:=λ_ s' Q=>if_neg (by simp only[ah]at Q;omega)) (M':=M) (β':=λx=>if x=s then none else β x) (nv:=.value (.slice base 0 0)) (by simp only[Sem.run_bind,q,qRa,Sem.run_pure,Nat.add_zero];rfl) (.inl rfl) λ_=>?_;have O:ys=[]:=by simpa using N
         refine r.aj1 D (p:=none) (qNr _) rfl rfl rfl (λ_ _ _=>rfl) (λ_ _ _ h=>h) (λ_ _ h=>by cases h) ?_;intro β' Z AX hh hv;simp only[O,List.take_zero,List.append_nil]at hh ⊢;exact⟨.lU _ _,.sliceE s 0 _ _ [] base hh (by simp)⟩
       grind
    . exact dK.fail
  . refine dK.chk λS=>?_;simp only[qDa]at S;cases l with
    | p _ _ l=>cases l with
    | nil =>
     by_cases R:m=0
     . subst R;have q:=H none 0 0 w (by omega) (qNr _) rfl;have O:ys=[]:=by simpa using N
       subst O;have J:=r.ajY (d:=dd) (sa:=sa) (ks:=ks);exact dK.ret (nv:=.value (.slice none 0 0)) (by simp only[Sem.run_bind,q,qRa,Sem.run_pure,Nat.add_zero]) (.inl rfl) (λ_=>J) (λhf=>zV hf)
     . obtain⟨C,BF,g1,L,U,g4,g5,g6⟩:=Oa (ty:=ty) (len:=0) (A:=[]) h0 E hu hi hz V X hzs (by omega) (wR none 0) Y I (by omega);simp only[List.nil_append,qNz]at g1 L U g4 g5 g6;have J:=r.agi (d:=dd) (sa:=sa) (ks:=ks) (xs:=ys) (C:=C) (e:=e) (len:=m) (cap:=BF) g4 (by omega) L (by rw[U];exact qNr _) (by rw[g5,U];exact Nat.mul_le_mul_right _ L) g6;exact dK.ret (nv:=.value (.slice (some ⟨w.heap.size,0,none⟩) m BF)) (by simp only[Sem.run_bind,g1,qRa,Sem.run_pure]) (.inl rfl) (λ_=>J) (λhf=>zV hf)
  . rename_i a' g xs;refine dK.chk λK=>dK.chk λS=>?_;simp only[qBa,beq_iff_eq,qDa]at K S;obtain⟨rfl,hk2⟩:=K;have:=Kd.uD _ _ hk2;subst this;have hA:aaP P w.drew M a' g xs.length xs c:=by
     cases l with
     | p _ _ l=>exact RD (.inr rfl) (VR.mono (w:=w) (w':=w.drew) (M':=M) (λb hb=>⟨hb,rfl⟩) l)
    have hform:∃ base,c=.slice base xs.length xs.length:=by
     cases l with
     | p _ _ l=>cases l with
      | full _ _ _ b o f=>exact⟨_,rfl⟩
      | SV _ _ base=>exact⟨base,rfl⟩
    obtain⟨base,rfl⟩:=hform;by_cases R:m=0
    . subst R;have hx0:xs=[]:=List.length_eq_zero_iff.1 (by omega);subst hx0;have hCB:F.toList=[]:=by grind
      have q:=H base 0 0 w (by omega) (qNr _) (by
       cases base with
       | none=>rfl
       | some ad=>simp only[StR,hCB];rfl)
      have O:ys=[]:=by simpa using N
      subst O;have J:=r.ajY (d:=dd) (sa:=a') (ks:=g) base;exact dK.ret (nv:=.value (.slice base 0 0)) (by simp only[List.length_nil,Sem.run_bind,q,qRa,Sem.run_pure,Nat.add_zero]) (.inl rfl) (λ_=>J) (λhf=>zV hf)
    obtain⟨C,BF,g1,L,U,g4,g5,g6⟩:=Oa (ty:=ty) h0 E hu hi hz V X hzs S.2 hA Y I (by omega);have J:=r.agi (d:=dd) (sa:=a') (ks:=g) (xs:=xs++ys) (C:=C) (e:=e) (len:=xs.length+m) (cap:=BF) g4 (by omega) L (by rw[U];exact qNr _) (by rw[g5,U];exact Nat.mul_le_mul_right _ L) g6;exact dK.ret (nv:=.value (.slice (some ⟨w.heap.size,0,none⟩) (xs.length+m) BF)) (by simp only[Sem.run_bind,g1,qRa,Sem.run_pure]) (.inl rfl) (λ_=>J) (λhf=>zV hf)
  . exact dK.fail
end
end
section
variable {e t t2:TypeId}{c v:Value}{sa:Bool}{ks:List Kd}{b m o:Nat}{dd:TypeDesc}{h':Nat -> Option bZ}{C:Array Value}{fr:Nat × Nat}
section
variable {P:Program} {T:Tab} {w0:Base} {Pr M0 M:Nat->Prop} {β:Nat->Option (Nat × Nat)} {st:St} {a:Act} {w:World} {d:Option Nat}
theorem AR.drew{h:Nat->Option bZ}{x:AV}{c:Value}(g:AR w M β h x c):AR w.drew M β h x c:=
 AR.mono (w:=w) (w':=w.drew) (M':=M) (β':=β) (h':=h) (λ_ l=>⟨l,rfl⟩) g λ_ blk _ h=>⟨blk,h,Like.refl _,rfl,λ_ _ _ _ h=>h⟩
theorem Kt.aj2{ys:List PV}(F:P.underlying t2=some dd)(E:Kr dd=false)(h:aaP P w M sa ks m ys c):Kt P w M t2 v sa ks m ys c:=by obtain⟨q,p,l,g⟩:=h;obtain⟨C,z,u,r⟩:=g m (qNr _);refine⟨p,l,false,dd,C,F,E,u,λi x j G B D=>r i x j G ?_ B D,q,z⟩;grind
theorem Kt.agk{z:PV}{k:IntKind}(B:P.underlying t2=some dd)(u:Kr dd=true)(G:(m:Int)<=2147483648)(E:ofValue v=some z)(q:bY sa ks z=true) :
    Kt P w M t2 v sa ks m (List.replicate m z) (.int k (m:Int)):=by
  have g:=Eh E q;obtain⟨I,N,L,K,J⟩:=Dw E;refine⟨by simp,λy D=>by simp at D;rw[D.2];exact q,true,dd,if m*ks.length=0 then #[]else Builtin.zeroCells v.cells m,B,u,?_,?_,k,rfl,G,λh=>if_pos h,λh=>if_neg h⟩
  . grind[Ei]
  . intro i x j O p H;have F:i<m:=by simpa using (qLa.1 p).1
    rw[List.getElem?_replicate,if_pos F]at p;cases p;have l:=(qLa.1 H).1;rw[gq q]at l;have r:m*ks.length≠0:=by
     have B:0<m:=by omega
     have u:0<ks.length:=by omega
     exact Nat.ne_of_gt (Nat.mul_pos B u)
    rw[if_neg r];have:=LP (n:=m) g F l;have e:Builtin.zeroCells v.cells m=(Array.range (m*ks.length)).map (v.cells[·%v.cells.size]!):=by simp[Builtin.zeroCells,g]
    grind
theorem aeQ(ok:fB P T)(r:Rel w0 Pr M0 M β st a w)(l:∀ s b,h' s=some b->look st.heap s=some b){ts:Array TypeId}{ty:TypeId}{x y:AV}{V:Value}
    (R:ts[0]?=some t)(Q:ts[1]?=some t2)(N:AR w M β (look st.heap) x c)(F:AR w M β (look st.heap) y V) :
    dK P w0 Pr M0 β st a w d (NU T h' d t t2 x y) (do pure (.value (<- Builtin.append_ ts ty #[c,V]))):=by
  unfold NU;split
  . rename_i dd e D;have D:=ok.und D;split
    . rename_i z n DN Y Z I
      obtain⟨i,v,E,S,J⟩:=ok.zero Y;obtain⟨X,q,L⟩:=ok.size Z;rw[E]at q;cases q;obtain⟨X,q,q3⟩:=ok.bytes I
      rw[E]at q;cases q;refine dK.chk λO=>?_;simp only[qBa,beq_iff_eq]at O;obtain⟨b1,K,W⟩:=O;have W:=Nat.le_of_ble_eq_true W;subst b1;have u:=Eh J K;split
      . rename_i k0 g;have g:=ok.und g;split
        . rename_i k m;rw[F.Ef];refine dK.chk λhm=>?_;simp only[qBa,qDa]at hm;have e1:(m.toNat:Int)=m:=by omega
          rw[show Value.int k m=Value.int k (m.toNat:Int) from by rw[e1]];exact agj (sa:=(dD T e).1) (ks:=(dD T e).2) ok r l R Q D E S L (by omega) u N (λ_=>Kt.agk g rfl (by omega) J K) (λ_=>Kt.agk g rfl (by omega) J K)
        . exact dK.fail
      . rename_i U H g;have g:=ok.und g;have B:Kr U=false:=by cases U<;>first | rfl |(exact absurd rfl (H _))
        split
        . rename_i s2 m ys p;exact agj (sa:=(dD T e).1) (ks:=(dD T e).2) ok r l R Q D E S L (by omega) u N (λG=>Kt.aj2 g B (Kq r l F p G)) (λG=>Kt.aj2 g B (Kq r.drew l F.drew p G))
        . exact dK.fail
      . exact dK.fail
    . exact dK.fail
  . exact dK.fail
theorem ahF(st:St)(d:Option Nat)(v:AV)(s:Nat)(b:bZ):st.apply d {val:=v,uz:=[(s,b)]}={env:=Skm.setEnv st.env d v,heap:=put st.heap s b}:=rfl
theorem CU{i:TypeInfo}(r:P.info? t=some i)(g:c.cells.size=i.size)(l:w.heap[b]?=some (.cells C e fr))(p:Open C fr)
    (q:o+c.cells.size<=C.size)(z:∀ u∈c.cells.toList,u.oneCell'=true):(Instr.storeAt t (.pointer (some ⟨b,o,none⟩)) c).run P w=.ok () (jK w b (ku C o c.cells.toList) e fr):=by
  have:=uq (P:=P) (b:=b) (o:=o) c.cells.toList 0 w C l p (by simpa using q) z;simp only[Instr.storeAt,Instr.sureAddr,Sem.run_bind,Sem.run_pure,qRa,storeVar,jm r];rw[if_neg (by simpa using g)];simpa using this
theorem cells_one{cs:Array Value}(h:∀(j:Nat),j<cs.size->(cs.getD j undef).oneCell'=true):∀ u∈cs.toList,u.oneCell'=true:=by
 intro u l;obtain⟨j,p⟩:=List.mem_iff_getElem?.1 l;have g:=(qLa.1 p).1;have q:=h j (by simpa using g);have e:cs.getD j undef=u:=by simp_all
 rwa[e]at q
theorem Rel.al5(r:Rel w0 Pr M0 M β st a w){ss:List Nat}(hf:kC ss=true)(hlive:∀ s∈ss,(look st.heap s).isSome=true){s g off n:Nat}{xs:List PV}{x B:PV}{cs:List Value}{d:Option Nat}
    (Y:s ∉ ss)(hl:look st.heap s=some (.arr sa ks xs))(R:β s=some (b,o))(X:w.heap[b]?=some (.cells C e fr))(hn:o+xs.length*ks.length<=C.size)(Z:Open C fr)(F:∀ x∈xs,bY sa ks x=true)
    (Q:∀(i:Nat) (x:PV) (j:Nat) (c:PV),xs[i]?=some x->x.cells[j]?=some c->VR w M c (C.getD (o+i*ks.length+j) undef))(I:g<xs.length)(hcl:cs.length=n)(N:off+n<=ks.length)
    (W:bY sa ks B=true)(hcv:∀(j:Nat) (y:PV),x.cells[j]?=some y->VR w (eG M β ss) y (cs.getD j undef))(V:x.cells.length=n)
    (hcell:∀(j:Nat) (c:PV),B.cells[j]?=some c->(off<=j/\j<off+n/\x.cells[j-off]?=some c)\/((j<off\/off+n<=j)/\∃ D,(xs.getD g .nil).cells[j]?=some D/\∀ v,VR w M D v->VR w M c v)) :
    Rel w0 Pr M0 (eG M β ss) β (st.apply d {val:=.undef,uz:=[(s,.arr sa ks (xs.set g B))],Ip:=ss}) (a.put d undef) (jK w b (ku C (o+g*ks.length+off) cs) e fr):=by
  have S:=r.freeze [] ss hf hlive;have H:look (st.strike ([]++ss)).heap s=some (.arr sa ks xs):=by rw[iw,if_neg (by simpa using Y),hl];rfl
  have q:(g+1)*ks.length<=xs.length*ks.length:=Nat.mul_le_mul_right _ I;rw[Nat.add_mul]at q;have hroom:o+g*ks.length+off+cs.length<=C.size:=by omega
  have E:=S.write (s:=s) (b:=b) (o:=o) (blk:=.arr sa ks xs) (blk':=.arr sa ks (xs.set g B)) (C:=C) (C':=ku C (o+g*ks.length+off) cs) (e:=e) (fr:=fr) (w':=jK w b (ku C (o+g*ks.length+off) cs) e fr) H
   (by simp[Like]) R X rfl (jh hroom) rfl rfl rfl (λ_ u hself=>by
     refine .arr sa ks _ b o _ e fr R hself (by rw[jh hroom,List.length_set];exact hn) (Z.size (jh hroom)) ?_ ?_
     . grind
     . intro i y j c p O;rw[wP hroom];by_cases l:i=g
       . subst l;rw[List.getElem?_set_self I]at p;cases p;rcases hcell j c O with⟨U,L,K⟩ |⟨U,D,L,K⟩
         . grind
         . rw[if_neg (by omega)];have z:xs[i]?=some (xs.getD i .nil):=by simp[I]
           exact u _ _ ((K _ (Q i _ j D z L)).plus ss)
       . rw[List.getElem?_set_ne (λe=>l e.symm)]at p;have hj':j<ks.length:=by have:=gq (F y (qLe p));grind
         rw[if_neg ?_]
         . exact u _ _ ((Q i y j c p O).plus ss)
         . rcases Nat.lt_or_gt_of_ne l with G | J
           . have:(i+1)*ks.length<=g*ks.length:=Nat.mul_le_mul_right _ G;grind
           . have:(g+1)*ks.length<=i*ks.length:=Nat.mul_le_mul_right _ J;grind)
  exact E.setEnv d (v:=.undef) (c:=undef) (.undef _)
theorem ahG(ok:fB P T)(r:Rel w0 Pr M0 M β st a w)(G:∀ s b,h' s=some b->look st.heap s=some b){p v:AV}{cp H:Value}
    (hp:AR w M β (look st.heap) p cp)(I:AR w M β (look st.heap) v H):dK P w0 Pr M0 β st a w d (Ri T h' t p v) (do Instr.storeAt t cp H;pure .skip):=by
  unfold Ri;split
  . exact dK.fail
  . rename_i n hn;obtain⟨i,hi,hsz⟩:=ok.size hn;refine dK.chk λU=>?_;simp only[beq_iff_eq]at U;split
    . rename_i s q off;split
      . rename_i cs X;have K:=G _ _ X;refine dK.chk λN=>?_;simp only[qBa]at N;obtain⟨F,E,B⟩:=N;have B:=Nat.le_of_ble_eq_true B;obtain⟨g1,g2⟩:=I.cells F;cases hp with
        | ptrA _ _ _ a' ks xs b o R Q p3=>rw[K]at R;cases R
        | ptrB _ _ cs' b o R Q =>
         cases r.heap s _ K with
         | box _ b' o' C e fr k1 k2 k3 k4 k5 k6 =>
          rw[Q]at k1;cases k1;have J:=cells_one (cs:=H.cells) λj g=>(g2 j _ (qLd (by omega))).2.2;have z:=CU (P:=P) (o:=o+off) hi (by omega) k2 k4 (by omega) J;refine dK.ret (h5:=λ_=>wH (.inr ⟨_,K,by simp only[Like];rw[lV _ _ _ (by omega)]⟩)) (nv:=.skip) (c:=undef) (M':=M) (β':=β) (by simp only[Sem.run_bind,z,qRa,Sem.run_pure];rfl) (.inr ⟨rfl,rfl⟩) λ_=>?_;rw[ahF];have hroom:o+off+H.cells.toList.length<=C.size:=by simp;omega
          have D:off+v.cells.length<=cs.length:=by omega
          have rw1:=r.write (s:=s) (b:=b) (o:=o) (blk:=.box cs) (blk':=.box (patch cs off v.cells)) (C:=C) (C':=ku C (o+off) H.cells.toList) (e:=e) (fr:=fr) (w':=jK w b (ku C (o+off) H.cells.toList) e fr) K
           (by simp[Like,lV _ _ _ D]) Q k2 rfl (jh hroom) rfl rfl rfl (λL hk2 hself=>by
             refine .box _ b o _ e fr Q hself (by rw[jh hroom,lV _ _ _ D];exact k3) (k4.size (jh hroom)) ?_ ?_
             . intro c hc;obtain⟨j,g⟩:=List.mem_iff_getElem?.1 hc;rw[xI _ _ _ D]at g;grind
             . intro j c g;rw[xI _ _ _ D]at g;rw[wP hroom];simp only[Array.length_toList,g1];by_cases Y:off<=j/\j<off+v.cells.length
               . rw[if_pos Y]at g;rw[if_pos (by omega)];have e1:o+j-(o+off)=j-off:=by omega
                 simp_all
               grind)
          have:=rw1.setEnv d (v:=.undef) (c:=undef) (.undef _);exact this
      . rename_i a' ks xs X;have K:=G _ _ X;split
        . rename_i x ss hd;obtain⟨d1,d2⟩:=LM (λs b h=>r.heap s b (G s b h)) G hd I;cases hp with
          | ptrB _ _ cs' b o R Q=>rw[K]at R;cases R
          | ptrA _ _ _ a1 ks1 xs1 b o R Q p3 =>
           rw[K]at R;cases R;cases r.heap s _ K with
           | lU=>simp at Q
           | arr _ _ _ b' o' C e fr k1 k2 k3 k4 k5 k6 =>
            rw[p3]at k1;cases k1;have hget:xs[q]?=some (xs.getD q .nil):=by simp[Q]
            have hshape:=k5 _ (qLe hget);have hrow:(q+1)*ks.length<=xs.length*ks.length:=Nat.mul_le_mul_right _ Q;rw[Nat.add_mul]at hrow;have hcs:∀(hx:∀ c∈x.cells,c.leaf=true),H.cells.size=x.cells.length/\∀(j:Nat) (y:PV),x.cells[j]?=some y->VR w (eG M β ss) y (H.cells.getD j undef):=by
             intro hx;cases x with
             | agg cs =>
              cases d1 with
              | agg _ vs hn hl2 hc2=>exact⟨by simpa[Value.cells,PV.cells] using hn,λj y g=>hc2 j y g⟩
             | _ =>
              have e:=d1.NW rfl;refine⟨by rw[e];rfl,λj y g=>?_⟩;rw[e];cases j with
              | zero=>simp[PV.cells]at g;subst g;simpa using d1
              | succ j=>simp[PV.cells]at g
            have fin:∀(x':PV),(∀ c∈x.cells,c.leaf=true)->x.cells.length=n->off+n<=ks.length->s ∉ ss->bY a' ks x'=true ->
                (∀(j:Nat) (c:PV),x'.cells[j]?=some c->(off<=j/\j<off+n/\x.cells[j-off]?=some c)\/((j<off\/off+n<=j)/\∃ O,(xs.getD q .nil).cells[j]?=some O/\∀ v,VR w M O v->VR w M c v)) ->
                dK P w0 Pr M0 β st a w d (.ret {val:=.undef,uz:=[(s,.arr a' ks (xs.set q x'))],Ip:=ss}) (do Instr.storeAt t (.pointer (some ⟨b,o+q*ks.length+off,none⟩)) H;pure .skip):=by
              intro x' S V hoff hns hx' hcell;obtain⟨c1,c2⟩:=hcs S;have J:=cells_one (cs:=H.cells) λj g=>by have hj':x.cells[j]?=some (x.cells[j]'(by omega)):=qLd _;exact(c2 j _ hj').one (S _ (qLe hj'))
              have z:=CU (P:=P) (o:=o+q*ks.length+off) hi (by omega) k2 k4 (by omega) J;exact dK.ret (h5:=λ_=>wH (.inr ⟨_,K,by simp[Like]⟩)) (nv:=.skip) (c:=undef) (w':=jK w b (ku C (o+q*ks.length+off) H.cells.toList) e fr) (by simp only[Sem.run_bind,z,qRa,Sem.run_pure]) (.inr ⟨rfl,rfl⟩) λhf =>r.al5 hf d2 hns K p3 k2 k3 k4 k5 k6 Q (cs:=H.cells.toList) (by simp;omega) hoff hx' (λj y g=>by simpa using c2 j y g) V hcell
            cases a' with
            | true =>
             refine dK.chk λN=>?_;simp only[qBa,qBb]at N;obtain⟨F,E,B⟩:=N;have E:=Nat.le_of_ble_eq_true E;rw[iV]at B;obtain⟨m1,m2⟩:=nH F;have V:x.cells.length=n:=by rw[<- m1];simp;omega
             have S:∀ c∈x.cells,c.leaf=true:=by intro c hc;obtain⟨j,g⟩:=List.mem_iff_getElem?.1 hc;have hjn:=(qLa.1 g).1;have L:((ks.drop off).take n)[j]?=some (((ks.drop off).take n)[j]'(by omega)):=qLd _;exact lg (m2 j _ c L g)
             have hel:(kP ks (xs.getD q .nil) 0).length=ks.length:=by
              have:∀(l:List Kd) (y:PV) (o:Nat),(kP l y o).length=l.length:=by
               intro l;induction l with
               | nil=>intros;rfl
               | cons k r ih=>intro y o;simp[kP,ih]
              grind
             have D:off+x.cells.length<=(kP ks (xs.getD q .nil) 0).length:=by omega
             have cell:∀(j:Nat) (c:PV),(patch (kP ks (xs.getD q .nil) 0) off x.cells)[j]?=some c->(off<=j/\j<off+n/\x.cells[j-off]?=some c) \/
                 ((j<off\/off+n<=j)/\∃ k O,ks[j]?=some k/\(xs.getD q .nil).cells[j]?=some O/\kindOk k O=true/\c=eta k O):=by
               intro j c g;rw[xI _ _ _ D]at g;by_cases Y:off<=j/\j<off+x.cells.length
               . grind
               . rw[if_neg Y,AU]at g;cases L:ks[j]? with
                 | none=>rw[L]at g;simp at g
                 | some k =>rw[L]at g;simp only[Option.map_some,qNz,qOa]at g;obtain⟨O,q1,q2,q3⟩:=uU hshape L;exact .inr ⟨by omega,k,O,rfl,q1,q2,by rw[<- g,q3]⟩
             refine fin _ S V E B ?_ ?_
             . -- the shape of the new element
               have ayZ:=lV _ _ _ D;have key:∀(l:List Kd) (vs:List PV),l.length=vs.length->(∀(j:Nat) (k:Kd) (v:PV),l[j]?=some k->vs[j]?=some v->kindOk k v=true)->gV l vs=true:=by
                intro l;induction l with
                | nil=>intro vs h _;have:vs=[]:=by simpa using h.symm
                       subst this;rfl
                | cons k l ih =>
                 intro vs h h2;cases vs with
                 | nil=>simp at h
                 | cons v vs =>simp only[gV,qBa];exact⟨h2 0 k v (by simp) (by simp),ih vs (by simpa using h) λj k v L I=>h2 (j+1) k v (by simpa using L) (by simpa using I)⟩
               show gV ks (patch (kP ks (xs.getD q .nil) 0) off x.cells)=true;refine key _ _ (by omega) λj k v L I=>?_;rcases cell j v I with⟨q1,q2,q3⟩ |⟨q1,k',O,q2,q3,q4,rfl⟩
               . have:((ks.drop off).take n)[j-off]?=some k:=by rw[List.getElem?_take,if_pos (by omega),List.getElem?_drop];rw[show off+(j-off)=j from by omega];exact L
                 grind
               . rw[L]at q2;cases q2;exact ajP q4
             . intro j c g;rcases cell j c g with h |⟨q1,k',O,q2,q3,q4,rfl⟩
               . exact .inl h
               . exact .inr ⟨q1,O,q3,λv I=>IB q4 I⟩
            | false =>
             refine dK.chk λN=>?_;simp only[qBa,qBb]at N;obtain⟨F,E,B,hb4⟩:=N;have E:=Nat.eq_of_beq_eq_true E;have B:=Nat.eq_of_beq_eq_true B;rw[iV]at hb4;have hsl:=gq F;have hk1:ks.length=1/\x.leaf=true:=by
              match ks,F with
              |[k],h=>exact⟨rfl,lg (by simpa[bY] using h)⟩
             have W:x.cells=[x]:=by have:=hk1.2;cases x<;>first | rfl | simp[PV.leaf]at this
             refine fin x (by rw[W];simpa using hk1.2) (by rw[W,B];rfl) (by omega) hb4 F ?_;intro j c g;have:=(qLa.1 g).1;have hj0:j=0:=by rw[W]at this;simpa using this
             grind
        . exact dK.fail
      . exact dK.fail
    . rename_i k b0;split
      . rename_i j a0;refine dK.chk λN=>?_;simp only[qBa,beq_iff_eq,qDa]at N;obtain⟨rfl,rfl⟩:=N;have hn1:n=1:=by simpa[AV.cells,PV.cells] using U.symm
        cases hp with
        | p _ _ hp=>cases hp with
        | ref _ b o f hM K hc hvv ho =>
         cases I with
         | p _ _ I =>
          cases I;obtain⟨C,e,fr,h1,h2,h3⟩:=ho.get;have h2:o+1<=C.size:=h2;have hlt:o<C.size:=h2;have h0:=hvv 0 _ rfl;have hc0:=hc 0 _ rfl;simp only[Nat.add_zero]at hc0;have e0:f 0=.int j a0:=by generalize f 0=y at h0;cases h0;rfl
          have hval:C[o]=.int j a0:=by have:=Dc (b:=b) (i:=o) h1 (by omega);simp_all
          have z:=CU (P:=P) (o:=o) (c:=.int j a0) hi (by rw[hsz,hn1];rfl) h1 h3 (show o+1<=C.size from h2) (λu hu=>by simp[Value.cells]at hu;rw[hu];rfl);have hw:jK w b (ku C o (Value.int j a0).cells.toList) e fr=w:=by
           have e1:ku C o (Value.int j a0).cells.toList=C:=by
            apply Array.ext
            . rw[jh (by simp[Value.cells];omega)]
            . intro i h4 h5;have:=wP (C:=C) (k:=o) (vs:=(Value.int j a0).cells.toList) (by simp[Value.cells];omega) i;rw[qAb,Array.getElem?_eq_getElem h4,Option.getD_some]at this;rw[this];by_cases Z:o<=i/\i<o+(Value.int j a0).cells.toList.length
              . rw[if_pos Z];have:i=o:=by have h:=Z.2;simp[Value.cells]at h;omega
                simp_all[hval,Value.cells]
              . rw[if_neg Z,qAb,Array.getElem?_eq_getElem h5];rfl
           rw[e1,jK];have:w.heap.setIfInBounds b (Obj.cells C e fr)=w.heap:=by grind
           rw[this]
          rw[hw]at z;refine dK.ret (w':=w) (h5:=λ_=>P7) (nv:=.skip) (c:=undef) (M':=M) (β':=β) (by simp only[Sem.run_bind,z,qRa,Sem.run_pure]) (.inr ⟨rfl,rfl⟩) λ_=>?_;exact r.setEnv d (v:=.undef) (c:=undef) (.undef _)
      . exact dK.fail
    . exact dK.fail
end
end
section
variable {off s:Nat}{sa:Bool}{ks:List Kd}{xs ys:List PV}{C:Array Value}{v x:AV}{c:Value}{h':Nat -> Option bZ}{ts:Array TypeId}{t ty:TypeId}
section
variable {P:Program} {T:Tab} {w0:Base} {Pr M0 M:Nat->Prop} {β:Nat->Option (Nat × Nat)} {st:St} {a:Act} {w:World} {d:Option Nat}
theorem Rel.Xc(r:Rel w0 Pr M0 M β st a w){b o:Nat}{e:TypeId}{fr:Nat × Nat}{cs:List Value}{d:Option Nat}
    (N:look st.heap s=some (.arr sa ks xs))(G:β s=some (b,o))(I:w.heap[b]?=some (.cells C e fr))(L:o+xs.length*ks.length<=C.size)(K:Open C fr)(B:∀ x∈xs,bY sa ks x=true)
    (U:∀(i:Nat) (x:PV) (j:Nat) (c:PV),xs[i]?=some x->x.cells[j]?=some c->VR w M c (C.getD (o+i*ks.length+j) undef))(g:off+ys.length<=xs.length)(R:cs.length=ys.length*ks.length)
    (H:∀ y∈ys,bY sa ks y=true)(Q:∀(i:Nat) (y:PV) (j:Nat) (c:PV),ys[i]?=some y->y.cells[j]?=some c->VR w M c (cs.getD (i*ks.length+j) undef))(J:∀ w' h',AR w' M β h' v c) :
    Rel w0 Pr M0 M β (st.apply d {val:=v,uz:=[(s,.arr sa ks (patch xs off ys))]}) (a.put d c) (jK w b (ku C (o+off*ks.length) cs) e fr):=by
  have p:(off+ys.length)*ks.length<=xs.length*ks.length:=Nat.mul_le_mul_right _ g;rw[Nat.add_mul]at p;have hroom:o+off*ks.length+cs.length<=C.size:=by omega
  have u:=r.write (s:=s) (b:=b) (o:=o) (blk:=.arr sa ks xs) (blk':=.arr sa ks (patch xs off ys)) (C:=C) (C':=ku C (o+off*ks.length) cs) (e:=e) (fr:=fr) (w':=jK w b (ku C (o+off*ks.length) cs) e fr) N
   (by simp[Like,lV _ _ _ g]) G I rfl (jh hroom) rfl rfl rfl (λ_ O hself=>by
     refine .arr sa ks _ b o _ e fr G hself (by rw[jh hroom,lV _ _ _ g];exact L) (K.size (jh hroom)) ?_ ?_
     . intro y z;obtain⟨j,F⟩:=List.mem_iff_getElem?.1 z;rw[xI _ _ _ g]at F;grind
     . intro i y j c l F;rw[xI _ _ _ g]at l;rw[wP hroom];by_cases q:off<=i/\i<off+ys.length
       . rw[if_pos q]at l;have E:j<ks.length:=by have:=gq (H y (qLe l));grind
         have W:i*ks.length=off*ks.length+(i-off)*ks.length:=by rw[<- Nat.add_mul];congr 1;omega
         have S:(i-off+1)*ks.length<=ys.length*ks.length:=Nat.mul_le_mul_right _ (by omega);rw[Nat.add_mul]at S;rw[if_pos (by omega)];have V:o+i*ks.length+j-(o+off*ks.length)=(i-off)*ks.length+j:=by omega
         grind
       . rw[if_neg q]at l;have E:j<ks.length:=by have:=gq (B y (qLe l));grind
         rw[if_neg ?_]
         . grind
         . by_cases D:i<off
           . have:(i+1)*ks.length<=off*ks.length:=Nat.mul_le_mul_right _ D;grind
           . have:(off+ys.length)*ks.length<=i*ks.length:=Nat.mul_le_mul_right _ (by omega);grind)
  exact u.setEnv d (v:=v) (c:=c) (J _ _)
theorem Dx:patch xs off []=xs:=by simp[patch]
theorem Rel.aaQ(r:Rel w0 Pr M0 M β st a w){blk:bZ}{d:Option Nat}(l:look st.heap s=some blk)(g:∀ w' h',AR w' M β h' v c) :
    Rel w0 Pr M0 M β (st.apply d {val:=v,uz:=[(s,blk)]}) (a.put d c) w:=by
  have:=(r.setEnv d (v:=v) (c:=c) (g _ _)).congr (hp:=put st.heap s blk) (λx=>by grind[eH]);exact this
theorem acX(H:∀ y∈ys,bY sa ks y=true)(L:C.size=ys.length*ks.length)
    (G:∀(i:Nat) (x:PV) (j:Nat) (p:PV),ys[i]?=some x->x.cells[j]?=some p->VR w M p (C.getD (i*ks.length+j) undef)):∀ u∈C.toList,u.oneCell'=true:=by
  intro u E;obtain⟨q,K⟩:=List.mem_iff_getElem?.1 E;have g:q<ys.length*ks.length:=by grind
  have z:0<ks.length:=Nat.pos_of_ne_zero λe=>by rw[e]at g;simp at g
  have N:q / ks.length<ys.length:=(Nat.div_lt_iff_lt_mul z).2 g;have I:q%ks.length<ks.length:=qNm _ z;have r:ys[q / ks.length]?=some (ys[q / ks.length]'N):=qLd _;have F:=H _ (qLe r);have l:ks[q%ks.length]?=some ks[q%ks.length]:=qLd I;obtain⟨p,D,B,_⟩:=uU F l;have:=G _ _ _ _ r D;have e:q / ks.length*ks.length+q%ks.length=q:=by rw[Nat.mul_comm];exact Nat.div_add_mod q ks.length
  rw[e]at this;have J:C.getD q undef=u:=by simp_all
  rw[J]at this;exact this.one (lg B)
theorem aj3(ok:fB P T)(r:Rel w0 Pr M0 M β st a w)(D:∀ s b,h' s=some b->look st.heap s=some b){y:AV}{H:Value}
    (h0:ts[0]?=some t)(hx:AR w M β (look st.heap) x c)(V:AR w M β (look st.heap) y H) :
    dK P w0 Pr M0 β st a w d (Wu T h' t x y) (do pure (.value (<- Builtin.copy_ ts ty #[c,H]))):=by
  unfold Wu;split
  . rename_i e W;have W:=ok.und W;split
    . rename_i s z off len n hn;obtain⟨i,hi,X⟩:=ok.size hn;split
      . rename_i sa ks xs s2 m ys Y I;have F:=D _ _ Y;refine dK.chk λhb=>?_;simp only[qBa,beq_iff_eq]at hb;obtain⟨hb1,Z⟩:=hb;subst Z;obtain⟨q1,q2,q3,q4⟩:=Kq (P:=P) r D V I hb1;have E:Nat.min m len<=m:=Nat.min_le_left _ _;obtain⟨C0,p1,R,p3⟩:=q4 (Nat.min m len) E;have run:∀(base:Option Addr) (cap:Nat) (Q:World),StR P base 0 C0 w Q->(Builtin.copy_ ts ty #[.slice base len cap,H]).run P w=.ok (goInt (Nat.min m len:Nat)) Q:=by
         intro base cap Q q;unfold Builtin.copy_;simp only[h0,show(#[Value.slice base len cap,H]:Array Value)[0]?=some (.slice base len cap) from rfl,show(#[Value.slice base len cap,H]:Array Value)[1]?=some H from rfl];simp only[Sem.run_bind,eP W,qRa,q1,jm hi,X,p1];cases base with
         | none=>simp only[StR]at q;subst q;rfl
         | some ad =>
          simp only[StR]at q;have e:ad.add 0=ad:=by simp[Addr.add]
          rw[e]at q;simp only[Sem.run_bind,q,qRa];rfl
        have g:∀ w' h',AR w' M β h' (.p (.int .i64 (Nat.min m len:Nat))) (goInt (Nat.min m len:Nat)):=λ_ _=>.int _ _;have B:(ys.take (Nat.min m len)).length=Nat.min m len:=by rw[List.length_take,q2];exact Nat.min_eq_left E
        cases hx with
        | sliceE _ _ a1 S O base g1 g2 =>
         have u:Nat.min m 0=0:=Nat.min_zero m;have G:C0.toList=[]:=by simp_all
         have l:=run base 0 w (by
          cases base with
          | none=>rfl
          | some ad=>simp only[StR,G];rfl)
         refine dK.ret (h5:=λ_=>wH (.inr ⟨_,F,by simp only[Like,u,List.take_zero,Dx];exact⟨trivial,trivial,qNr _⟩⟩)) (nv:=.value (goInt (Nat.min m 0:Nat))) (M':=M) (β':=β) (by simp only[Sem.run_bind,l,qRa,Sem.run_pure];rfl) (.inl rfl) λ_=>?_;rw[u,List.take_zero,Dx];rw[u]at g;exact r.aaQ F g
        | slice _ _ _ a1 S O b o cap g1 g2 g3 g4 g5 =>
         rw[F]at g1;cases g1;have hle:Nat.min m len<=len:=Nat.min_le_right _ _;cases r.heap s _ F with
         | lU =>
          have U:len=0:=by simp at g2;omega
          subst U;have u:Nat.min m 0=0:=Nat.min_zero m;have G:C0.toList=[]:=by simp_all
          have l:=run (some ⟨b,o+off*ks.length,none⟩) cap w (by simp only[StR,G];rfl);refine dK.ret (h5:=λ_=>wH (.inr ⟨_,F,by simp only[Like,u,List.take_zero,Dx];exact⟨trivial,trivial,qNr _⟩⟩)) (nv:=.value (goInt (Nat.min m 0:Nat))) (M':=M) (β':=β) (by simp only[Sem.run_bind,l,qRa,Sem.run_pure];rfl) (.inl rfl) λ_=>?_;rw[u,List.take_zero,Dx];rw[u]at g;exact r.aaQ F g
         | arr _ _ _ b' o' C e' fr k1 k2 k3 k4 k5 k6 =>
          rw[g3]at k1;cases k1;have J:∀ y∈ys.take (Nat.min m len),bY sa ks y=true:=λy V=>q3 y (List.mem_of_mem_take V);have N:∀(i:Nat) (y:PV) (j:Nat) (c:PV),(ys.take (Nat.min m len))[i]?=some y->y.cells[j]?=some c->VR w M c (C0.getD (i*ks.length+j) undef):=by grind
          have L:=acX J (by rw[B];exact R) N;have K:(off+Nat.min m len)*ks.length<=xs.length*ks.length:=Nat.mul_le_mul_right _ (by omega);rw[Nat.add_mul]at K;have q:=uq (P:=P) (b:=b) (o:=o+off*ks.length) (e:=e') (fr:=fr) C0.toList 0 w C k2 k4 (by simp only[Array.length_toList,R];omega) L;have l:=run (some ⟨b,o+off*ks.length,none⟩) cap _ (by simp only[StR,addr_add,Nat.add_zero];exact q);refine dK.ret (h5:=λ_=>wH (.inr ⟨_,F,by simp only[Like];rw[lV _ _ _ (by rw[B];omega)];exact⟨trivial,trivial,qNr _⟩⟩)) (nv:=.value (goInt (Nat.min m len:Nat))) (M':=M) (β':=β) (by simp only[Sem.run_bind,l,qRa,Sem.run_pure];rfl) (.inl rfl) λ_=>?_;rw[Nat.add_zero];exact r.Xc F g3 k2 k3 k4 k5 k6 (by rw[B];omega) (by rw[B];simpa using R) J (λi y j c h1 h2=>by simpa using N i y j c h1 h2) g
      . exact dK.fail
    . exact dK.fail
  . exact dK.fail
theorem ahH(ok:fB P T)(r:Rel w0 Pr M0 M β st a w)(G:∀ s b,h' s=some b->look st.heap s=some b) 
    (h0:ts[0]?=some t)(hx:AR w M β (look st.heap) x c) :
    dK P w0 Pr M0 β st a w d (Rn T h' t x) (do pure (.value (<- Builtin.clear_ ts ty #[c]))):=by
  unfold Rn;split
  . rename_i e s z off len U;have U:=ok.und U;split
    . rename_i sa ks xs O V hz;have E:=G _ _ V;obtain⟨i,v,g1,g2,g3⟩:=ok.zero hz;refine dK.chk λW=>?_;have u:=Eh g3 W;obtain⟨zc,z1,z2,z3,z4⟩:=Dw g3;have q:∀ w' h',AR w' M β h' (.vM []) (.tuple #[]):=λ_ _=>.vM [] #[] rfl (λi c h=>by simp at h)
      have run:∀(base:Option Addr) (cap:Nat) (N:World),(len=0->N=w)->(len≠0->∃ X,base=some X/\(storeCells X (Builtin.zeroCells v.cells len).toList).run P w=.ok () N) ->
          (Builtin.clear_ ts ty #[.slice base len cap]).run P w=.ok (.tuple #[]) N:=by
        intro base cap N e1 e2;unfold Builtin.clear_;simp only[h0,show(#[Value.slice base len cap]:Array Value)[0]?=some (.slice base len cap) from rfl,Sem.run_bind,eP U,qRa];by_cases g:len=0
        . subst g;rw[e1 rfl];cases base<;>simp
        . obtain⟨X,rfl,D⟩:=e2 g;obtain⟨k,rfl⟩:=Nat.exists_eq_succ_of_ne_zero g;simp only[Sem.run_bind,vK g1 g2,qRa,D];rfl
      have nothing:len=0->∀(base:Option Addr) (cap:Nat),c=.slice base len cap->dK P w0 Pr M0 β st a w d (.ret {val:=.vM [],uz:=[(s,.arr sa ks (patch xs off (List.replicate len O)))]}) (do pure (.value (<- Builtin.clear_ ts ty #[c]))):=by intro g base cap hc;subst g;subst hc;have l:=run base cap w (λ_=>rfl) (λh=>absurd rfl h);refine dK.ret (h5:=λ_=>wH (.inr ⟨_,E,by simp only[Like,List.replicate_zero,Dx];exact⟨trivial,trivial,qNr _⟩⟩)) (nv:=.value (.tuple #[])) (M':=M) (β':=β) (by simp only[Sem.run_bind,l,qRa,Sem.run_pure];rfl) (.inl rfl) λ_=>?_;rw[List.replicate_zero,Dx];exact r.aaQ E q
      cases hx with
      | sliceE _ _ a1 S Q base R F=>exact nothing rfl base 0 rfl
      | slice _ _ _ a1 S Q b o cap R F Y p4 p5 =>
       rw[E]at R;cases R;by_cases g:len=0
       . grind
       . cases r.heap s _ E with
         | lU=>simp at F;omega
         | arr _ _ _ b' o' C e' fr k1 k2 k3 Z k5 k6 =>
          rw[Y]at k1;cases k1;have H:∀ y∈List.replicate len O,bY sa ks y=true:=λy hy=>by simp at hy;rw[hy.2];exact W
          have p:(Builtin.zeroCells v.cells len).size=len*ks.length:=by rw[Ei,u]
          have L:∀(i:Nat) (y:PV) (j:Nat) (c:PV),(List.replicate len O)[i]?=some y->y.cells[j]?=some c->VR w M c ((Builtin.zeroCells v.cells len).getD (i*ks.length+j) undef):=by
           intro i y j c B hj;have hi:i<len:=by simpa using (qLa.1 B).1
           rw[List.getElem?_replicate,if_pos hi]at B;cases B;have K:=(qLa.1 hj).1;rw[gq W]at K;have:=LP (n:=len) u hi K;have e:Builtin.zeroCells v.cells len=(Array.range (len*ks.length)).map (v.cells[·%v.cells.size]!):=by simp[Builtin.zeroCells,u]
           grind
          have J:=acX H (by rw[p];simp) L;have I:(off+len)*ks.length<=xs.length*ks.length:=Nat.mul_le_mul_right _ F;rw[Nat.add_mul]at I;have D:=uq (P:=P) (b:=b) (o:=o+off*ks.length) (e:=e') (fr:=fr) (Builtin.zeroCells v.cells len).toList 0 w C k2 Z (by simp only[Array.length_toList,p];omega) J;have l:=run (some ⟨b,o+off*ks.length,none⟩) cap _ (λh=>absurd h g) (λ_=>⟨_,rfl,D⟩);refine dK.ret (h5:=λ_=>wH (.inr ⟨_,E,by simp only[Like];rw[lV _ _ _ (by simpa using F)];exact⟨trivial,trivial,qNr _⟩⟩)) (nv:=.value (.tuple #[])) (M':=M) (β':=β) (by simp only[Sem.run_bind,l,qRa,Sem.run_pure];rfl) (.inl rfl) λ_=>?_;rw[Nat.add_zero];exact r.Xc E Y k2 k3 Z k5 k6 (by simpa using F) (by simp only[Array.length_toList,p,List.length_replicate]) H (λi y j c h1 h2=>by simpa using L i y j c h1 h2) q
    . exact dK.fail
  . exact dK.fail
end
end
section
variable {h:Nat -> Option bZ}{dst src:TypeId}{x:AV}{c:Value}
section
variable {P:Program} {T:Tab} {w0:Base} {Pr M0 M:Nat->Prop} {β:Nat->Option (Nat × Nat)} {st:St} {a:Act} {w:World} {d:Option Nat}
theorem aaR{fn:Fn}{first g:List AV}{z l:Array Value}(B:oW w M β h first z.toList)(r:oW w M β h g l.toList) :
    aJ P w M β h (Iw fn first g) (Instr.makeFunc fn z l):=by
  unfold Iw;split
  . rename_i f;have E:z=#[]:=by have:=B.1;grind
    subst E;split
    . rename_i vs hp;have D:=AQ hp;subst D;refine aJ.ret (c:=.func (.func f) #[] l) (.p _ _ (.fn f vs l (by have:=r.1;simpa using this.symm) λi c u=>?_)) (by simp[Instr.makeFunc]);have q:i<l.size:=by have:=r.1;grind
      have:=r.2 i (.p c) (l.getD i undef) (by simp[u]) (by simpa using getD_some q);cases this;assumption
    . refine aJ.chk λ_=>aJ.ret (c:=.func (.func f) #[] l) (.fn f g l (by have:=r.1;simpa using this.symm) λi c u=>?_) (by simp[Instr.makeFunc]);have q:i<l.size:=by have:=r.1;grind
      exact r.2 i c (l.getD i undef) u (by simpa using getD_some q)
  . exact aJ.fail
theorem aeR(w:World)(C:Array Value)(e:TypeId)(n:Nat):(w.alloc (.cells C e)).freeze ⟨w.heap.size,n,none⟩ 1=w.alloc (.cells C e (n,n+1)):=by simp only[World.freeze,World.alloc];rw[if_neg (by omega)];congr 1;grind
theorem aj6{e:TypeId}(E:P.underlying src=some (.slice e))(hd:P.underlying dst=some .string)(G:P.underlying e=some (.int .u8)){ys:List PV}{m l cap:Nat}{base:Option Addr}
    (h:aaP P w M false [.int .u8] m ys (.slice base l cap)):(convert src dst (.slice base l cap)).run P w=.ok (.string (bytesOf ys)) w:=by
  obtain⟨L,K,D,B⟩:=h;have F:m=l:=by simp_all[Builtin.lenOf]
  subst F;obtain⟨C,c1,c2,c3⟩:=B m (qNr m);rw[run_convert_bytes_string w src dst e base m cap E G hd];have N:∀(i:Nat) (y:PV),ys[i]?=some y->y=.int .u8 y.toInt/\C[i]?=some (.int .u8 y.toInt):=by
   intro i y q;have O:=(qLa.1 q).1;have u:=D y (qLe q);have z:y=.int .u8 y.toInt:=by cases y<;>simp[bY,kindOk]at u;subst u;rfl
   have p:=c3 i y 0 (.int .u8 y.toInt) (by omega) q (by rw[z];rfl);simp only[qLl,List.length_nil,qNz,Nat.mul_one,Nat.add_zero]at p;have g:i<C.size:=by rw[c2];simp;omega
   refine⟨z,?_⟩;rw[Array.getElem?_eq_getElem g];have I:C.getD i undef=C[i]:=by simp[Array.getD,g]
   rw[I]at p;cases r:C[i]<;>rw[r]at p<;>cases p;rfl
  have H:C=((ys.map PV.toInt).map (Value.int .u8)).toArray:=by apply Array.ext_getElem?;grind
  cases base with
  | none =>
   simp only[Builtin.firstCells,Sem.run_pure]at c1;cases c1;have:ys=[]:=by grind
   subst this;rfl
  | some J =>simp only[Builtin.firstCells,qLl,List.length_nil,qNz,Nat.mul_one]at c1;rw[H]at c1;rw[run_bytesToString w J m cap (ys.map PV.toInt) c1,foldl_push_bytes];congr 1;simp[bytesOf,ByteArray.empty,ByteArray.emptyWithCapacity,Function.comp_def];rfl
theorem aj7(p:AR w M β h x c)(g:anO x=true):∃ base l cap,c=.slice base l cap:=by
 cases p<;>simp[anO]at g
 . rename_i v q;cases v<;>simp at g;cases q<;>exact⟨_,_,_,rfl⟩
 all_goals simp
theorem acY(ok:fB P T)(r:Rel w0 Pr M0 M β st a w){h':Nat->Option bZ}(F:∀ s b,h' s=some b->look st.heap s=some b) 
    (E:AR w M β (look st.heap) x c):dK P w0 Pr M0 β st a w d (J4 T h' d src dst x) (do pure (.value (<- convert src dst c))):=by
  unfold J4;split
  . rename_i k n;rw[E.Ef];split
    . rename_i ds j g hd;have g:=ok.und g;have hd:=ok.und hd;refine dK.Rx r (aJ.ret (.int _ _) ?_);simp only[convert,Sem.run_bind,eP g,eP hd,qRa];rfl
    . exact dK.fail
  . rename_i s;rw[E.WL];split
    . rename_i ds g hd;have g:=ok.und g;have hd:=ok.und hd;refine dK.Rx r (aJ.ret (.str _) ?_);simp only[convert,Sem.run_bind,eP g,eP hd,qRa];rfl
    . rename_i e g hd;have g:=ok.und g;have hd:=ok.und hd;split
      . rename_i dd B;have B:=ok.und B;let cap:=(Question.appendCap s.size 0 e).cut (w.tape w.drawn (.appendCap s.size 0 e));have z:s.size<=cap:=Nat.le_add_right _ _;let C:Array Value:=(s.data.map λb=>Value.int .u8 b.toNat)++Array.replicate (cap-s.size) (.int .u8 0);have R:C.size=cap:=by have:s.data.size=s.size:=rfl;grind
        have I:(convert src dst (.string s)).run P w=.ok (.slice (some ⟨w.heap.size,0,none⟩) s.size cap) (w.drew.alloc (.cells C e (C.size,C.size+1))):=by
         simp only[convert,Sem.run_bind,eP g,eP hd,qRa,eP B,Conv.stringToBytes];rw[run_choose];simp only[Question.forced,Bool.false_eq_true,if_false,qRa,World.drew_eq,newRow,Sem.run_bind,run_newObj,Sem.run_pure,World.alloc_eq,markStringish,run_shape];have K:(w.drew.alloc (.cells C e)).shape? w.heap.size=some (e,C.size):=by simp only[World.shape?];have:=zA (w:=w.drew) (o:=.cells C e);simp_all
         have H:(w.drew.alloc (.cells ((s.data.map λb=>Value.int .u8 b.toNat)++Array.replicate ((Question.appendCap s.size 0 e).cut (w.tape w.drawn (.appendCap s.size 0 e))-s.size) (.int .u8 0)) e)).shape? w.drew.heap.size=some (e,C.size):=K;rw[H];simp only[run_freeze,qRa];have:=aeR w.drew C e C.size;rw[show(w.drew.alloc (.cells ((s.data.map λb=>Value.int .u8 b.toNat)++Array.replicate ((Question.appendCap s.size 0 e).cut (w.tape w.drawn (.appendCap s.size 0 e))-s.size) (.int .u8 0)) e)).freeze ⟨w.drew.heap.size,C.size,none⟩ 1=w.drew.alloc (.cells C e (C.size,C.size+1)) from this];rfl
        have u:(s.data.toList.map λb=>PV.int .u8 b.toNat).length=s.size:=by simp
        have S:=r.drew.aeN (ss:=[]) rfl (by simp) (d:=dd) (sa:=false) (ks:=[.int .u8]) (xs:=s.data.toList.map λb=>PV.int .u8 b.toNat) (C:=C) (e:=e) (fr:=(C.size,C.size+1)) (len:=s.size) (cap:=cap)
         (.inr (qNr _)) (λx E=>by
           obtain⟨b,_,rfl⟩:=List.mem_map.1 E;rfl) (by rw[u];exact qNr _) z (by rw[R];simp) (by rw[u,R];simpa using z) (λi x j c p Q=>by
           rw[List.getElem?_map]at p;cases D:s.data.toList[i]? with
           | none=>rw[D]at p;simp at p
           | some q =>
            rw[D]at p;simp at p;subst p;have N:j=0:=by grind[PV.cells]
            subst N;simp[PV.cells]at Q;subst Q;have O:s.data[i]?=some q:=by simpa using D
            have L:i<s.data.size:=(qAa.1 O).1;have:C.getD (i*1+0) undef=.int .u8 q.toNat:=by rw[qAb,Nat.mul_one,Nat.add_zero,Array.getElem?_append_left (by simpa using L),Array.getElem?_map,O];rfl
            show VR w.drew _ _ (C.getD (i*1+0) undef);rw[this];exact .int _ _)
        exact dK.ret (nv:=.value (.slice (some ⟨w.heap.size,0,none⟩) s.size cap)) (by simp only[Sem.run_bind,I,qRa,Sem.run_pure]) (.inl rfl) (λ_=>S) (λU=>zV U)
      . exact dK.fail
    . exact dK.fail
  . split
    . rename_i e g hd;have g:=ok.und g;have hd:=ok.und hd;split
      . rename_i s2 m ys B G;have B:=ok.und B;refine dK.chk λD=>?_;rw[qBa]at D;obtain⟨base,l,cap,rfl⟩:=aj7 E D.2;have J:=Kq (P:=P) r F E G D.1;refine dK.Rx r (aJ.ret (.str _) ?_);exact aj6 g hd B J
      . exact dK.fail
    . exact dK.fail
end
end
section
variable {c:Value}{bl:List bZ}{w:World}{M:Nat->Prop}{x:PV}
def mF(gl:Option (List (Nat × Obj)))(a b:Nat):Prop:=gl=none->a<=b
theorem mF.refl(gl:Option (List (Nat × Obj)))(a:Nat):mF gl a a:=λ_=>qNr _
theorem mF.trans{gl:Option (List (Nat × Obj))}{a b c:Nat}(h:mF gl a b)(k:mF gl b c):mF gl a c:=λe=>Nat.le_trans (h e) (k e)
inductive He (T:Tab) (w:World) (M:Nat->Prop) (β:Nat->Option (Nat × Nat)) (h:Nat->Option bZ):nC->TypeId->AV->Value->Option (Nat × Nat)->Prop
 | deep (t:TypeId) (x:PV) (c:Value) (hs:bY (dD T t).1 (dD T t).2 x=true) (hv:VR w M x c):He T w M β h .deep t (.p x) c none
 | fresh (t e : TypeId) (xs : List PV) (c : Value) (p : Option (Nat × Nat)) (hu : und T t = some (.slice e))
     (hb:BR w M (λ_=>p) (λ_=>some (.arr (dD T e).1 (dD T e).2 xs)) 0 (.arr (dD T e).1 (dD T e).2 xs))
     (hv:AR w M (λ_=>p) (λ_=>some (.arr (dD T e).1 (dD T e).2 xs)) (.slice 0 (dD T e).2.length 0 xs.length) c) :
     He T w M β h .fresh t (.fresh (dD T e).1 (dD T e).2 xs) c p
 | alias (j : Nat) (t e : TypeId) (off len : Nat) (c : Value) (hu : und T t = some (.slice e))
     (hv:AR w M β h (.slice (ah+j) (dD T e).2.length off len) c):He T w M β h (.alias j) t (.slice (ah+j) (dD T e).2.length off len) c none
 | func (g:Nat) (qs:List (Bool × List Kd)) (t:TypeId) (cs:List PV) (c:Value) (hs:JU qs cs=true) (hv:VR w M (.fn g cs) c):He T w M β h (.func g qs) t (.p (.fn g cs)) c none
inductive FK (T:Tab) (w:World) (M:Nat->Prop) (β:Nat->Option (Nat × Nat)) (h:Nat->Option bZ):List nC->List TypeId->List AV->List Value->List (Option (Nat × Nat))->Prop
 | nil (ms:List nC):FK T w M β h ms [] [] [] []
 | cons (ms : List nC) (t : TypeId) (ts : List TypeId) (v : AV) (vs : List AV) (c : Value) (cs : List Value) (p : Option (Nat × Nat)) (ps : List (Option (Nat × Nat)))
     (h1:He T w M β h (ms.headD .deep) t v c p) (h2:FK T w M β h ms.tail ts vs cs ps)
     (h3:∀ b o o',p=some (b,o)->some (b,o') ∉ ps):FK T w M β h ms (t::ts) (v::vs) (c::cs) (p::ps)
def BN:List Value->Value
 |[c]=>c
 | cs=>.tuple cs.toArray
structure Ku (gl:Option (List (Nat × Obj))) (T:Tab) (fi:FI) (w:World) (M:Nat->Prop) (β:Nat->Option (Nat × Nat)) (bl:List bZ) (rs:List AV) (nJ:List bZ) (w':World) (M':Nat->Prop) (cs:List Value) (ps:List (Option (Nat × Nat))):Prop where
 res:FK T w' M' β (look (iW 0 nJ)) fi.cfg.rets fi.fn.resultTypes.toList rs cs ps
 own:∀ b o,some (b,o)∈ps->¬ M' b/\b<w'.heap.size/\w.heap.size<=b
 res2:fi.cfg.D9=false->fi.cfg.shares=false->∃ M2:Nat->Prop,(∀ b,M2 b->M' b/\w.heap.size<=b)/\FK T w' M2 β (look (iW 0 nJ)) fi.cfg.rets fi.fn.resultTypes.toList rs cs ps
 iU:∀ b,M b->M' b
 oD:∀ b,M' b->M b\/w.heap.size<=b
 mlt:∀ b,M' b->b<w'.heap.size
 keep:∀ b,b<w.heap.size->(∀ i o,i<bl.length->β (ah+i)≠some (b,o))->w'.heap[b]?=w.heap[b]?
 room:∀ b n,b<w.heap.size->Room w b n->Room w' b n
 size:w.heap.size<=w'.heap.size
 os:w'.os=w.os
 tape:w'.tape=w.tape
 output:w'.output=w.output
 drawn:mF gl w.drawn w'.drawn
 len:nJ.length=bl.length
 blk:∀ i b0 b1,bl[i]?=some b0->nJ[i]?=some b1->BR w' M' β (look (iW 0 nJ)) (ah+i) b1/\Like b0 b1/\backOk b0 b1=true/\iI b1=true
structure wI (w:World) (M:Nat->Prop) (β:Nat->Option (Nat × Nat)) (args:List AV) (bl:List bZ) (bF:Array Value):Prop where
 num:bF.size=args.length
 args:∀ i v,args[i]?=some v->AR w M β (look (iW 0 bl)) v (bF.getD i undef)
 blk:∀ i b0,bl[i]?=some b0->BR w M β (look (iW 0 bl)) (ah+i) b0
 own:∀ i b o,i<bl.length->β (ah+i)=some (b,o)->¬ M b/\b<w.heap.size
 inj:∀ i j b o o',i<bl.length->j<bl.length->β (ah+i)=some (b,o)->β (ah+j)=some (b,o')->i=j
 iU:∀ b,M b->b<w.heap.size
structure aaS (w:World) (M:Nat->Prop) (β:Nat->Option (Nat × Nat)) (args:List AV) (bl:List bZ) (bF:Array Value):Prop where
 num:bF.size=args.length
 args:∀ i v,args[i]?=some v->AR w M β (look (sH bl)) v (bF.getD i undef)
 blk:∀ s b,look (sH bl) s=some b->BR w M β (look (sH bl)) s b
 own:∀ s b o,(look (sH bl) s).isSome=true->β s=some (b,o)->¬ M b/\b<w.heap.size
 inj:∀ s s' b o o',(look (sH bl) s).isSome=true->(look (sH bl) s').isSome=true->β s=some (b,o)->β s'=some (b,o')->s=s'
 iU:∀ b,M b->b<w.heap.size
structure agl (gl:Option (List (Nat × Obj))) (T:Tab) (fi:FI) (w:World) (M:Nat->Prop) (β:Nat->Option (Nat × Nat)) (a:Bool) (ks:List Kd) (xs:List PV) (rs:List AV) (nJ:List bZ) (w':World) (M':Nat->Prop) (cs:List Value):Prop where
 res:∃ β' h' ps,FK T w' M' β' h' fi.cfg.rets fi.fn.resultTypes.toList rs cs ps/\∀ p∈ps,p=none
 iU:∀ b,M b->M' b
 oD:∀ b,M' b->M b\/w.heap.size<=b\/∃ o,β 99999=some (b,o)
 mlt:∀ b,M' b->b<w'.heap.size
 keep:∀ b,b<w.heap.size->(∀ o,β ah≠some (b,o))->(∀ o,β 99999≠some (b,o))->w'.heap[b]?=w.heap[b]?
 size:w.heap.size<=w'.heap.size
 os:w'.os=w.os
 tape:w'.tape=w.tape
 output:w'.output=w.output
 drawn:mF gl w.drawn w'.drawn
 back:∃ off len ys bb bo C e fr p,nJ=[.box [.slice 99999 ks.length off len],.arr a ks ys]/\β ah=some (bb,bo)/\¬ M' bb/\w'.heap[bb]?=some (.cells C e fr)/\bo+1<=C.size/\Open C fr /\
  AR w' M' (λ_=>p) (λ_=>some (.arr a ks ys)) (.slice 0 ks.length off len) (C.getD bo undef)/\BR w' M' (λ_=>p) (λ_=>some (.arr a ks ys)) 0 (.arr a ks ys) /\
  (∀ b o,p=some (b,o)->¬ M' b/\b<w'.heap.size/\b≠bb/\(w.heap.size<=b\/∃ o',β 99999=some (b,o')))
structure UC (w:World) (M:Nat->Prop) (β:Nat->Option (Nat × Nat)) (args:List AV) (b1:bZ) (bF:Array Value):Prop where
 num:bF.size=args.length
 args:∀ i v,args[i]?=some v->AR w M β (look [(99999,b1)]) v (bF.getD i undef)
 blk:BR w M β (look [(99999,b1)]) 99999 b1
 own:∀ b o,β 99999=some (b,o)->¬ M b/\b<w.heap.size
 iU:∀ b,M b->b<w.heap.size
structure acZ (gl:Option (List (Nat × Obj))) (T:Tab) (fi:FI) (w:World) (M:Nat->Prop) (β:Nat->Option (Nat × Nat)) (rs:List AV) (w':World) (M':Nat->Prop) (cs:List Value) (ps:List (Option (Nat × Nat))):Prop where
 res:∃ β' h',FK T w' M' β' h' fi.cfg.rets fi.fn.resultTypes.toList rs cs ps
 own:∀ b o,some (b,o)∈ps->¬ M' b/\b<w'.heap.size/\(w.heap.size<=b\/∃ o',β 99999=some (b,o'))
 iU:∀ b,M b->M' b
 oD:∀ b,M' b->M b\/w.heap.size<=b\/∃ o,β 99999=some (b,o)
 mlt:∀ b,M' b->b<w'.heap.size
 keep:∀ b,b<w.heap.size->(∀ o,β 99999≠some (b,o))->w'.heap[b]?=w.heap[b]?
 size:w.heap.size<=w'.heap.size
 os:w'.os=w.os
 tape:w'.tape=w.tape
 output:w'.output=w.output
 drawn:mF gl w.drawn w'.drawn
structure jT (P:Program) (T:Tab) (gl:Option (List (Nat × Obj))) (C:aH):Prop where
 plain:∀ f fi args bl rs nJ,dZ T.funcs f=some fi->(∀ b∈bl,iI b=true)->C f args bl=some (rs,nJ)->(∃ c,fi.fn.body=some c) /\
  ∀ (w:World) (M:Nat->Prop) (β:Nat->Option (Nat × Nat)) (bF:Array Value),(∀ p∈gl.getD [],M p.1/\w.heap[p.1]?=some p.2)->wI w M β args bl bF ->
   Calls P f bF w λe w'=>∃ cs ps M',e=.returned (BN cs)/\Ku gl T fi w M β bl rs nJ w' M' cs ps
 var:∀ f fi args z off len a ks xs rs nJ,dZ T.funcs f=some fi->fi.cfg.vcall=true->C f args [.box [.slice 99999 z off len],.arr a ks xs]=some (rs,nJ)->(∃ c,fi.fn.body=some c) /\
  ∀ (w:World) (M:Nat->Prop) (β:Nat->Option (Nat × Nat)) (bF:Array Value),(∀ p∈gl.getD [],M p.1/\w.heap[p.1]?=some p.2)->aaS w M β args [.box [.slice 99999 z off len],.arr a ks xs] bF ->
   Calls P f bF w λe w'=>∃ cs M',e=.returned (BN cs)/\agl gl T fi w M β a ks xs rs nJ w' M' cs
 take:∀ f fi args a ks xs rs nJ,dZ T.funcs f=some fi->fi.cfg.take=true->C f args [.log false [],.arr a ks xs]=some (rs,nJ)->(∃ c,fi.fn.body=some c) /\
  ∀ (w:World) (M:Nat->Prop) (β:Nat->Option (Nat × Nat)) (bF:Array Value),(∀ p∈gl.getD [],M p.1/\w.heap[p.1]?=some p.2)->UC w M β args (.arr a ks xs) bF ->
   Calls P f bF w λe w'=>∃ cs ps M',e=.returned (BN cs)/\acZ gl T fi w M β rs w' M' cs ps
 glob:∀ w:World,(∀ p∈gl.getD [],w.heap[p.1]?=some p.2)->T.glob gl.isSome w
theorem ahI:∀(k i:Nat),look (iW k bl) (ah+(k+i))=bl[i]?:=by
 induction bl with
 | nil=>intro k i;simp[iW,look]
 | cons b r g =>
  intro k i;cases i with
  | zero=>simp[iW,look]
  | succ i =>
   have:(ah+k==ah+(k+(i+1)))=false:=by simp
   simp only[iW,look,this,qCf];rw[show k+(i+1)=(k+1)+i from by omega,g];simp
theorem wS(i:Nat):look (iW 0 bl) (ah+i)=bl[i]?:=by have:=ahI (bl:=bl) 0 i;grind
theorem ac0:∀{bl:List bZ} {k s:Nat} {b:bZ},look (iW k bl) s=some b->∃ i,i<bl.length/\s=ah+(k+i)
 |[],k,s,b,h=>by simp[iW,look]at h
 | x::r,k,s,b,h=>by
  simp only[iW,look]at h;cases g:ah+k==s with
  | true=>exact⟨0,by simp,(by simpa using g:ah+k=s).symm⟩
  | false =>rw[g]at h;obtain⟨i,l,p⟩:=ac0 h;exact⟨i+1,by simpa using l,by omega⟩
theorem LU{s:Nat}{b:bZ}(h:look (iW 0 bl) s=some b):∃ i,i<bl.length/\s=ah+i/\bl[i]?=some b:=by obtain⟨i,l,g⟩:=ac0 h;rw[qNz]at g;grind[wS]
theorem VR.aj8{w':World}{M':Nat->Prop}{k:Kd}(l:k.flat=true)(g:kindOk k x=true)(h:VR w M x c):VR w' M' x c:=by cases k<;>simp[Kd.flat]at l<;>cases x<;>simp[kindOk]at g<;>cases h<;>constructor
theorem VR.flat{w w':World}{M M':Nat->Prop}{a:Bool}{ks:List Kd}{x:PV}{c:Value}(z:ks.all Kd.flat=true)(l:bY a ks x=true)(h:VR w M x c):VR w' M' x c:=by
 have g:∀(j:Nat) (k:Kd),ks[j]?=some k->k.flat=true:=λj k B=>List.all_eq_true.1 z k (qLe B);cases a with
 | true =>
  cases h with
  | agg cs vs r u D =>
   have p:=nH (vU l);refine .agg cs vs r u λi y q=>?_;have E:i<ks.length:=by grind[PV.cells]
   exact(D i y q).aj8 (g i ks[i] (by simp)) (p.2 i ks[i] y (by simp) q)
  | _=>simp[bY]at l
 | false =>
  match ks,l,g with
  |[k],l,g=>exact h.aj8 (g 0 k rfl) (by simpa[bY] using l)
  |[],l,_=>simp[bY]at l
  | _::_::_,l,_=>simp[bY]at l
theorem VR.written{ks:List Kd}(D:bY true ks x=true)(h:VR w M x c):VR w M (.agg (kP ks x 0)) c:=by
 cases h with
 | agg cs vs F I H =>
  have g:=nH (vU D);simp only[PV.cells]at g;have p:(kP ks (.agg cs) 0).length=ks.length:=by
   have:∀(ks:List Kd) (x:PV) (o:Nat),(kP ks x o).length=ks.length:=by
    intro ks;induction ks with
    | nil=>intro x o;rfl
    | cons k r E=>intro x o;simp[kP,E]
   grind
  have l:∀(j:Nat) (y:PV),(kP ks (.agg cs) 0)[j]?=some y->∃ k z,ks[j]?=some k/\cs[j]?=some z/\y=eta k z:=by grind[AU,qOa,PV.cell,List.getD]
  refine .agg _ vs (by rw[p,F];exact g.1.symm) (λy u=>?_) λj y u=>?_
  . obtain⟨j,G⟩:=List.mem_iff_getElem?.1 u;obtain⟨k,z,B,q,rfl⟩:=l j y G;exact WI (g.2 j k z B q)
  . obtain⟨k,z,B,q,rfl⟩:=l j y u;exact IB (g.2 j k z B q) (H j z q)
 | _=>simp[bY]at D
end
section
variable {β':Nat->Option (Nat × Nat)}{h h':Nat->Option bZ}{s s':Nat}{M':Nat->Prop}{w':World}{hp':Heap}
abbrev Uc:=Nat × bZ × Option (Nat × Nat)
def Kv(l:List Uc):List (Nat × bZ):=l.map λx=>(x.1,x.2.1)
def overlay(β:Nat->Option (Nat × Nat)):List Uc->Nat->Option (Nat × Nat)
 |[]=>β
 |(k,_,p)::r=>overlay (λx=>if x=k then p else β x) r
theorem EU{s:Nat}:∀{l:List Uc} {β:Nat->Option (Nat × Nat)},(∀ x∈l,x.1≠s)->overlay β l s=β s
 |[],_,_=>rfl
 |(k,b,p)::r,β,h=>by simp only[overlay];rw[EU λx g=>h x (by simp[g])];exact if_neg λe=>h (k,b,p) (by simp) e.symm
theorem Xd{x:Uc}:∀{l:List Uc} {β:Nat->Option (Nat × Nat)},l.Pairwise (λx y=>x.1≠y.1)->x∈l->overlay β l x.1=x.2.2
 |[],_,_,h=>by simp at h
 |(k,b,p)::r,β,hd,h=>by
  simp only[overlay];rw[List.pairwise_cons]at hd;rcases List.mem_cons.1 h with rfl | h
  . rw[EU λy g=>(hd.1 y g).symm];simp
  . exact Xd hd.2 h
theorem Ob{s:Nat}:∀{l:List Uc} {hp:Heap},(∀ x∈l,x.1≠s)->look (gZ hp (Kv l)) s=look hp s
 |[],_,_=>rfl
 |(k,b,p)::r,hp,h=>by show look (gZ (put hp k b) (Kv r)) s=_;rw[Ob λx g=>h x (by simp[g]),eH];exact if_neg λe=>h (k,b,p) (by simp) e.symm
theorem YZ{x:Uc}:∀{l:List Uc} {hp:Heap},l.Pairwise (λx y=>x.1≠y.1)->x∈l->look (gZ hp (Kv l)) x.1=some x.2.1
 |[],_,_,h=>by simp at h
 |(k,b,p)::r,hp,hd,h=>by
  show look (gZ (put hp k b) (Kv r)) x.1=_;rw[List.pairwise_cons]at hd;rcases List.mem_cons.1 h with rfl | h
  . rw[Ob λy g=>(hd.1 y g).symm,eH];simp
  . exact YZ hd.2 h
section
variable {w0:Base} {Pr M0 M:Nat->Prop} {β:Nat->Option (Nat × Nat)} {st:St} {a:Act} {w:World}
theorem BR.ac1{w:World}{M:Nat->Prop}{β:Nat->Option (Nat × Nat)}{sa:Bool}{ks:List Kd}{xs:List PV}(g:BR w M β h s (.arr sa ks xs))(e:β' s'=β s):BR w M β' h' s' (.arr sa ks xs):=by
 cases g with
 | lU=>exact .lU _ _
 | arr _ _ _ b o C B fr z u r q p l=>exact .arr _ _ _ b o C B fr (e.trans z) u r q p l
theorem AR.oz{w:World}{M:Nat->Prop}{β:Nat->Option (Nat × Nat)}{z off len:Nat}{c:Value}{blk:bZ}(u:AR w M β h (.slice s z off len) c)(l:h s=some blk)(r:h' s'=some blk)(E:β' s'=β s):AR w M' β' h' (.slice s' z off len) c:=by
 cases u with
 | slice _ _ _ a ks xs b o cap p q D g B=>rw[p]at l;cases l;exact .slice s' off len a ks xs b o cap r q (E.trans D) g B
 | sliceE _ _ a ks xs base p q=>rw[p]at l;cases l;exact .sliceE s' off a ks xs base r q
theorem Rel.lays:∀(l:List Uc) {β:Nat->Option (Nat × Nat)} {st:St},Rel w0 Pr M0 M β st a w->l.Pairwise (λx y=>x.1≠y.1)->(∀ x∈l,look st.heap x.1=none) ->
    l.Pairwise (λx y=>∀ b o q,x.2.2=some (b,o)->y.2.2≠some (b,q)) ->
    (∀ x∈l,∀ b o,x.2.2=some (b,o)->¬ M b/\b<w.heap.size/\((w0.heap.size<=b\/Pr b)/\w0.n0<=b)/\(∀ s' q,(look st.heap s').isSome=true->β s'≠some (b,q))) ->
    (∀ x∈l,∃ sa ks xs,x.2.1=.arr sa ks xs/\BR w M (λ_=>x.2.2) (λ_=>none) 0 x.2.1) ->
    Rel w0 Pr M0 M (overlay β l) {st with heap:=gZ st.heap (Kv l)} a w
  |[],β,st,r,_,_,_,_,_=>r
  |(k,blk,p)::l,β,st,r,hd,hn,hq,ho,hb=>by
   rw[List.pairwise_cons]at hd hq;have z:=hn (k,blk,p) (by simp);obtain⟨sa,ks,xs,e,g⟩:=hb (k,blk,p) (by simp);simp only at e g z;have F:=r.lay (s:=k) (blk:=blk) z (p:=p) (λb o e=>by obtain⟨E,D,B,H⟩:=ho (k,blk,p) (by simp) b o e;grind) (by subst e;exact g.ac1 (by simp));refine Rel.lays l F hd.2 (λx u=>?_) hq.2 (λx u b o e=>?_) (λx u=>hb x (by simp[u]))
   . grind[eH]
   . obtain⟨E,D,B,H⟩:=ho x (by simp[u]) b o e;refine⟨E,D,B,λs' q G J=>?_⟩;by_cases I:s'=k
     . grind
     grind[eH]
theorem Rel.aaT(r:Rel w0 Pr M0 M β st a w)(Z:w.heap.size<=w'.heap.size)(K:w'.os=w.os)(J:w'.tape=w.tape)(L:w'.output=w.output)
    (hkeep:∀ b,b<w.heap.size->(M b\/(b<w0.heap.size/\¬ Pr b))->w'.heap[b]?=w.heap[b]?)(B:∀ b n,b<w.heap.size->((∃ s o blk,look st.heap s=some blk/\β s=some (b,o)/\ap4 blk n)\/(b<w0.n0/\Pr b))->Room w b n->Room w' b n)
    (W:∀ b,M b->M' b)(V:∀ b,M' b->M b\/(w.heap.size<=b/\b<w'.heap.size))
    (hnone:∀ s,look st.heap s=none->look hp' s=none)
    (D:∀ s blk,look st.heap s=some blk->∃ blk',look hp' s=some blk'/\((blk'=blk/\∀ b o,β s=some (b,o)->w'.heap[b]?=w.heap[b]?)\/(Like blk blk'/\BR w' M' β (look hp') s blk'))) :
    Rel w0 Pr M0 M' β {st with heap:=hp'} a w':=by
  have F:∀ b,M b->M' b/\w'.heap[b]?=w.heap[b]?:=λb h=>⟨W b h,hkeep b (r.iU b h) (.inl h)⟩;have hlive:∀ s,(look hp' s).isSome=true->(look st.heap s).isSome=true:=λs h=>by
   cases E:look st.heap s with
   | none=>rw[hnone s E]at h;cases h
   | some b=>rfl
  have z:∀(v:AV) (c:Value),AR w M β (look st.heap) v c->AR w' M' β (look hp') v c:=λv c h =>
   h.amO F λs blk _ q=>by
    obtain⟨blk',I,S⟩:=D s blk q;refine⟨blk',I,?_,rfl,λb o n l ha hr=>B b n (r.own s b o (by rw[q];rfl) l).2.1 (.inl ⟨s,o,blk,q,l,ha⟩) hr⟩;rcases S with⟨rfl,_⟩ |⟨h,_⟩
    . exact Like.refl _
    . exact h
  refine⟨r.qK,λt v h=>z _ _ (r.env t v h),?_,?_,λs s' b o X q g=>r.inj s s' b o X (hlive s q) (hlive s' g),?_,?_,λb h=>W b (r.vW b h),?_,
   λb n l h4 h5=>B b n (by have:=r.size;have:=w0.le';omega) (.inr ⟨l,h4⟩) (r.room b n l h4 h5),by have:=r.size;omega,K.trans r.os,J.trans r.tape,L.trans r.output,λp hp=>⟨(F _ (r.glob p hp).1).1,(F _ (r.glob p hp).1).2.trans (r.glob p hp).2⟩⟩
  . intro s blk q;have g:look hp' s=some blk:=q;cases E:look st.heap s with
    | none=>rw[hnone s E]at g;cases g
    | some b0 =>
     obtain⟨blk',I,S⟩:=D s b0 E;rw[g]at I;cases I;rcases S with⟨rfl,U⟩ |⟨_,h⟩
     . show BR w' M' β (look hp') s _;cases r.heap s _ E with
       | box cs b o C e fr u H G R Q O=>exact .box _ b o C e fr u (by rw[U b o u];exact H) G R Q λj c N=>z _ _ (O j c N)
       | lU a ks=>exact .lU a ks
       | log on ys=>exact .log on ys
       | arr a ks xs b o C e fr u H G R Q O=>exact .arr a ks xs b o C e fr u (by rw[U b o u];exact H) G R Q λi x j c Y N=>(O i x j c Y N).mono F
     . exact h
  . intro s b o q l;obtain⟨u,H,G⟩:=r.own s b o (hlive s q) l;grind
  . intro b h;rcases V b h with h | h
    . have:=r.iU b h;omega
    . omega
  . intro b h;rcases V b h with h | h
    . exact r.oD b h
    . right;have:=r.size;have:=w0.le';exact⟨by omega,.inl (by omega)⟩
  . intro b l h4;rw[hkeep b (by have:=r.size;omega) (.inr ⟨l,h4⟩),r.keep b l h4]
theorem Rel.moved(r:Rel w0 Pr M0 M β st a w)(l:w.heap.size<=w'.heap.size)(q:w'.os=w.os)(g:w'.tape=w.tape)(u:w'.output=w.output)
    (hkeep:∀ b,b<w.heap.size->(M b\/(b<w0.heap.size/\¬ Pr b))->w'.heap[b]?=w.heap[b]?)(p:∀ b n,b<w.heap.size->((∃ s o,(look st.heap s).isSome=true/\β s=some (b,o))\/(b<w0.n0/\Pr b))->Room w b n->Room w' b n)
    (D:∀ b,M b->M' b)(B:∀ b,M' b->M b\/(w.heap.size<=b/\b<w'.heap.size))
    (hnone:∀ s,look st.heap s=none->look hp' s=none)
    (z:∀ s blk,look st.heap s=some blk->∃ blk',look hp' s=some blk'/\((blk'=blk/\∀ b o,β s=some (b,o)->w'.heap[b]?=w.heap[b]?)\/(Like blk blk'/\BR w' M' β (look hp') s blk'))) :
    Rel w0 Pr M0 M' β {st with heap:=hp'} a w':=
  r.aaT l q g u hkeep (λb n G F E=>p b n G (F.imp (λ⟨s,o,blk,D,B,_⟩=>⟨s,o,by rw[D];rfl,B⟩) id) E) D B hnone z
end
end
section
variable {w:World}{M:Nat->Prop}{c:Value}
section
variable {T:Tab}
theorem He.flat{w:World}{M M':Nat->Prop}{β β':Nat->Option (Nat × Nat)}{h h':Nat->Option bZ}{m:nC}{t:TypeId}{v:AV}{c:Value}{p:Option (Nat × Nat)}
    (G:He T w M β h m t v c p)(g:PX T m t=true):He T w M' β' h' m t v c p:=by
  cases G with
  | deep t x c D q=>exact .deep t x c D (q.flat g D)
  | fresh t e xs c p B r q =>
   simp only[PX,B]at g;refine .fresh t e xs c p B ?_ ?_
   . generalize dD T e=sh at r g;obtain⟨sa,ks⟩:=sh;simp only at r g ⊢;cases r with
     | lU=>exact .lU _ _
     | arr _ _ _ b o C N fr L K J I E H =>
      refine .arr _ _ _ b o C N fr L K J I E λi x j y z u=>?_;have l:=E x (qLe z);have F:=nH (vU l);have O:j<ks.length:=by grind
      exact(H i x j y z u).aj8 (List.all_eq_true.1 g ks[j] (by simp)) (F.2 j ks[j] y (by simp) u)
   . exact q.oz rfl rfl rfl
  | alias=>cases g
  | func=>cases g
section
variable {w:World} {M:Nat->Prop} {β:Nat->Option (Nat × Nat)}
theorem He.mono{M M':Nat->Prop}{h:Nat->Option bZ}{m:nC}{t:TypeId}{v:AV}{c:Value}{p:Option (Nat × Nat)}(H:∀ b,M b->M' b)(D:He T w M β h m t v c p):He T w M' β h m t v c p:=by
 have r:∀ b,M b->M' b/\w.heap[b]?=w.heap[b]?:=λb h=>⟨H b h,rfl⟩;cases D with
 | deep _ x _ q l=>exact .deep t x c q (l.mono r)
 | fresh _ e xs _ _ B u l =>
  refine .fresh t e xs c p B ?_ (l.oz rfl rfl rfl);cases u with
  | lU=>exact .lU _ _
  | arr _ _ _ b o C S fr R Q O N L K=>exact .arr _ _ _ b o C S fr R Q O N L λi x j c J I=>(K i x j c J I).mono r
 | func g F _ cs _ q l=>exact .func g F t cs c q (l.mono r)
 | alias j _ e off len _ B l =>
  have:∃ blk,h (ah+j)=some blk:=by
   generalize (dD T e).2.length=z at l;cases l with
   | slice _ _ _ a ks xs b o cap q G u E D=>exact⟨_,q⟩
   | sliceE _ _ a ks xs base q G=>exact⟨_,q⟩
  obtain⟨blk,u⟩:=this;exact .alias j t e off len c B (l.oz u u rfl)
theorem FK.mono{M M':Nat->Prop}{h:Nat->Option bZ}{g:List nC}{ts:List TypeId}{vs:List AV}{cs:List Value}{l:List (Option (Nat × Nat))}(u:∀ b,M b->M' b)(r:FK T w M β h g ts vs cs l):FK T w M' β h g ts vs cs l:=by
 induction r with
 | nil g=>exact .nil g
 | cons g t ts v vs c cs p l B D z q=>exact .cons g t ts v vs c cs p l (B.mono u) q z
end
theorem Xe:∀(ks:List Kd) (x:PV) (o j:Nat),(Fv ks x o)[j]?=(ks[j]?).map λk=>eta k (x.iF (o+j))
 |[],_,_,j=>by simp[Fv]
 | k::r,x,o,0=>by simp[Fv]
 | k::r,x,o,j+1=>by simp only[Fv,List.getElem?_cons_succ,Xe r x (o+1) j];grind
theorem MZ:∀(ks:List Kd) (x:PV) (o:Nat),(Fv ks x o).length=ks.length
 |[],_,_=>rfl
 | k::r,x,o=>by simp[Fv,MZ r]
theorem ahJ{q:Bool × List Kd}{v:PV}(l:acH q v=true)(h:VR w M v c):VR w M (aeB q v) c:=by
 obtain⟨b,ks⟩:=q;cases b with
 | false =>
  match ks,l with
  |[k],l=>exact IB l h
  |[],l=>simp[acH]at l
  | _::_::_,l=>simp[acH]at l
 | true =>
  cases h with
  | ref cs b o f I J K G D =>
   have F:=nH (show gV ks cs=true from l);have p:∀(j:Nat) (y:PV),(Fv ks (.ref cs) 0)[j]?=some y->∃ k z,ks[j]?=some k/\cs[j]?=some z/\y=eta k z:=by
    intro j y g;rw[Xe]at g;cases u:ks[j]? with
    | none=>rw[u]at g;cases g
    | some k =>rw[u]at g;simp only[Option.map_some,qOa,qNz]at g;grind[PV.iF,List.getD]
   have r:(Fv ks (.ref cs) 0).length=cs.length:=by have:=MZ ks (.ref cs) 0;omega
   refine .ref _ b o f I (λy g=>?_) (λj y g=>?_) (λj y g=>?_) (r▸D)
   . obtain⟨j,H⟩:=List.mem_iff_getElem?.1 g;obtain⟨k,z,E,B,rfl⟩:=p j y H;exact WI (F.2 j k z E B)
   . grind
   . obtain⟨k,z,E,B,rfl⟩:=p j y g;exact IB (F.2 j k z E B) (G j z B)
  | _=>cases l
theorem Xf:∀{g:List (Bool × List Kd)} {vs:List PV},JU g vs=true->g.length=vs.length/\∀(j:Nat) (q:Bool × List Kd) (v:PV),g[j]?=some q->vs[j]?=some v->acH q v=true
 |[],[],_=>⟨rfl,λj q v h=>by simp at h⟩
 | q::g,v::vs,h=>by simp[JU]at h;obtain⟨p,l⟩:=Xf h.2;grind
 |[],_::_,h | _::_,[],h=>by simp[JU]at h
theorem S9:∀(g:List (Bool × List Kd)) (x:PV) (o j:Nat),(CX g x o)[j]?=(g[j]?).map λq=>aeB q (x.cap (o+j))
 |[],_,_,j=>by simp[CX]
 | k::r,x,o,0=>by simp[CX]
 | k::r,x,o,j+1=>by simp only[CX,List.getElem?_cons_succ,S9 r x (o+1) j];grind
theorem Kw:∀(ks:List (Bool × List Kd)) (x:PV) (o:Nat),(CX ks x o).length=ks.length
 |[],_,_=>rfl
 | k::r,x,o=>by simp[CX,Kw r]
theorem VR.aaU{g:Nat}{p:List (Bool × List Kd)}{cs:List PV}(z:JU p cs=true)(h:VR w M (.fn g cs) c):VR w M (.fn g (CX p (.fn g cs) 0)) c:=by
 cases h with
 | fn _ _ vs B E =>
  have u:=Xf z;refine .fn g _ vs (by rw[B,Kw];exact u.1.symm) λi y l=>?_;rw[S9]at l;cases r:p[i]? with
  | none=>rw[r]at l;cases l
  | some q =>
   rw[r]at l;simp only[Option.map_some,qOa,qNz]at l;have D:i<cs.length:=by grind
   have e:(PV.fn g cs).cap i=cs[i]:=by simp[PV.cap,List.getD,D]
   rw[<- l,e];exact ahJ (u.2 i q cs[i] r (by simp)) (E i cs[i] (by simp))
theorem aeS{F:Nat->Option (Nat × Nat)}{N:Nat->Option bZ}{d:Nat}{ss:List Nat}{K:List nC}{ts:List TypeId}{rs:List AV}{cs:List Value}{O:List (Option (Nat × Nat))}
    (hr:FK T w M F N K ts rs cs O):∀{i:Nat} {xs:List AV} {R:List (Nat × bZ)},uQ T d ss i K ts rs=some (xs,R)->∃ l:List Uc,R=Kv l/\(∀ x∈l,∃ j,i<=j/\x.1=d+1000*j)/\l.Pairwise (λx y=>x.1≠y.1) /\
      l.Pairwise (λx y=>∀ b o H,x.2.2=some (b,o)->y.2.2≠some (b,H))/\(∀ x∈l,∀ b o,x.2.2=some (b,o)->some (b,o)∈O) /\
      (∀ x∈l,∃ sa ks ys,x.2.1=.arr sa ks ys/\BR w M (λ_=>x.2.2) (λ_=>none) 0 x.2.1)/\xs.length=cs.length /\
      ∀(h:Nat->Option bZ) (β:Nat->Option (Nat × Nat)),(∀ x∈l,h x.1=some x.2.1/\β x.1=x.2.2)->(∀ j s blk,ss[j]?=some s->N (ah+j)=some blk->h s=some blk/\β s=F (ah+j)) ->
       ∀(k:Nat) (v:AV),xs[k]?=some v->∃ c,cs[k]?=some c/\AR w M β h v c:=by
  induction hr with
  | nil K =>intro i xs R h;simp only[uQ,qOa,Prod.mk.injEq]at h;obtain⟨rfl,rfl⟩:=h;exact⟨[],rfl,by simp,.nil,.nil,by simp,by simp,rfl,λ_ _ _ _ k v u=>by simp at u⟩
  | cons K t ts v vs c cs p O Z h2 h3 ih =>
   intro i xs R h;simp only[uQ,qLh,List.tail_cons]at h;split at h
   . rename_i U b1 xr br q e2;simp only[qOa,Prod.mk.injEq]at h;obtain⟨rfl,rfl⟩:=h;obtain⟨l,q1,W,q3,q4,V,q6,q7,q8⟩:=ih e2
     have S:b1=[]->(∀(h:Nat->Option bZ) (β:Nat->Option (Nat × Nat)),(∀ j s blk,ss[j]?=some s->N (ah+j)=some blk->h s=some blk/\β s=F (ah+j))->AR w M β h U c) ->
         ∃ l:List Uc,b1++br=Kv l/\(∀ x∈l,∃ j,i<=j/\x.1=d+1000*j)/\l.Pairwise (λx y=>x.1≠y.1) /\
     l.Pairwise (λx y=>∀ b o H,x.2.2=some (b,o)->y.2.2≠some (b,H))/\(∀ x∈l,∀ b o,x.2.2=some (b,o)->some (b,o)∈p::O) /\
     (∀ x∈l,∃ sa ks ys,x.2.1=.arr sa ks ys/\BR w M (λ_=>x.2.2) (λ_=>none) 0 x.2.1)/\(U::xr).length=(c::cs).length /\
     ∀(h:Nat->Option bZ) (β:Nat->Option (Nat × Nat)),(∀ x∈l,h x.1=some x.2.1/\β x.1=x.2.2)->(∀ j s blk,ss[j]?=some s->N (ah+j)=some blk->h s=some blk/\β s=F (ah+j)) ->
      ∀(k:Nat) (v:AV),(U::xr)[k]?=some v->∃ c',(c::cs)[k]?=some c'/\AR w M β h v c':=by
      intro Q r;subst Q;refine⟨l,by simpa using q1,λx r=>?_,q3,q4,λx r b o e=>by simp[V x r b o e],q6,by simp[q7],λh β J I k v u=>?_⟩
      . obtain⟨j,L,B⟩:=W x r;exact⟨j,by omega,B⟩
      . cases k with
        | zero=>simp at u;subst u;exact⟨c,rfl,r h β I⟩
        | succ k=>simp at u;simpa using q8 h β J I k v u
     revert Z q;generalize K.headD .deep=m;intro Z q;cases Z with
     | deep t x c E D =>
      simp only[Wx,AV.pv]at q;generalize dD T t=sh at E q;obtain⟨sa,ks⟩:=sh;simp only at E q;split at q
      . rename_i ks' e;obtain⟨rfl,rfl⟩:=Prod.mk.inj e;simp only[qOa,Prod.mk.injEq]at q;obtain⟨rfl,rfl⟩:=q;exact S rfl λ_ _ _=>.p _ _ (D.written E)
      . rename_i k e;obtain⟨rfl,rfl⟩:=Prod.mk.inj e;simp only[qOa,Prod.mk.injEq]at q;obtain⟨rfl,rfl⟩:=q;exact S rfl λ_ _ _=>.p _ _ (IB (by simpa[bY] using E) D)
      . cases q
     | func g qs t cs c E D =>simp only[Wx,AV.pv,qOa,Prod.mk.injEq]at q;obtain⟨rfl,rfl⟩:=q;exact S rfl λ_ _ _=>.p _ _ (D.aaU E)
     | alias j t e off len c X D =>
      simp only[Wx,X,AV.qM,AV.sLen]at q;cases Y:ss[j]? with
      | none=>rw[Y]at q;cases q
      | some s =>
       rw[Y]at q;simp only[qOa,Prod.mk.injEq]at q;obtain⟨rfl,rfl⟩:=q;refine S rfl λh β g=>?_;have:∃ blk,N (ah+j)=some blk:=by
        generalize (dD T e).2.length=z at D;cases D with
        | slice _ _ _ a ks xs b o cap E hl Q hcap hr=>exact⟨_,E⟩
        | sliceE _ _ a ks xs base E hl=>exact⟨_,E⟩
       obtain⟨blk,G⟩:=this;obtain⟨J,I⟩:=g j s blk Y G;exact D.oz G J I
     | fresh t e ys c p X Q D =>
      simp only[Wx,X,AV.aI,qOa,Prod.mk.injEq]at q;obtain⟨rfl,rfl⟩:=q;refine⟨(d+1000*i,.arr (dD T e).1 (dD T e).2 ys,p)::l,by simp[Kv,q1],λx r=>?_,List.pairwise_cons.2 ⟨λx r=>?_,q3⟩,List.pairwise_cons.2 ⟨λx r b o H q e2=>?_,q4⟩,λx r b o q=>?_,λx r=>?_,by simp[q7],λh β J I k v u=>?_⟩
      . rcases List.mem_cons.1 r with rfl | r
        . exact⟨i,qNr _,rfl⟩
        . obtain⟨j,L,B⟩:=W x r;exact⟨j,by omega,B⟩
      . obtain⟨j,L,B⟩:=W x r;rw[B];simp only;omega
      . exact h3 b o H q (V x r b H e2)
      . rcases List.mem_cons.1 r with rfl | r
        . simp only at q;simp[q]
        . simp[V x r b o q]
      . rcases List.mem_cons.1 r with rfl | r
        . exact⟨_,_,_,rfl,Q.ac1 rfl⟩
        . exact q6 x r
      . cases k with
        | zero =>simp at u;subst u;obtain⟨g3,g4⟩:=J _ List.mem_cons_self;exact⟨c,rfl,D.oz rfl g3 g4⟩
        | succ k=>simp at u;simpa using q8 h β (λx r=>J x (by simp[r])) I k v u
   . cases h
end
end
end Go.Skm
