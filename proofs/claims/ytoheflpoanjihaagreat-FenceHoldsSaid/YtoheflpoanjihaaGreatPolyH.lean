import Derived.Test.YtoheflpoanjihaaGreatN1
import Derived.Test.YtoheflpoanjihaaGreatG19
import Derived.Test.YtoheflpoanjihaaGreatG3
import Derived.Test.YtoheflpoanjihaaGreatR3
import Derived.Test.YtoheflpoanjihaaGreatG22
import Derived.Test.YtoheflpoanjihaaGreatG10
set_option linter.all false
namespace Go.Skm.Fen
section
open Go Go.Skm
variable {l o:List V3}{e:pG}{f:Fen}{i:Nat}
def jd(f:Fen)(b:Int):Fen:=⟨iJ f.outer b,f.holes.map λh=>iJ h b,f.low,f.high⟩
theorem aci(a:0<l.length)(b:Int)(p:V3):Fp (iJ l b) p=Fp l p:=VX a b _ _ _
theorem D7:edgeOk e o=true↔∀ d∈fH o,tZ e.1 e.2 d.1 d.2=false:=by unfold edgeOk;simp only[List.all_eq_true,qBb]
theorem acj(b:Int)(h:edgeOk e o=true):edgeOk e (iJ o b)=true:=by rw[D7]at h ⊢;intro d hd;obtain⟨j,g,rfl⟩:=VY hd;exact(NQ (a:=e.1) (b:=e.2) (c:=flat (ca o j)) (d:=flat (cb o j))).2.1.trans (h (flat (ca o j),flat (cb o j)) (jq.2 ⟨j,g,rfl⟩))
theorem acn{a c:V3}(h:edgeOk (a,c) o=true):edgeOk (c,a) o=true:=by rw[D7]at h ⊢;intro d hd;rw[NQ.1];exact h d hd
theorem VZ{a:List V3}(h:∀ e∈fH a,edgeOk e o=true):∀ e∈fH o,edgeOk e a=true:=λe b=>by rw[D7];intro d hd;rw[NQ.2.2];exact D7.1 (h d hd) e b
theorem aei{outer:List V3}{all:List (List V3)}{h:List V3}(b:Int)(n:0<outer.length)(d:Jy outer all h=true):Jy (iJ outer b) (all.map λx=>iJ x b) (iJ h b)=true:=by
 unfold Jy at d ⊢;simp only[qBa,List.all_eq_true,qDa]at d ⊢;obtain⟨k,g⟩:=d;have s:=ig k;refine⟨YK k b,λe r=>?_⟩;obtain⟨j,q,rfl⟩:=VY r;have p:qx h.length j<h.length:=qNm _ (by omega);refine⟨?_,λo c=>?_⟩
 . rw[aci n];exact(g _ (jq.2 ⟨qx h.length j,p,rfl⟩)).1
 . obtain⟨m,a,rfl⟩:=List.mem_map.1 c;exact acj b (acn ((g _ (jq.2 ⟨j,q,rfl⟩)).2 m a))
theorem SE{outer:List V3}(b:Int)(c:0<outer.length):∀(a all:List (List V3)),rZ outer all a=true->rZ (iJ outer b) (all.map λx=>iJ x b) (a.map λx=>iJ x b)=true
 |[],_,_=>rfl
 | h::r,all,hh=>by rw[rZ,qBa]at hh;rw[List.map_cons,rZ,qBa];refine⟨aei b c hh.1,?_⟩;have:=SE b c r (all++[h]) hh.2;rwa[List.map_append]at this
theorem AL{outer:List V3}:∀(a all:List (List V3)),rZ outer all a=true->∀ i,i<a.length->(∀ p∈all,∀ e∈fH (gh a i),edgeOk e p=true)/\(∀ k,k<i->∀ e∈fH (gh a i),edgeOk e (gh a k)=true)/\∀ j,j<(gh a i).length->0<=Fp outer (gt (gh a i) j)
 |[],_,_,i,hi=>by simp at hi
 | h::r,all,hh,i,hi=>by
  rw[rZ,qBa]at hh;have b:=hh.1;unfold Jy at b;simp only[qBa,List.all_eq_true,qDa]at b;cases i with
  | zero=>exact⟨λp hp e m=>(b.2 e m).2 p hp,λk d=>by omega,λj g=>(b.2 _ (jq.2 ⟨j,g,rfl⟩)).1⟩
  | succ i =>
   obtain⟨c,q,n⟩:=AL r (all++[h]) hh.2 i (by simpa using hi);refine⟨λp hp=>c p (List.mem_append.2 (.inl hp)),λk d=>?_,n⟩;cases k with
   | zero=>exact c h (by simp)
   | succ k=>exact q k (by omega)
theorem JQ(h:eX f=true):gG f.outer=true/\rZ f.outer [f.outer] f.holes=true/\NC f.holes=true:=by unfold eX Jz at h;simp only[qBa]at h;exact⟨h.1.1,h.2.1,h.2.2⟩
theorem YM(h:eX f=true){k:Nat}(g:i<f.holes.length)(d:k<f.holes.length)(b:i≠k):∀ e∈fH (gh f.holes i),edgeOk e (gh f.holes k)=true:=by
 obtain⟨_,a,_⟩:=JQ h;by_cases c:k<i
 . exact(AL _ _ a i g).2.1 k c
 . exact VZ ((AL _ _ a k d).2.1 i (by omega))
theorem ajk{a:List (List V3)}{b:Int}(c:i<a.length):gh (a.map λx=>iJ x b) i=iJ (gh a i) b:=by simp[gh,List.getD,qLd c]
theorem V4(h:eX f=true)(b:Int):eX (jd f b)=true:=by
 obtain⟨m,p,g⟩:=JQ h;have n:=(mM h).2;have r:=ig m;have a:∀ i,i<f.holes.length->0<(gh f.holes i).length:=λi c=>by have:=ig (n _ (DX c));omega
 have j:=h;unfold eX Jz at j;simp only[qBa]at j;unfold eX Jz;simp only[qBa];refine⟨⟨YK m b,?_⟩,SE b (by omega) _ _ p,?_⟩
 . have:=j.1.2;simp only[qDa]at this ⊢;show(f.holes.map _).length<=16/\_;rw[qLm];exact this
 . unfold NC at g ⊢;show pz _ 0 (f.holes.map _).length=true;rw[qLm];simp only[kJ,qLm]at g ⊢;intro i _ c k _ d;have c:i<f.holes.length:=by omega
   have d:k<f.holes.length:=by simpa[jd] using d
   have q:=g i (by omega) (by omega) k (by omega) (by omega);unfold yx at q ⊢;split
   . rfl
   . next hne =>rw[if_neg hne]at q;show(!decide (0<=Fp (gh (f.holes.map λx=>iJ x b) k) (gt (gh (f.holes.map λx=>iJ x b) i) 0)))=true;rw[ajk c,ajk d,aci (a k d),GN b (a i c),Px (YM h c d hne) _ (qNm _ (a i c))];exact q
theorem aco(h:eX f=true)(b u v w:Int):XT (jd f b) u v w=XT f u v w:=by
 obtain⟨n,m⟩:=mM h;have a:∀{l:List V3},gG l=true->0<l.length:=λk=>by have:=ig k;omega
 unfold XT;show(decide (0<=Ez (iJ f.outer b) u v w)&&!((f.holes.map λx=>iJ x b).any λx=>decide (0<Ez x u v w)))=_;rw[VX (a n),List.any_map];congr 2;have:∀ c:List (List V3),(∀ x∈c,gG x=true)->c.any ((λx=>decide (0<Ez x u v w)) ∘ λx=>iJ x b)=c.any λx=>decide (0<Ez x u v w):=by
  intro c;induction c with
  | nil=>intro _;rfl
  | cons x r g =>intro d;rw[List.any_cons,List.any_cons,g λy j=>d y (List.mem_cons_of_mem _ j)];show(decide (0<Ez (iJ x b) u v w)||_)=_;rw[VX (a (d x (by simp)))]
 exact this f.holes m
theorem JR(h:eX f=true)(b:Int)(p:V3):kK (jd f b) p=kK f p:=by unfold kK;rw[aco h];rfl
theorem Un(l:List V3):lX l=sg (λi=>(pts l i).x*(pts l (i+1)).y-(pts l i).y*(pts l (i+1)).x) 0 l.length:=by
 have a:∀ n,n<=l.length->BA (EM l n)=sg (λi=>(pts l i).x*(pts l (i+1)).y-(pts l i).y*(pts l (i+1)).x) 0 n:=by
  intro n;induction n with
  | zero=>intro _;rfl
  | succ n b =>intro c;rw[Ic,VJ,b (by omega)];show _+(QS (flat (ca l n),flat (cb l n))+0)=sg _ 0 n+((pts l (0+n)).x*(pts l (0+n+1)).y-(pts l (0+n)).y*(pts l (0+n+1)).x);rw[Int.add_zero,qNz,DZ (by omega),zO];rfl
 exact a _ (qNr _)
theorem alH{p q:Nat->Pt}{n:Nat}(hp:∀ i,p (i+n)=p i)(r:Rev p q n)(g:Pt->Pt->Int)(m:∀ a b,g b a=- g a b):sg (λi=>g (q i) (q (i+1))) 0 n=- sg (λi=>g (p i) (p (i+1))) 0 n:=by
 obtain⟨c,t,k⟩:=r 0;have e:sg (λi=>g (q i) (q (i+1))) 0 n=sg (λi=>- (λj=>g (p j) (p (j+1))) (c-n+n-1-i)) 0 n:=vP λi _ s=>by have h:=k i (by omega);have d:=k (i+1) (by omega);rw[qNz]at h d;show g (q i) (q (i+1))=- g (p (c-n+n-1-i)) (p (c-n+n-1-i+1));rw[h,d,show c-n+n-1-i=c-(i+1) by omega,show c-(i+1)+1=c-i by omega];exact m _ _
 rw[e,aej (λi=>(λj=>g (p j) (p (j+1))) (c-n+n-1-i))];have k:=aek (λj=>g (p j) (p (j+1))) (c-n) n;rw[ael (λj=>g (p j) (p (j+1))) (λi=>by rw[hp,show i+n+1=i+1+n by omega,hp]) (c-n)]at k;exact congrArg Neg.neg k
theorem YN(a:0<l.length)(b:Int):lX (iJ l b)=- lX l:=by rw[Un,Un,nP];exact alH (yw l) (VW a b) (λx y=>x.x*y.y-x.y*y.x) λx y=>by grind
theorem aem(h:eX f=true)(b:Int):BQ (jd f b)=BQ f:=by
 obtain⟨p,n⟩:=mM h;have a:∀{l:List V3},gG l=true->JG (lX (iJ l b))=JG (lX l):=λm=>by have:=ig m;rw[YN (by omega),Uk,Uk,Int.natAbs_neg]
 have d:∀ c:List (List V3),(∀ x∈c,gG x=true)->yC (c.map λx=>iJ x b)=yC c:=by
  intro c;induction c with
  | nil=>intro _;rfl
  | cons x r j =>intro g;rw[List.map_cons,yC,yC,a (g x (by simp)),j λy k=>g y (List.mem_cons_of_mem _ k)]
 unfold BQ;show JG (lX (iJ f.outer b))-yC (f.holes.map λx=>iJ x b)=_;rw[a p,d _ n]
end
section
open Go Go.Skm Go.Skm.Dig
theorem ai9{B p:Nat}(x r s:Nat)(q:Nat)(h:(r*B+x) / 256=q):(q+B*s)*256+(r*B+x)%256=x+B*(s*256+r):=by grind
abbrev wA:List Wy:=[.lp [1,1,1,0,0]]
abbrev wB:List Wy:=[.lp [1,1,1,0,0],.lp [1,0,1,0,1,0]]
abbrev wC:List Wy:=[.lp [1,1,1,1,1,0,1,0]]
theorem ab5(k:IntKind)(l:List Nat)(i:Nat)(h:i<l.length):(bI k l).getD i .nil=.int k (l.getD i 0:Nat):=by grind[bI]
theorem aja(p q:List Nat)(x:Nat):(p++[x]++q).getD p.length 0=x:=by simp
theorem anw(p q:List Nat)(x y:Nat):(p++[x]++q).set p.length y=p++([y]++q):=by simp
theorem als {α:Type} (P:List α->Prop) (h0:P []) (h1:∀ l x,P l->P (l++[x])) (l:List α):P l:=by
 have:∀ m:List α,P m.reverse:=by
  intro m
  induction m with
  | nil=>exact h0
  | cons x m ih=>rw[List.reverse_cons];exact h1 _ _ ih
 rw[<- List.reverse_reverse l]
 exact this _
section
variable (X:Ext) (hX:Mine X)
include hX
theorem avm(e:Bool)(xs:List PV)(g:Bool)(n:ByteArray)(q:List PV)(o bl:Nat)(T:List Nat)(c:List AV × List bZ) :
    ∀ b:List Nat,∀(a:List Nat) (r:Nat),ok B9 b->ok B9 a->r<256->b.length+a.length<=1000000000 ->
    (∀(Q:List Nat) (f:Nat),Q.length=b.length+a.length->ok B9 Q->f<256->val B9 Q*256+f=val B9 b+B9^b.length*(val B9 a*256+r)->L tab (run tab X) 70 [] wB (nM o bl 0 Q.length (f:Int) (-1) e xs g n q (bI .i64 (Q++T)))=some c) ->
    L tab (run tab X) 70 [] wB (nM o bl 0 (b.length+a.length) (r:Int) ((b.length:Int)-1) e xs g n q (bI .i64 (b++a++T)))=some c:=by
  have _:=hX;intro b;induction b using als with
  | h0 =>intro a r hp j t u h;have:=h a r (by simp) j t (by simp[val]);grind
  | h1 l x w =>
   intro a r hp j t u h;rw[lG]at hp;obtain⟨E,A⟩:=hp;have z:x<B9:=A x (by simp);have H:B9=1000000000:=rfl;rw[qLp,List.length_singleton]at u h ⊢;have v:r*B9+x<256*B9:=by grind
   have D:(r*B9+x) / 256<B9:=Nat.div_lt_of_lt_mul (by omega);have k:(r*B9+x)%256<256:=qNm _ (by decide);have i:=w ((r*B9+x) / 256::a) ((r*B9+x)%256) E (xX.2 ⟨D,j⟩) k (by simp;omega) (λQ f F m s C=>by refine h Q f (by rw[F];simp;omega) m s ?_;rw[C,nR];have d:=ai9 (B:=B9) (p:=0) x r (val B9 a) _ rfl;show val B9 l+B9^l.length*(((r*B9+x) / 256+B9*val B9 a)*256+(r*B9+x)%256)=_;grind);refine dU ?_;have y:((l.length+1:Nat):Int)-1=(l.length:Int):=by omega
   rw[Gg,y,show BJ (l.length:Int) 0=true from decide_eq_true (by omega),qCt];have G:cu (l.length:Int) ((l.length+1+a.length:Nat):Int)=true:=decide_eq_true (by omega);rw[show leI (0:Int) (l.length:Int)=true from decide_eq_true (by omega),G];simp only[qBs,qCt,qIt,qNz];rw[ab5 _ _ _ (by simp),show l++[x]++a++T=l++[x]++(a++T) by simp,aja];have c1:IntKind.i64.wrap ((r:Int)*1000000000)=((r*B9:Nat):Int):=by rw[wrap_eq (by omega) (by omega),H];omega
   have c2:IntKind.i64.wrap (((r*B9:Nat):Int)+(x:Int))=((r*B9+x:Nat):Int):=by rw[wrap_eq (by omega) (by omega)];omega
   have c3:IntKind.i64.wrap (((r*B9+x:Nat):Int).tdiv 256)=(((r*B9+x) / 256:Nat):Int):=by rw[show((r*B9+x:Nat):Int).tdiv 256=(((r*B9+x) / 256:Nat):Int) from rfl,wrap_eq (by omega) (by omega)]
   have c4:((r*B9+x:Nat):Int).tmod 256=(((r*B9+x)%256:Nat):Int):=rfl;have c5:IntKind.i64.wrap ((l.length:Int)-1)=(l.length:Int)-1:=wrap_eq (by omega) (by omega);show L tab (run tab X) 70 [] wB (nM o bl 0 (l.length+1+a.length) ((IntKind.i64.wrap (IntKind.i64.wrap ((r:Int)*1000000000)+(x:Int))).tmod 256) (IntKind.i64.wrap ((l.length:Int)-1)) e xs g n q ((bI .i64 (l++[x]++(a++T))).set l.length (Ap (IntKind.i64.wrap ((IntKind.i64.wrap (IntKind.i64.wrap ((r:Int)*1000000000)+(x:Int))).tdiv 256)))))=some c;rw[c1,c2,c3,c4,c5,lZ,anw];rw[qLl]at i;grind
theorem avo(c:Bool)(xs:List PV)(g:Bool)(e:ByteArray)(b:List Nat)(o:∀ x∈b,x<256)(m:b.length<=1000000000):∀(i:Nat) (a:List Nat),i<=b.length->a.length+i=b.length ->
    L tab (run tab X) 70 [] wC (xZ 0 b.length 0 a.length ((i:Int)-1) c xs g e (bI .u8 b) (bI .u8 a))=some ([.p (.agg [.bool c,.str (bytesOf (bI .u8 (a++(b.take i).reverse)))])],[]):=by
  have _:=hX;intro i;induction i with
  | zero =>intro a _ k;refine dU ?_;rw[OI,show BJ (((0:Nat):Int)-1) 0=false from rfl,qCf];rw[show(bI .u8 a).drop 0=bI .u8 a from qLy,<- dI .u8 a,List.take_length];simp
  | succ i h =>
   intro a n k;have d:i<b.length:=by omega
   refine dU ?_;have j:((i+1:Nat):Int)-1=(i:Int):=by omega
   rw[OI,j,show BJ (i:Int) 0=true from decide_eq_true (by omega),qCt];have l:cu (i:Int) (b.length:Int)=true:=decide_eq_true (by omega);rw[show leI (0:Int) (i:Int)=true from decide_eq_true (by omega),l];simp only[qBs,qCt,qIt,qNz];rw[show F5 (a.length+1) 2147483648=true from decide_eq_true (by omega),qCt,ab5 _ _ _ d];have s:((bI .u8 a).drop 0).take a.length=bI .u8 a:=by rw[qLy,<- dI .u8 a,List.take_length]
   have c5:IntKind.i64.wrap ((i:Int)-1)=(i:Int)-1:=wrap_eq (by omega) (by omega);show L tab (run tab X) 70 [] wC (xZ 0 b.length 0 (a.length+1) (IntKind.i64.wrap ((i:Int)-1)) c xs g e (bI .u8 b) (((bI .u8 a).drop 0).take a.length++([.int .u8 ((b.getD i 0:Nat):Int)]:List PV)))=_;have r:bI .u8 a++([.int .u8 ((b.getD i 0:Nat):Int)]:List PV)=bI .u8 (a++[b.getD i 0]):=by rw[<- AB];rfl
   have q:(b.take (i+1)).reverse=b.getD i 0::(b.take i).reverse:=by simp_all
   have f:=h (a++[b.getD i 0]) (by omega) (by simp;omega);grind[qLp,List.length_singleton]
theorem avp(e:Bool)(xs:List PV):∀(m:Nat) (b:List Nat) (l:Nat) (a:List Nat),ok B9 b->b.length<=1000000->l<=b.length->b.take l=bG B9 m->(∀ x∈a,x<256)->a.length+(bG 256 m).length<=100000000 ->
    L tab (run tab X) 70 [] wA (KU 0 a.length 0 l e xs false ⟨#[]⟩ (bI .u8 a) (bI .i64 b))=some ([.p (.agg [.bool e,.str (bytesOf (bI .u8 (a++bG 256 m).reverse))])],[]):=by
  intro m;induction m using Nat.strongRecOn with
  | ind m z =>
   intro b l a v G K E F B;have c:l=(bG B9 m).length:=by grind
   by_cases y:m=0
   . subst y;rw[gW]at c ⊢;rw[List.length_nil]at c;subst c;rw[List.append_nil];refine dU ?_;rw[Yj,show mg ((0:Nat):Int) 0=false from rfl,qCf,wrap_eq (by omega) (by omega)];have f:=avo X hX e xs false ⟨#[]⟩ a F (by omega) a.length [] (qNr _) (by simp);rw[List.take_length,List.nil_append]at f;exact f
   . have u:0<l:=by rw[c];exact List.length_pos_iff.2 λh=>y ((qZ (by decide)).1 h)
     have i:bG 256 m=m%256::bG 256 (m / 256):=Jh (by decide) (by omega);refine dU ?_;rw[Yj,show mg (l:Int) 0=true from decide_eq_true (by omega),qCt,wrap_eq (by omega) (by omega)];have M:b=b.take l++[]++b.drop l:=by simp
     have t:ok B9 (b.take l):=λd hd=>v d (List.mem_of_mem_take hd);have s:ok B9 (b.drop l):=λd hd=>v d (List.mem_of_mem_drop hd);have A:(b.take l).length=l:=by simp;omega
     have f:=avm X hX e xs false ⟨#[]⟩ (bI .u8 a) 0 a.length (b.drop l) ([.p (.agg [.bool e,.str (bytesOf (bI .u8 (a++bG 256 m).reverse))])],[]) (b.take l) [] 0 t (yX _) (by decide) (by simp;omega) (λQ j w g C n=>by
      rw[A]at w n;rw[List.length_nil,Nat.add_zero]at w;have k:val B9 (b.take l)=m:=by rw[E,sO (by decide)]
      rw[k]at n;simp only[val,Nat.zero_mul,Nat.add_zero,Nat.mul_zero]at n;have D:val B9 Q=m / 256:=by omega
      have J:j=m%256:=by omega
      refine dU ?_;rw[Gg,show BJ (-1:Int) 0=false from rfl,qCf];rw[show F5 (a.length+1) 2147483648=true from decide_eq_true (by omega),qCt];have r:(Q++b.drop l).length<=2147483648:=by simp;omega
      rw[c130 X hX (Q++b.drop l) r 0 Q.length (by simp),qOb];have I:((Q++b.drop l).drop 0).take Q.length=Q:=by simp
      rw[I];have o:trim Q=bG B9 (m / 256):=uF (by decide) g D;have H:((bI .u8 a).drop 0).take a.length++([.int .u8 (IntKind.u8.wrap (j:Int))]:List PV)=bI .u8 (a++[m%256]):=by
       rw[qLy,<- dI .u8 a,List.take_length,<- AB];have:IntKind.u8.wrap (j:Int)=((m%256:Nat):Int):=by grind[IntKind.bits,IntKind.signed,IntKind.wrap]
       rw[this];rfl
      rw[H];have q:m / 256<m:=Nat.div_lt_self (by omega) (by decide);have qx:=z (m / 256) q (Q++b.drop l) (trim Q).length (a++[m%256]) (lG.2 ⟨g,s⟩) (by simp;omega) (by
       have:=VK Q;rw[qLp];omega) (by
       rw[List.take_append_of_le_length (VK Q),uO,o]) (by
       grind) (by
       rw[i,qLl]at B;rw[qLp,List.length_singleton];omega)
      rw[qLp,List.length_singleton]at qx;rw[i,show a++m%256::bG 256 (m / 256)=a++[m%256]++bG 256 (m / 256) by simp];exact qx)
     grind
theorem bytes9{n k:Nat}(h:(bG B9 n).length<=k):(bG 256 n).length<=4*k:=by have _:=hX;refine sQ (by decide) (Nat.lt_of_lt_of_le (xY (b:=B9) (by decide)) (Nat.le_trans (Nat.pow_le_pow_right (by decide) h) ?_));rw[Nat.pow_mul];exact Nat.pow_le_pow_left (by decide) _
theorem c70(z:Int)(b:nO z 1000000):run tab X 70 [.p (eI z)] []=some ([.p (eW z)],[]):=
 aY (hX _ rfl) (by unfold nO at b;have c:=bytes9 X hX b;rw[eI,e70,dI,show F5 (bG B9 z.natAbs).length 2147483648=true from decide_eq_true (by omega),qCt];have a:=avp X hX (decide (z<0)) (nI z.natAbs) z.natAbs (bG B9 z.natAbs) (bG B9 z.natAbs).length [] (BZ (by decide) _) b (qNr _) (List.take_length) (by simp) (by simp;omega);rw[List.nil_append,Pm]at a;exact a)
end
end
section
open Go Go.Skm Go.Skm.Dig
variable {l:List V3}{i:Nat}{e:pG}
theorem afV(h:gG l=true)(f:i<l.length):0<Et (gt l i) (gt l (qx l.length i)):=by
 have d:=(QM h).ne i;rw[zO,DZ f]at d;have g:=aiV (gt l i) (gt l (qx l.length i));rcases Int.lt_or_eq_of_le g with c | c
 . exact c
 . exfalso;refine d ?_;unfold Et yQ at c;have a:=Yy ((gt l (qx l.length i)).x-(gt l i).x);have b:=Yy ((gt l (qx l.length i)).y-(gt l i).y);have j:=Int.mul_eq_zero.1 (show((gt l (qx l.length i)).x-(gt l i).x)*((gt l (qx l.length i)).x-(gt l i).x)=0 by omega);have b0:=Int.mul_eq_zero.1 (show((gt l (qx l.length i)).y-(gt l i).y)*((gt l (qx l.length i)).y-(gt l i).y)=0 by omega);show(⟨(gt l i).x,(gt l i).y⟩:Pt)=⟨(gt l (qx l.length i)).x,(gt l (qx l.length i)).y⟩;grind
theorem Py(a:i<l.length):gt (BU l) i=gt l ((l.length-i)%l.length):=by
 unfold BU;cases i with
 | zero=>rw[Nat.sub_zero,Nat.mod_self];rfl
 | succ i =>rw[Nat.mod_eq_of_lt (by omega)];grind
theorem VO(h:e∈fH (BU l))(d:0<l.length):∃ j,j<l.length/\e=(flat (gt l (qx l.length j)),flat (gt l j)):=by
 obtain⟨i,b,rfl⟩:=jq.1 h;have a:=Gy d;rw[a]at b;refine⟨l.length-1-i,by omega,?_⟩;show(flat (gt (BU l) i),flat (gt (BU l) (qx (BU l).length i)))=_;rw[a,Py b,Py (show qx l.length i<l.length from qNm _ d)];have g:(l.length-i)%l.length=qx l.length (l.length-1-i):=by unfold qx;congr 1;omega
 have f:(l.length-qx l.length i)%l.length=l.length-1-i:=by
  unfold qx;by_cases c:i+1<l.length
  . rw[Nat.mod_eq_of_lt c,Nat.mod_eq_of_lt (by omega)];omega
  . rw[show i+1=l.length by omega,Nat.mod_self,Nat.sub_zero,Nat.mod_self];omega
 rw[g,f]
theorem aje(a b:V3):Et a b=Et b a:=by unfold Et yQ;grind
theorem YF{b:Bool}(h:gG l=true)(a:e∈fH (orient b l)):0<Et e.1 e.2:=by
 have f:=(ig h).1;unfold orient at a;split at a
 . obtain⟨i,d,rfl⟩:=jq.1 a;exact afV h d
 . obtain⟨j,c,rfl⟩:=VO a (by omega);rw[aje];exact afV h c
theorem aeg{f:Fen}(h:eX f=true):∀ e∈iD f,0<Et e.1 e.2:=by
 obtain⟨d,c⟩:=mM h;intro e a;rcases List.mem_append.1 a with a | a
 . exact YF d a
 . obtain⟨x,b,a⟩:=List.mem_flatMap.1 a;exact YF (c x b) a
section
variable (X:Ext) (hX:Mine X)
include hX
end
end
section
open Go Go.Skm
variable {l:List V3}{j:Nat}{f:Fen}{e:pG}
theorem afZ(c:j<l.length):Fp l (gt l j)=0:=by
 rw[Pv];have d:Jw (pts l) l.length (pt (gt l j)):=⟨j,c,by
  rw[DZ c];have e:∀ a b:Int,BP a b a:=λa b=>by unfold BP;omega
  exact⟨Pz _ _,e _ _,e _ _⟩⟩
 unfold Oz;rw[if_pos d]
theorem af0{f:Nat->Int}{k:Nat}:∀{n},(∀ i,k<=i->i<k+n->f i=0)->sg f k n=0
 | 0,_=>rfl
 | n+1,h=>by show sg f k n+f (k+n)=0;rw[af0 λi a b=>h i a (by omega),h (k+n) (by omega) (by omega)];rfl
theorem PD{p:Nat->Pt}{n:Nat}{x:Pt}(h:Oz p n x=1):∃ i,i<=n/\x.y<(p i).y:=by
 unfold Oz at h;split at h
 . cases h
 . split at h
   . next hw =>
     refine Classical.byContradiction λd=>hw ?_;refine af0 λi _ b=>?_;have a:∀ i,i<=n->¬ x.y<(p i).y:=λi b c=>d ⟨i,b,c⟩;have k:=a i (by omega);have g:=a (i+1) (by omega);rcases D8 x (p i) (p (i+1))with h | h | h
     . omega
     . omega
     . exact h
   . cases h
theorem acp{o h:List V3}(H:gG o=true)(J:gG h=true)(D:∀ e∈fH h,edgeOk e o=true)(I:∀ j,j<h.length->0<=Fp o (gt h j)){i:Nat}(w:i<o.length):¬ 0<Fp h (gt o i):=by
 intro L;have lo:=ig H;have U:=ig J;have r:=VZ D;have one:∀{l:List V3} {p:V3},0<Fp l p->Oz (pts l) l.length (pt p)=1:=λ{l p} h=>by rw[Pv]at h;rcases ahe (pts l) l.length (pt p)with e | e | e<;>omega
 have B:∀ k,k<o.length->Oz (pts h) h.length (pt (gt o k))=1:=λk t=>one (by rw[Px r k t,<- Px r i w];exact L);have s:∀ k,k<h.length->Oz (pts o) o.length (pt (gt h k))=1:=λk t=>one (by
  have N:=I k t;rcases Int.lt_or_eq_of_le N with d | d
  . exact d
  . exfalso;rw[Pv]at d;have M:Jw (pts o) o.length (pt (gt h k)):=by
     unfold Oz at d;split at d
     . assumption
     . split at d<;>cases d
    obtain⟨j,E,g⟩:=M;have q:=D7.1 (D _ (jq.2 ⟨k,t,rfl⟩)) _ (jq.2 ⟨j,E,rfl⟩);rw[VH,Gw,decide_eq_false_iff_not]at q;rw[DZ E,zO]at g;exact q (.inr (.inr (.inl g))))
 obtain⟨a,V,n⟩:=highest (pts o) o.length;obtain⟨c,K,C⟩:=highest (pts h) h.length;have b:∀{l:List V3} {k:Nat},0<l.length->∃ m,m<l.length/\pts l k=pt (gt l m):=λ{l k} O=>⟨k%l.length,qNm _ O,rfl⟩;obtain⟨a',A,Q⟩:=b (l:=o) (k:=a) (by omega);obtain⟨R,z,P⟩:=b (l:=h) (k:=c) (by omega);obtain⟨x,G,v⟩:=PD (B a' A);obtain⟨y,F,u⟩:=PD (s R z);rw[<- Q]at v;rw[<- P]at u;have T:=n y F;have S:=C x G;omega
theorem YO(g:eX f=true)(m:l=f.outer\/l∈f.holes)(d:j<l.length):XT f (gt l j).x (gt l j).y 1=true:=by
 obtain⟨u,p,n⟩:=JQ g;have s:=(mM g).2;unfold XT;simp only[qBa,qDa,qBb,List.any_eq_false];have get:∀{h:List V3},h∈f.holes->∃ i,i<f.holes.length/\h=gh f.holes i:=λ{h} c=>by obtain⟨i,b,e⟩:=List.getElem_of_mem c;exact⟨i,b,by rw[<- e];simp[gh,List.getD,qLd b]⟩
 rcases m with rfl | m
 . refine⟨by show 0<=Fp f.outer (gt f.outer j);rw[afZ d];exact Int.le_refl _,λh c=>?_⟩;obtain⟨i,b,rfl⟩:=get c;obtain⟨r,_,o⟩:=AL _ _ p i b;exact acp u (s _ c) (r f.outer (by simp)) o d
 . obtain⟨i,b,rfl⟩:=get m;obtain⟨r,_,o⟩:=AL _ _ p i b;refine⟨o j d,λh c=>?_⟩;obtain⟨k,t,rfl⟩:=get c;show ¬ 0<Fp (gh f.holes k) (gt (gh f.holes i) j);by_cases a:i=k
   . subst a;rw[afZ d];decide
   . rw[Px (YM g b t a) j d];unfold NC at n;simp only[kJ]at n;have q:=n i (by omega) (by omega) k (by omega) (by omega);unfold yx at q;rw[if_neg a,qBb,decide_eq_false_iff_not]at q;omega
theorem SG{b:Bool}(d:0<l.length)(a:e∈fH (orient b l)):(∃ j,j<l.length/\e.1=flat (gt l j))/\∃ j,j<l.length/\e.2=flat (gt l j):=by
 unfold orient at a;split at a
 . obtain⟨i,c,rfl⟩:=jq.1 a;exact⟨⟨i,c,rfl⟩,qx l.length i,qNm _ d,rfl⟩
 . obtain⟨i,c,rfl⟩:=VO a d;exact⟨⟨qx l.length i,qNm _ d,rfl⟩,i,c,rfl⟩
theorem alI(c:eX f=true)(a:e∈iD f):XT f e.1.x e.1.y 1=true:=by
 obtain⟨m,k⟩:=mM c;have b:∀{l:List V3},gG l=true->0<l.length:=λi=>by have:=ig i;omega
 rcases List.mem_append.1 a with a | a
 . obtain⟨⟨j,d,g⟩,_⟩:=SG (b m) a;rw[g];exact YO c (.inl rfl) d
 . obtain⟨x,h,a⟩:=List.mem_flatMap.1 a;obtain⟨⟨j,d,g⟩,_⟩:=SG (b (k x h)) a;rw[g];exact YO c (.inr h) d
theorem ahf(a:0<l.length):lX (BU l)=- lX l:=by
 have hp:pts (BU l)=pts (iJ l 0):=by funext i;unfold pts;rw[Gy a,nP,Py (qNm _ a),GN 0 (qNm _ a)];rw[Int.zero_emod,show(0:Int).toNat=0 from rfl,qNz]
 rw[<- YN a 0,Un,Un,hp,Gy a,nP]
theorem SH(b:0<l.length):BA (fH (orient true l))=JG (lX l)/\BA (fH (orient false l))=- JG (lX l):=by
 have a:=ahf b;have e:∀ m,BA (fH m)=lX m:=λ_=>rfl;rw[e,e,Uk];unfold orient;by_cases h:0<lX l
 . rw[decide_eq_true h,if_pos (by rfl),if_neg (by decide),a];omega
 . rw[decide_eq_false h,if_neg (by decide),if_pos (by rfl),a];omega
theorem V5(i:eX f=true):BA (iD f)=BQ f:=by
 obtain⟨n,m⟩:=mM i;have a:∀{l:List V3},gG l=true->0<l.length:=λk=>by have:=ig k;omega
 have c:∀ b:List (List V3),(∀ x∈b,gG x=true)->BA (Nz b)=- yC b:=by
  intro b;induction b with
  | nil=>intro _;rfl
  | cons x r g =>intro d;show BA (fH (orient false x)++Nz r)=- (JG (lX x)+yC r);rw[VJ,(SH (a (d x (by simp)))).2,g λy h=>d y (List.mem_cons_of_mem _ h)];omega
 unfold iD BQ;rw[VJ,(SH (a n)).1,c _ m];omega
end
section
variable {D N1 N2 k m s sd sn td tn u v:Int}{a b c e x z:Pt}
theorem Ij{a:Int}(f:0<s)(h:0<=s*a):0<=a:=by
 rcases Int.lt_or_le a 0 with d | d
 . exact absurd (Int.mul_neg_of_pos_of_neg f d) (by omega)
 . exact d
theorem acA{c e x:Int}(g:0<=u)(f:0<=v)(d:0<u+v)(h:(u+v)*x=u*c+v*e):BP c e x:=by
 rcases Int.le_total c e with i | i
 . have a:=Ij d (a:=x-c) (by have q:(u+v)*(x-c)=v*(e-c):=by grind
                             rw[q];exact Int.mul_nonneg f (by omega))
   have b:=Ij d (a:=e-x) (by have q:(u+v)*(e-x)=u*(e-c):=by grind
                             rw[q];exact Int.mul_nonneg g (by omega))
   grind[BP]
 . have a:=Ij d (a:=c-x) (by have q:(u+v)*(c-x)=v*(c-e):=by grind
                             rw[q];exact Int.mul_nonneg f (by omega))
   have b:=Ij d (a:=x-e) (by have q:(u+v)*(x-e)=u*(c-e):=by grind
                             rw[q];exact Int.mul_nonneg g (by omega))
   grind[BP]
theorem ajC(f:0<=u)(d:0<=v)(g:0<u+v)(j:(u+v)*x.x=u*c.x+v*e.x)(i:(u+v)*x.y=u*c.y+v*e.y):on c e x:=by
 refine⟨?_,acA f d g j,acA f d g i⟩;have o:(u+v)*(x.x-c.x)=v*(e.x-c.x):=by grind
 have n:(u+v)*(x.y-c.y)=v*(e.y-c.y):=by grind
 have l:(u+v)*turn c e x=0:=by grind[turn]
 rcases Int.mul_eq_zero.1 l with h | h;all_goals omega
theorem aar(h:on x z c):∃ k m:Int,0<=k/\0<=m/\0<k+m/\k*x.x+m*z.x=(k+m)*c.x/\k*x.y+m*z.y=(k+m)*c.y:=by
 obtain⟨g,f,d⟩:=h;unfold turn at g;unfold BP at f d;rcases Int.lt_trichotomy x.x z.x with q | q | q
 . exact⟨z.x-c.x,c.x-x.x,by omega,by omega,by omega,by grind,by grind⟩
 . rcases Int.lt_trichotomy x.y z.y with r | r | r
   . exact⟨z.y-c.y,c.y-x.y,by omega,by omega,by omega,by rw[show c.x=x.x by omega,<- q];grind,by grind⟩
   . exact⟨1,0,by omega,by omega,by omega,by rw[show c.x=x.x by omega];omega,by rw[show c.y=x.y by omega];omega⟩
   . exact⟨c.y-z.y,x.y-c.y,by omega,by omega,by omega,by rw[show c.x=x.x by omega,<- q];grind,by grind⟩
 . exact⟨c.x-z.x,x.x-c.x,by omega,by omega,by omega,by grind,by grind⟩
def Com(x z c e:Pt):Prop:=∃ k m u v:Int,0<=k/\0<=m/\0<=u/\0<=v/\0<k+m/\k+m=u+v/\k*x.x+m*z.x=u*c.x+v*e.x/\k*x.y+m*z.y=u*c.y+v*e.y
theorem ajD(h:meet x z c e):Com x z c e:=by
 rcases h with h | h | h | h |⟨l,o⟩
 . obtain⟨k,m,i,g,j,f,d⟩:=aar h;exact⟨k,m,k+m,0,i,g,by omega,by omega,j,by omega,by rw[f];omega,by rw[d];omega⟩
 . obtain⟨k,m,i,g,j,f,d⟩:=aar h;exact⟨k,m,0,k+m,i,g,by omega,by omega,j,by omega,by rw[f];omega,by rw[d];omega⟩
 . obtain⟨k,m,i,g,j,f,d⟩:=aar h;exact⟨k+m,0,k,m,by omega,by omega,i,g,by omega,by omega,by rw[f];omega,by rw[d];omega⟩
 . obtain⟨k,m,i,g,j,f,d⟩:=aar h;exact⟨0,k+m,k,m,by omega,by omega,i,g,by omega,by omega,by rw[f];omega,by rw[d];omega⟩
 . have w:turn c e x-turn c e z=turn x z e-turn x z c:=by unfold turn;grind
   have t:turn c e x*z.x-turn c e z*x.x=turn x z e*c.x-turn x z c*e.x:=by unfold turn;grind
   have r:turn c e x*z.y-turn c e z*x.y=turn x z e*c.y-turn x z c*e.y:=by unfold turn;grind
   generalize turn c e x=g1 at *;generalize turn c e z=g2 at *;generalize turn x z c=t1 at *;generalize turn x z e=t2 at *;have sg:∀{a b:Int},a*b<0->(0<a/\b<0)\/(a<0/\0<b):=λ{a b} h=>by
    rcases Int.lt_trichotomy a 0 with p | p | p
    . rcases Int.lt_or_le 0 b with q | q
      . omega
      . exact absurd (Int.mul_nonneg_of_nonpos_of_nonpos (Int.le_of_lt p) q) (by omega)
    . grind
    . rcases Int.lt_or_le b 0 with q | q
      . omega
      . exact absurd (Int.mul_nonneg (Int.le_of_lt p) q) (by omega)
   rcases sg o with⟨p,q⟩ |⟨p,q⟩
   . have n:=sg l;exact⟨-g2,g1,t2,-t1,by omega,by omega,by omega,by omega,by omega,by omega,by grind,by grind⟩
   . have n:=sg l;exact⟨g2,-g1,-t2,t1,by omega,by omega,by omega,by omega,by omega,by omega,by grind,by grind⟩
def way(a b:Pt)(D N:Int):Pt:=⟨D*a.x+N*(b.x-a.x),D*a.y+N*(b.y-a.y)⟩
def sN(a b c e:Pt):Int:=(b.x-a.x)*(e.y-c.y)-(b.y-a.y)*(e.x-c.x)
def lu(a b c:Pt):Int:=(b.x-a.x)*(c.x-a.x)+(b.y-a.y)*(c.y-a.y)
def Opn(sn sd tn td p q:Int):Prop:=0<(p*sd-sn*q)*q/\0<(tn*q-p*td)*q
structure Rng (D N1 N2 sn sd tn td:Int):Prop where
 D0:0<D
 s0:0<sd
 t0:0<td
 u1:sn*D<=N1*sd
 u2:N1*td<=tn*D
 v1:sn*D<N2*sd
 v2:N2*td<tn*D
theorem comb{f d h g w t o n:Int}(p q:Int)(l:k*(D*f+N1*h)+m*(D*f+N2*h)=u*(D*w)+v*(D*o))(j:k*(D*d+N1*g)+m*(D*d+N2*g)=u*(D*t)+v*(D*n))(i:k+m=u+v) :
    (k*N1+m*N2)*(p*h+q*g)=D*(u*(p*(w-f)+q*(t-d))+v*(p*(o-f)+q*(n-d))):=by
  have r:(k*N1+m*N2)*(p*h+q*g)=p*(k*(D*f+N1*h)+m*(D*f+N2*h))+q*(k*(D*d+N1*g)+m*(D*d+N2*g))-(k+m)*(D*(p*f+q*d)):=by clear l j i;grind
  rw[r,l,j,i];clear r l j i;grind
theorem ajE(f:sN a b c e=0)(j:0<k+m)(l:0<D)(d:k+m=u+v)
    (i:k*(D*a.x+N1*(b.x-a.x))+m*(D*a.x+N2*(b.x-a.x))=u*(D*c.x)+v*(D*e.x))(g:k*(D*a.y+N1*(b.y-a.y))+m*(D*a.y+N2*(b.y-a.y))=u*(D*c.y)+v*(D*e.y)):turn a b c=0:=by
  have h:=comb (-(b.y-a.y)) (b.x-a.x) i g d;have p:-(b.y-a.y)*(b.x-a.x)+(b.x-a.x)*(b.y-a.y)=0:=by clear h i g d f j l;grind
  have o:-(b.y-a.y)*(c.x-a.x)+(b.x-a.x)*(c.y-a.y)=turn a b c:=by clear h i g d f j l;unfold turn;grind
  have n:-(b.y-a.y)*(e.x-a.x)+(b.x-a.x)*(e.y-a.y)=turn a b c+sN a b c e:=by clear h i g d f j l;unfold turn sN;grind
  rw[p,o,n,f,Int.add_zero,Int.mul_zero,<- Int.add_mul,<- d]at h;rcases Int.mul_eq_zero.1 h.symm with h | h
  . omega
  . rcases Int.mul_eq_zero.1 h with h | h;all_goals omega
theorem wu{a:Int}(f:0<s)(h:0<s*a):0<a:=by
 rcases Int.lt_or_le 0 a with d | d
 . exact d
 . exact absurd (Int.mul_nonpos_of_nonneg_of_nonpos (Int.le_of_lt f) d) (by omega)
theorem acB(h:turn a b c=0):lu a b b*(c.x-a.x)=lu a b c*(b.x-a.x)/\lu a b b*(c.y-a.y)=lu a b c*(b.y-a.y):=by grind[turn,lu]
theorem YG(h:turn a b c=0)(d:sN a b c e=0):turn a b e=0:=by grind[turn,sN]
theorem anL(r:Rng D N1 N2 sn sd tn td):sn*td<tn*sd:=by
 obtain⟨D0,d,t0,_,_,g,f⟩:=r;have i:=Int.mul_pos d (show 0<tn*D-N2*td by omega);have h:=Int.mul_pos t0 (show 0<N2*sd-sn*D by omega);have e:D*(tn*sd-sn*td)=sd*(tn*D-N2*td)+td*(N2*sd-sn*D):=by grind
 have:=wu D0 (a:=tn*sd-sn*td) (by omega);omega
theorem ajF(r:Rng D N1 N2 sn sd tn td)(n:0<lu a b b)(G:turn a b c=0)(F:turn a b e=0)(O:lu a b c*sd<=sn*lu a b b)(N:tn*lu a b b<=lu a b e*td):on (scp D c) (scp D e) (way a b D N1):=by
 have st:=anL r;obtain⟨D0,l,t0,M,L,_,_⟩:=r;obtain⟨K,J⟩:=acB G;obtain⟨I,H⟩:=acB F;generalize lu a b b=q at *;generalize lu a b c=p at *;generalize lu a b e=p' at *;have A:0<=p'*D-N1*q:=Ij t0 (by
  have f:td*(p'*D-N1*q)=D*(p'*td-tn*q)+q*(tn*D-N1*td):=by grind
  have t:=Int.mul_nonneg (Int.le_of_lt D0) (show 0<=p'*td-tn*q by omega);have o:=Int.mul_nonneg (Int.le_of_lt n) (show 0<=tn*D-N1*td by omega);omega)
 have y:0<=N1*q-p*D:=Ij l (by
  have f:sd*(N1*q-p*D)=q*(N1*sd-sn*D)+D*(sn*q-p*sd):=by grind
  have t:=Int.mul_nonneg (Int.le_of_lt n) (show 0<=N1*sd-sn*D by omega);have o:=Int.mul_nonneg (Int.le_of_lt D0) (show 0<=sn*q-p*sd by omega);omega)
 have w:0<p'-p:=wu (Int.mul_pos l t0) (by
  have f:sd*td*(p'-p)=sd*(p'*td-tn*q)+td*(sn*q-p*sd)+q*(tn*sd-sn*td):=by grind
  have t:=Int.mul_nonneg (Int.le_of_lt l) (show 0<=p'*td-tn*q by omega);have o:=Int.mul_nonneg (Int.le_of_lt t0) (show 0<=sn*q-p*sd by omega);have P:=Int.mul_pos n (show 0<tn*sd-sn*td by omega);omega)
 have E:0<(p'*D-N1*q)+(N1*q-p*D):=by
  have f:(p'*D-N1*q)+(N1*q-p*D)=D*(p'-p):=by grind
  rw[f];exact Int.mul_pos D0 w
 have i:∀{d j h g:Int},q*(h-d)=p*(j-d)->q*(g-d)=p'*(j-d)->((p'*D-N1*q)+(N1*q-p*D))*(D*d+N1*(j-d))=(p'*D-N1*q)*(D*h)+(N1*q-p*D)*(D*g):=λ{d j h g} C B=>by
  refine Int.eq_of_mul_eq_mul_left (show q≠0 by omega) ?_;have f:q*((p'*D-N1*q)*(D*h)+(N1*q-p*D)*(D*g))=D*((p'*D-N1*q)*(q*(h-d))+(N1*q-p*D)*(q*(g-d)))+q*((p'*D-N1*q)+(N1*q-p*D))*(D*d):=by grind
  rw[f,C,B];grind
 exact ajC A y E (i K I) (i J H)
theorem alT(r:Rng D N1 N2 sn sd tn td)(n:0<lu a b b)(h:Com (way a b D N1) (way a b D N2) (scp D c) (scp D e))
    (c1:sN a b c e≠0->¬ Opn sn sd tn td (sN a c c e) (sN a b c e))
    (c2:sN a b c e=0->turn a b c=0->¬ Opn sn sd tn td (lu a b c) (lu a b b)/\¬ Opn sn sd tn td (lu a b e) (lu a b b)):on (scp D c) (scp D e) (way a b D N1):=by
  obtain⟨k,m,u,v,J,Z,F,E,L,i,l,j⟩:=h;have M:=r;obtain⟨D0,Y,t0,X,W,V,U⟩:=M;by_cases Q:m=0
  . subst Q;refine ajC F E (by omega) ?_ ?_;all_goals grind
  have lo:0<(k*N1+m*N2)*sd-(k+m)*(sn*D):=by
   have f:(k*N1+m*N2)*sd-(k+m)*(sn*D)=k*(N1*sd-sn*D)+m*(N2*sd-sn*D):=by grind
   have d:=Int.mul_nonneg J (show 0<=N1*sd-sn*D by omega);have o:=Int.mul_pos (show 0<m by omega) (show 0<N2*sd-sn*D by omega);omega
  have A:0<(k+m)*(tn*D)-(k*N1+m*N2)*td:=by
   have f:(k+m)*(tn*D)-(k*N1+m*N2)*td=k*(tn*D-N1*td)+m*(tn*D-N2*td):=by grind
   have d:=Int.mul_nonneg J (show 0<=tn*D-N1*td by omega);have o:=Int.mul_pos (show 0<m by omega) (show 0<tn*D-N2*td by omega);omega
  have l:k*(D*a.x+N1*(b.x-a.x))+m*(D*a.x+N2*(b.x-a.x))=u*(D*c.x)+v*(D*e.x):=l;have j:k*(D*a.y+N1*(b.y-a.y))+m*(D*a.y+N2*(b.y-a.y))=u*(D*c.y)+v*(D*e.y):=j;by_cases w:sN a b c e=0
  . have C:=ajE w L D0 i l j;have t:=YG C w;obtain⟨O,N⟩:=c2 w C;have B:(k*N1+m*N2)*lu a b b=D*(u*lu a b c+v*lu a b e):=comb (b.x-a.x) (b.y-a.y) l j i;have q:∀{p:Int},¬ Opn sn sd tn td p (lu a b b)->p*sd<=sn*lu a b b\/tn*lu a b b<=p*td:=λ{p} h=>by
     rcases Int.lt_or_le (sn*lu a b b) (p*sd)with g | g
     . rcases Int.lt_or_le (p*td) (tn*lu a b b)with R | R
       . exact absurd ⟨Int.mul_pos (by omega) n,Int.mul_pos (by omega) n⟩ h
       omega
     omega
    rcases q O with H | H<;>rcases q N with G | G
    . exfalso;have f:D*(u*(sn*lu a b b-lu a b c*sd)+v*(sn*lu a b b-lu a b e*sd))=(u+v)*(sn*D)*lu a b b-D*(u*lu a b c+v*lu a b e)*sd:=by grind
      rw[<- B,<- i]at f;have d:=Int.mul_nonneg F (show 0<=sn*lu a b b-lu a b c*sd by omega);have o:=Int.mul_nonneg E (show 0<=sn*lu a b b-lu a b e*sd by omega);have T:=Int.mul_nonneg (Int.le_of_lt D0) (Int.add_nonneg d o);have S:=Int.mul_pos lo n;grind
    . exact ajF r n C t H G
    . exact sD.1 (ajF r n t C G H)
    . exfalso;have f:D*(u*(lu a b c*td-tn*lu a b b)+v*(lu a b e*td-tn*lu a b b))=D*(u*lu a b c+v*lu a b e)*td-(u+v)*(tn*D)*lu a b b:=by grind
      rw[<- B,<- i]at f;have d:=Int.mul_nonneg F (show 0<=lu a b c*td-tn*lu a b b by omega);have o:=Int.mul_nonneg E (show 0<=lu a b e*td-tn*lu a b b by omega);have T:=Int.mul_nonneg (Int.le_of_lt D0) (Int.add_nonneg d o);have S:=Int.mul_pos A n;grind
  . exfalso;refine c1 w ?_;have B:(k*N1+m*N2)*sN a b c e=D*(k+m)*sN a c c e:=by
     have h:=comb (e.y-c.y) (-(e.x-c.x)) l j i;have f:(e.y-c.y)*(b.x-a.x)+-(e.x-c.x)*(b.y-a.y)=sN a b c e:=by clear h l j i lo A;unfold sN;grind
     have d:(e.y-c.y)*(c.x-a.x)+-(e.x-c.x)*(c.y-a.y)=sN a c c e:=by clear h l j i lo A;unfold sN;grind
     have o:(e.y-c.y)*(e.x-a.x)+-(e.x-c.x)*(e.y-a.y)=sN a c c e:=by clear h l j i lo A;unfold sN;grind
     simp_all[Int.add_mul,Int.mul_assoc]
    have W0:0<D*(k+m):=Int.mul_pos D0 L;have I:0<sN a b c e*sN a b c e:=by
     rcases Int.lt_or_gt_of_ne w with g | g
     . exact Int.mul_pos_of_neg_of_neg g g
     . exact Int.mul_pos g g
    generalize sN a b c e=K at *;generalize sN a c c e=P at *;constructor
    . refine wu W0 ?_;have f:D*(k+m)*((P*sd-sn*K)*K)=(D*(k+m)*P)*sd*K-sn*(D*(k+m))*K*K:=by grind
      rw[f,<- B];have d:(k*N1+m*N2)*K*sd*K-sn*(D*(k+m))*K*K=((k*N1+m*N2)*sd-(k+m)*(sn*D))*(K*K):=by grind
      rw[d];exact Int.mul_pos lo I
    . refine wu W0 ?_;have f:D*(k+m)*((tn*K-P*td)*K)=tn*(D*(k+m))*K*K-(D*(k+m)*P)*td*K:=by grind
      rw[f,<- B];have d:tn*(D*(k+m))*K*K-(k*N1+m*N2)*K*td*K=((k+m)*(tn*D)-(k*N1+m*N2)*td)*(K*K):=by grind
      rw[d];exact Int.mul_pos A I
theorem ajf{p:Nat->Pt}{n:Nat}(hp:∀ i,p (i+n)=p i)(g:0<lu a b b)(r:Rng D N1 N2 sn sd tn td)
    (f:∀ i,i<n->(sN a b (p i) (p (i+1))≠0->¬ Opn sn sd tn td (sN a (p i) (p i) (p (i+1))) (sN a b (p i) (p (i+1)))) /\
      (sN a b (p i) (p (i+1))=0->turn a b (p i)=0->¬ Opn sn sd tn td (lu a b (p i)) (lu a b b)/\¬ Opn sn sd tn td (lu a b (p (i+1))) (lu a b b))) :
    Oz (λi=>scp D (p i)) n (way a b D N1)=0\/Oz (λi=>scp D (p i)) n (way a b D N1)=Oz (λi=>scp D (p i)) n (way a b D N2):=by
  by_cases j:Jw (λi=>scp D (p i)) n (way a b D N1)
  . grind[Oz]
  . right;exact acd (p:=λi=>scp D (p i)) (λi=>by rw[hp]) λi d h=>j ⟨i,d,alT r g (ajD h) (f i d).1 (f i d).2⟩
end
end Go.Skm.Fen
