import Derived.Test.YtoheflpoanjihaaGreatJ7
import Derived.Test.YtoheflpoanjihaaGreatG19
import Derived.Test.YtoheflpoanjihaaGreatG7
import Derived.Test.YtoheflpoanjihaaGreatR3
import Derived.Test.YtoheflpoanjihaaGreatG22
import Derived.Test.YtoheflpoanjihaaGreatG24
set_option linter.all false
namespace Go.Skm.Fen
open Go Go.Skm
section
open Go.Skm.Dig
variable {l:List V3}{k:Nat}
def pX(l:List V3)(k:Nat):List V3:=gt l 0::(l.drop (k+1)).reverse
theorem Qc(l:List V3):pX l 0=wo l:=by unfold pX wo;rw[List.drop_one]
theorem Ib:(pX l k).length=1+(l.length-(k+1)):=by unfold pX;simp;omega
theorem Nl(h:k+1<l.length):pX l k=pX l (k+1)++[gt l (k+1)]:=by unfold pX;simp_all
def Bz:Nat->List (List V3)->List jW
 | _,[]=>[]
 | i,l::r=>dJ (orient (decide (i=0)) l)++Bz (i+1) r
theorem DF:∀(a:List (List V3)) (i:Nat),Bz (i+1) a=zN a
 |[],_=>rfl
 | h::r,i=>by show _=dJ (orient false h)++zN r;rw[Bz,DF r (i+1),decide_eq_false (by omega)]
abbrev w30:List Wy:=[.lp [1,1,1,0,1,0]]
abbrev Wi:List Wy:=[.lp [1,1,1,0,1,0],.lp [1,0,0,1,0,1,0,1,0,1,0]]
section
variable (X:Ext) (hX:Mine X)
include hX
theorem l30b(l:List V3)(n:l.length<=64)(o b a g:Nat)(i:Int)(c h:List PV)(x:List AV × List Blk)(m:L tab (run tab X) 30 [] Wi (fE o b a g i (encL l) 0 (pX l 0).length 0 c h (encL (pX l 0)))=some x):∀ k:Nat,k<l.length ->
    L tab (run tab X) 30 [] Wi (fE o b a g i (encL l) 0 (pX l k).length (k:Int) c h (encL (pX l k)))=some x:=by
  have _:=hX;intro k;induction k with
  | zero=>intro _;exact m
  | succ k j =>
   intro f;have d:=j (by omega);have q:=@Ib l (k+1);have p:=@Ib l k;refine L_of ?_;show R tab _ _ _ [.lp [1,1,1,0,1,0],.lp [1,0,0,1,0,1,0,1,0,1,0]] _=_;rw[pI,show gtI ((k+1:Nat):Int) 0=true from decide_eq_true (by omega),qCt,encL_length,rng f,qCt,show leN ((pX l (k+1)).length+1) 2147483648=true from decide_eq_true (by omega),qCt,wrap_eq (by omega) (by omega),show((k+1:Nat):Int)-1=(k:Int) by omega,qIt,encL_x,encL_y,encL_z,qLy,List.take_of_length_le (by rw[encL_length];exact qNr _),show(pX l (k+1)).length+1=(pX l k).length by omega];have e:encL (pX l k)=encL (pX l (k+1))++[encV (gt l (k+1))]:=by rw[Nl f];simp[encL]
   rw[e]at d;exact d
theorem l30(P:List (List V3))(z:∀ l∈P,dO l=true)(B:P.length<=17):∀(r:List (List V3)) (i:Nat) (acc:List jW),P.drop i=r->i<=P.length->acc.length<=64*i ->
    L tab (run tab X) 30 [] w30 (qo 0 acc.length 0 P.length (i:Int) (acc.map H9) (bK P))=some ([.fresh true kE ((acc++Bz i r).map H9)],[]):=by
  intro r;induction r with
  | nil =>intro i acc hd c _;have m:i=P.length:=Nat.le_antisymm c (List.drop_eq_nil_iff.1 hd);subst m;refine L_of ?_;rw[Fb,xO (by omega),qCf,qLy,List.take_of_length_le (by rw[qLm];exact qNr _),Bz,List.append_nil]
  | cons l r v =>
   intro i acc hd _ s;have n:P[i]?=some l:=by have:=congrArg (·[0]?) hd;grind
   have c:=(qLa.1 n).1;have x:gh P i=l:=by simp[gh,List.getD,n]
   have q:=z l (qLe n);obtain⟨A,t,_⟩:=gX q;have f:∀ b,(orient b l).length=l.length:=λb=>FN (by omega);have a:∀ b,(dJ (orient b l)).length=l.length:=λb=>by rw[jr,f]
   have o:=v (i+1) (acc++dJ (orient (decide (i=0)) l)) (by rw[<- List.drop_drop,hd];rfl) c (by rw[qLp,a];omega);rw[qLp,a,List.map_append,List.append_assoc]at o;have j:=acI X hX q;have d:=c44 X hX (orient (decide (i=0)) l) (by rw[f];omega);rw[xC]at d;have g:(run tab X 44 [Al (encL (orient (decide (i=0)) l))] []).bind (λh=>bif leN (acc.length+(h.1.headD .undef).freshList.length) 2147483648 then L tab (run tab X) 30 [] w30 (qo 0 (acc.length+(h.1.headD .undef).freshList.length) 0 P.length ((i+1:Nat):Int) ((((acc.map H9).drop 0).take acc.length)++((((h.1.headD .undef).freshList).drop 0).take (h.1.headD .undef).freshList.length)) (bK P))else none)=some ([.fresh true kE ((acc++Bz i (l::r)).map H9)],[]):=by rw[d,qOb];simp only[qLh,AV.freshList,qLm,a];rw[show leN (acc.length+l.length) 2147483648=true from decide_eq_true (by omega),qCt,qLy,qLy,List.take_of_length_le (by rw[qLm];exact qNr _),List.take_of_length_le (by rw[qLm,a];exact qNr _),o,Bz]
   have w:((i:Int)==0)=decide (i=0):=by grind
   have e:orient (decide (i=0)) l=if gtI (lg l) 0==((i:Int)==0)then l else wo l:=by rw[w];rfl
   refine L_of ?_;rw[Fb,rZ c,qCt];simp only[rng c,qCt,qIt,qNz,gY P c,x,dL (show i<=9000000000000000000 by omega)];show(run tab X 54 [Al (encL l)] []).bind _=_;rw[j,qOb];simp only[qLh,pv_p,toInt_int];cases y:(gtI (lg l) 0==((i:Int)==0))with
   | true=>simp_all
   | false =>
    rw[y,if_neg Bool.false_ne_true]at e;rw[e]at g;have u:pX l (l.length-1)=[gt l 0]:=by unfold pX;rw[List.drop_eq_nil_iff.2 (by omega)];rfl
    have p:=l30b X hX l t 0 acc.length 0 P.length (i:Int) (acc.map H9) (bK P) _ (L_of (show R tab (run tab X) 30 [] [.lp [1,1,1,0,1,0],.lp [1,0,0,1,0,1,0,1,0,1,0]] _=_ by rw[pI,show gtI 0 0=false from rfl,qCf,qLy,List.take_of_length_le (by rw[encL_length];exact qNr _),Qc,dL (show i<=9000000000000000000 by omega)];exact g)) (l.length-1) (by omega);rw[u]at p;rw[Bool.not_false,qCt];show(bif ltI 0 (((encL l).length:Nat):Int)then L tab (run tab X) 30 [] Wi (fE 0 acc.length 0 P.length (i:Int) (encL l) 0 1 (IntKind.i64.wrap ((((encL l).length:Nat):Int)-1)) (acc.map H9) (bK P) [.agg [Av ((((encL l).getD 0 .nil).cell 0).toInt),Av ((((encL l).getD 0 .nil).cell 1).toInt),Av ((((encL l).getD 0 .nil).cell 2).toInt)]])else none)=_;rw[encL_length,show ltI 0 ((l.length:Nat):Int)=true from decide_eq_true (by omega),qCt,wrap_eq (by omega) (by omega),show((l.length:Nat):Int)-1=((l.length-1:Nat):Int) by omega,encL_x,encL_y,encL_z];exact p
theorem c30(f:Fen)(h:validP f=true):run tab X 30 [.p (encF f)] []=some ([.fresh true kE ((dS f).map H9)],[]):=
 run_of (hX _ rfl) (by
  obtain⟨c,b⟩:=nT h;have d:=(oJ h).2.1;have k:=l30 X hX (f.outer::f.holes) (λl a=>(List.mem_cons.1 a).elim (λe=>e▸c) (b l)) (by rw[qLl];omega) _ 0 [] rfl (Nat.zero_le _) (Nat.zero_le _);have e:Bz 0 (f.outer::f.holes)=dS f:=by show _++Bz (0+1) f.holes=_;rw[DF];rfl
  rw[List.nil_append,qLy,e]at k;rw[encF,e30,bM,show leN (1+f.holes.length) 2147483648=true from decide_eq_true (by omega),qCt,Nat.add_comm];exact k)
end
end
section
open Go.Skm.Dig
theorem RH{B p:Nat}(x r s:Nat)(q:Nat)(h:(r*B+x) / 256=q):(q+B*s)*256+(r*B+x)%256=x+B*(s*256+r):=by grind
abbrev wA:List Wy:=[.lp [1,1,1,0,0]]
abbrev wB:List Wy:=[.lp [1,1,1,0,0],.lp [1,0,1,0,1,0]]
abbrev wC:List Wy:=[.lp [1,1,1,1,1,0,1,0]]
theorem KR(k:IntKind)(l:List Nat)(i:Nat)(h:i<l.length):(aY k l).getD i .nil=.int k (l.getD i 0:Nat):=by grind[aY]
theorem RI(p q:List Nat)(x:Nat):(p++[x]++q).getD p.length 0=x:=by simp
theorem V8(p q:List Nat)(x y:Nat):(p++[x]++q).set p.length y=p++([y]++q):=by simp
theorem Uz {α:Type} (P:List α->Prop) (h0:P []) (h1:∀ l x,P l->P (l++[x])) (l:List α):P l:=by
 have:∀ m:List α,P m.reverse:=by
  intro m
  induction m with
  | nil=>exact h0
  | cons x m ih=>rw[List.reverse_cons];exact h1 _ _ ih
 rw[<- List.reverse_reverse l]
 exact this _
section
variable (X:Ext) (hX:Mine X)
include hX
theorem acu(e:Bool)(xs:List PV)(g:Bool)(n:ByteArray)(q:List PV)(o bl:Nat)(T:List Nat)(c:List AV × List Blk) :
    ∀ b:List Nat,∀(a:List Nat) (r:Nat),ok B9 b->ok B9 a->r<256->b.length+a.length<=1000000000 ->
    (∀(Q:List Nat) (f:Nat),Q.length=b.length+a.length->ok B9 Q->f<256->val B9 Q*256+f=val B9 b+B9^b.length*(val B9 a*256+r)->L tab (run tab X) 70 [] wB (je o bl 0 Q.length (f:Int) (-1) e xs g n q (aY .i64 (Q++T)))=some c) ->
    L tab (run tab X) 70 [] wB (je o bl 0 (b.length+a.length) (r:Int) ((b.length:Int)-1) e xs g n q (aY .i64 (b++a++T)))=some c:=by
  have _:=hX;intro b;induction b using Uz with
  | h0 =>intro a r hp j t u h;have:=h a r (by simp) j t (by simp[val]);grind
  | h1 l x w =>
   intro a r hp j t u h;rw[iG]at hp;obtain⟨E,A⟩:=hp;have z:x<B9:=A x (by simp);have H:B9=1000000000:=rfl;rw[qLp,List.length_singleton]at u h ⊢;have v:r*B9+x<256*B9:=by grind
   have D:(r*B9+x) / 256<B9:=Nat.div_lt_of_lt_mul (by omega);have k:(r*B9+x)%256<256:=qNm _ (by decide);have i:=w ((r*B9+x) / 256::a) ((r*B9+x)%256) E (oQ.2 ⟨D,j⟩) k (by simp;omega) (λQ f F m s C=>by refine h Q f (by rw[F];simp;omega) m s ?_;rw[C,jg];have d:=RH (B:=B9) (p:=0) x r (val B9 a) _ rfl;show val B9 l+B9^l.length*(((r*B9+x) / 256+B9*val B9 a)*256+(r*B9+x)%256)=_;grind);refine L_of ?_;have y:((l.length+1:Nat):Int)-1=(l.length:Int):=by omega
   rw[vK,y,show geI (l.length:Int) 0=true from decide_eq_true (by omega),qCt];have G:ltI (l.length:Int) ((l.length+1+a.length:Nat):Int)=true:=decide_eq_true (by omega);rw[show leI (0:Int) (l.length:Int)=true from decide_eq_true (by omega),G];simp only[qBs,qCt,qIt,qNz];rw[KR _ _ _ (by simp),show l++[x]++a++T=l++[x]++(a++T) by simp,RI];have c1:IntKind.i64.wrap ((r:Int)*1000000000)=((r*B9:Nat):Int):=by rw[wrap_eq (by omega) (by omega),H];omega
   have c2:IntKind.i64.wrap (((r*B9:Nat):Int)+(x:Int))=((r*B9+x:Nat):Int):=by rw[wrap_eq (by omega) (by omega)];omega
   have c3:IntKind.i64.wrap (((r*B9+x:Nat):Int).tdiv 256)=(((r*B9+x) / 256:Nat):Int):=by rw[show((r*B9+x:Nat):Int).tdiv 256=(((r*B9+x) / 256:Nat):Int) from rfl,wrap_eq (by omega) (by omega)]
   have c4:((r*B9+x:Nat):Int).tmod 256=(((r*B9+x)%256:Nat):Int):=rfl;have c5:IntKind.i64.wrap ((l.length:Int)-1)=(l.length:Int)-1:=wrap_eq (by omega) (by omega);show L tab (run tab X) 70 [] wB (je o bl 0 (l.length+1+a.length) ((IntKind.i64.wrap (IntKind.i64.wrap ((r:Int)*1000000000)+(x:Int))).tmod 256) (IntKind.i64.wrap ((l.length:Int)-1)) e xs g n q ((aY .i64 (l++[x]++(a++T))).set l.length (Av (IntKind.i64.wrap ((IntKind.i64.wrap (IntKind.i64.wrap ((r:Int)*1000000000)+(x:Int))).tdiv 256)))))=some c;rw[c1,c2,c3,c4,c5,iO,V8];rw[qLl]at i;grind
theorem acw(c:Bool)(xs:List PV)(g:Bool)(e:ByteArray)(b:List Nat)(o:∀ x∈b,x<256)(m:b.length<=1000000000):∀(i:Nat) (a:List Nat),i<=b.length->a.length+i=b.length ->
    L tab (run tab X) 70 [] wC (oW 0 b.length 0 a.length ((i:Int)-1) c xs g e (aY .u8 b) (aY .u8 a))=some ([.p (.agg [.bool c,.str (bytesOf (aY .u8 (a++(b.take i).reverse)))])],[]):=by
  have _:=hX;intro i;induction i with
  | zero =>intro a _ k;refine L_of ?_;rw[Aj,show geI (((0:Nat):Int)-1) 0=false from rfl,qCf];rw[show(aY .u8 a).drop 0=aY .u8 a from qLy,<- bG .u8 a,List.take_length];simp
  | succ i h =>
   intro a n k;have d:i<b.length:=by omega
   refine L_of ?_;have j:((i+1:Nat):Int)-1=(i:Int):=by omega
   rw[Aj,j,show geI (i:Int) 0=true from decide_eq_true (by omega),qCt];have l:ltI (i:Int) (b.length:Int)=true:=decide_eq_true (by omega);rw[show leI (0:Int) (i:Int)=true from decide_eq_true (by omega),l];simp only[qBs,qCt,qIt,qNz];rw[show leN (a.length+1) 2147483648=true from decide_eq_true (by omega),qCt,KR _ _ _ d];have s:((aY .u8 a).drop 0).take a.length=aY .u8 a:=by rw[qLy,<- bG .u8 a,List.take_length]
   have c5:IntKind.i64.wrap ((i:Int)-1)=(i:Int)-1:=wrap_eq (by omega) (by omega);show L tab (run tab X) 70 [] wC (oW 0 b.length 0 (a.length+1) (IntKind.i64.wrap ((i:Int)-1)) c xs g e (aY .u8 b) (((aY .u8 a).drop 0).take a.length++([.int .u8 ((b.getD i 0:Nat):Int)]:List PV)))=_;have r:aY .u8 a++([.int .u8 ((b.getD i 0:Nat):Int)]:List PV)=aY .u8 (a++[b.getD i 0]):=by rw[<- rE];rfl
   have q:(b.take (i+1)).reverse=b.getD i 0::(b.take i).reverse:=by simp_all
   have f:=h (a++[b.getD i 0]) (by omega) (by simp;omega);grind[qLp,List.length_singleton]
theorem acy(e:Bool)(xs:List PV):∀(m:Nat) (b:List Nat) (l:Nat) (a:List Nat),ok B9 b->b.length<=1000000->l<=b.length->b.take l=aW B9 m->(∀ x∈a,x<256)->a.length+(aW 256 m).length<=100000000 ->
    L tab (run tab X) 70 [] wA (yN 0 a.length 0 l e xs false ⟨#[]⟩ (aY .u8 a) (aY .i64 b))=some ([.p (.agg [.bool e,.str (bytesOf (aY .u8 (a++aW 256 m).reverse))])],[]):=by
  intro m;induction m using Nat.strongRecOn with
  | ind m z =>
   intro b l a u G K E F B;have c:l=(aW B9 m).length:=by grind
   by_cases w:m=0
   . subst w;rw[dF]at c ⊢;rw[List.length_nil]at c;subst c;rw[List.append_nil];refine L_of ?_;rw[G8,show gtI ((0:Nat):Int) 0=false from rfl,qCf,wrap_eq (by omega) (by omega)];have f:=acw X hX e xs false ⟨#[]⟩ a F (by omega) a.length [] (qNr _) (by simp);rw[List.take_length,List.nil_append]at f;exact f
   . have t:0<l:=by rw[c];exact List.length_pos_iff.2 λh=>w ((kP (by decide)).1 h)
     have y:aW 256 m=m%256::aW 256 (m / 256):=xQ (by decide) (by omega);refine L_of ?_;rw[G8,show gtI (l:Int) 0=true from decide_eq_true (by omega),qCt,wrap_eq (by omega) (by omega)];have M:b=b.take l++[]++b.drop l:=by simp
     have r:ok B9 (b.take l):=λd hd=>u d (List.mem_of_mem_take hd);have s:ok B9 (b.drop l):=λd hd=>u d (List.mem_of_mem_drop hd);have A:(b.take l).length=l:=by simp;omega
     have f:=acu X hX e xs false ⟨#[]⟩ (aY .u8 a) 0 a.length (b.drop l) ([.p (.agg [.bool e,.str (bytesOf (aY .u8 (a++aW 256 m).reverse))])],[]) (b.take l) [] 0 r (pY _) (by decide) (by simp;omega) (λQ i v g C k=>by
      rw[A]at v k;rw[List.length_nil,Nat.add_zero]at v;have j:val B9 (b.take l)=m:=by rw[E,lH (by decide)]
      rw[j]at k;simp only[val,Nat.zero_mul,Nat.add_zero,Nat.mul_zero]at k;have D:val B9 Q=m / 256:=by omega
      have J:i=m%256:=by omega
      refine L_of ?_;rw[vK,show geI (-1:Int) 0=false from rfl,qCf];rw[show leN (a.length+1) 2147483648=true from decide_eq_true (by omega),qCt];have q:(Q++b.drop l).length<=2147483648:=by simp;omega
      rw[c130 X hX (Q++b.drop l) q 0 Q.length (by simp),qOb];have I:((Q++b.drop l).drop 0).take Q.length=Q:=by simp
      rw[I];have n:trim Q=aW B9 (m / 256):=lX (by decide) g D;have H:((aY .u8 a).drop 0).take a.length++([.int .u8 (IntKind.u8.wrap (i:Int))]:List PV)=aY .u8 (a++[m%256]):=by
       rw[qLy,<- bG .u8 a,List.take_length,<- rE];have:IntKind.u8.wrap (i:Int)=((m%256:Nat):Int):=by grind[IntKind.bits,IntKind.signed,IntKind.wrap]
       rw[this];rfl
      rw[H];have o:m / 256<m:=Nat.div_lt_self (by omega) (by decide);have oP:=z (m / 256) o (Q++b.drop l) (trim Q).length (a++[m%256]) (iG.2 ⟨g,s⟩) (by simp;omega) (by
       have:=FZ Q;rw[qLp];omega) (by
       rw[List.take_append_of_le_length (FZ Q),mG,n]) (by
       grind) (by
       rw[y,qLl]at B;rw[qLp,List.length_singleton];omega)
      rw[qLp,List.length_singleton]at oP;rw[y,show a++m%256::aW 256 (m / 256)=a++[m%256]++aW 256 (m / 256) by simp];exact oP)
     grind
theorem bytes9{n k:Nat}(h:(aW B9 n).length<=k):(aW 256 n).length<=4*k:=by have _:=hX;refine lI (by decide) (Nat.lt_of_lt_of_le (oU (b:=B9) (by decide)) (Nat.le_trans (Nat.pow_le_pow_right (by decide) h) ?_));rw[Nat.pow_mul];exact Nat.pow_le_pow_left (by decide) _
theorem c70(z:Int)(b:jd z 1000000):run tab X 70 [.p (eI z)] []=some ([.p (eW z)],[]):=
 run_of (hX _ rfl) (by unfold jd at b;have c:=bytes9 X hX b;rw[eI,e70,bG,show leN (aW B9 z.natAbs).length 2147483648=true from decide_eq_true (by omega),qCt];have a:=acy X hX (decide (z<0)) (nI z.natAbs) z.natAbs (aW B9 z.natAbs) (aW B9 z.natAbs).length [] (sF (by decide) _) b (qNr _) (List.take_length) (by simp) (by simp;omega);rw[List.nil_append,Ba]at a;exact a)
end
end
section
open Go.Skm.Dig
variable {k:Nat}
theorem OG{l:List V3}{i:Nat}(a:i<l.length):gt (wo l) i=gt l ((l.length-i)%l.length):=by
 unfold wo;cases i with
 | zero=>rw[Nat.sub_zero,Nat.mod_self];rfl
 | succ i =>rw[Nat.mod_eq_of_lt (by omega)];grind
theorem y8.val{v:PV}{N D N' D':Int}(h:y8 v N D k)(b:N=N')(a:D=D'):y8 v N' D' k:=b▸a▸h
section
variable (X:Ext) (hX:Mine X)
include hX
theorem c84(a b:V3)(f:iy a)(C:iy b){n d u w:Int}(h:y8 (eQ n d) u w k)(O:0<w)(g:3<=k)(P:k<=10000) :
    ∃ r s e c,run tab X 84 [.p (encV a),.p (encV b),.p (eQ n d)] []=some ([.p (Em r s e c)],[])/\y8 (eQ r s) (a.x*w+(b.x-a.x)*u) w (4*k+1)/\y8 (eQ e c) (a.y*w+(b.y-a.y)*u) w (4*k+1):=by
  obtain⟨J,y1⟩:=jD f C;obtain⟨R,Q,_⟩:=f;have q:∀ z:Int,-33554432<=z->z<=33554432->∀ j,3<=j->y8 (eQ z 1) z 1 j:=λz E D j B=>uV (bJ (jS (by omega) (by omega)) B) (by omega);have r:=λz (E:(-33554432:Int)<=z) (D:z<=33554432)=>c57 X hX z (by omega) (by omega);obtain⟨N,L,I,A⟩:=RJ X hX (q (b.x-a.x) (by omega) (by omega) k g) h (by omega);obtain⟨s2,l,H,v⟩:=V9 X hX (q a.x (by omega) (by omega) (k+k) (by omega)) A (by omega);obtain⟨M,K,G,t⟩:=RJ X hX (q (b.y-a.y) (by omega) (by omega) k g) h (by omega);obtain⟨m,i,F,o⟩:=V9 X hX (q a.y (by omega) (by omega) (k+k) (by omega)) t (by omega);refine⟨s2,l,m,i,run_of (hX _ rfl) ?_,(v.val (by grind) (by grind)).mono (by omega),(o.val (by grind) (by grind)).mono (by omega)⟩;rw[encV,encV,eQ,e84,wrap_eq (by omega) (by omega),wrap_eq (by omega) (by omega),r a.x (by omega) (by omega)];simp only[qOb,qLh,pv_p,iC];rw[r (b.x-a.x) (by omega) (by omega)];simp only[qOb,qLh,pv_p,iC];rw[zV n d,I];simp only[qOb,qLh,pv_p,iC];rw[H];simp only[qOb,qLh,pv_p,iC];rw[r a.y (by omega) (by omega)];simp only[qOb,qLh,pv_p,iC];rw[r (b.y-a.y) (by omega) (by omega)];simp only[qOb,qLh,pv_p,iC];rw[G];simp only[qOb,qLh,pv_p,iC];rw[F];rfl
end
end
section
variable {s t u v x y z:Rt}{a b c d:V3}{l:List V3}{f:Fen}
def En(f:Fen)(a b:V3)(r:Rt):Bool:=GR f (fD a.x b.x r) (fD a.y b.y r) r.d
abbrev CU(s t:Rt):Prop:=¬ nK t s
abbrev Jj(s t:Rt)(q:Int × Int):Prop:=Opn s.n s.d t.n t.d q.1 q.2
theorem UE{p q:Int}:Jj s t (-p,-q)↔Jj s t (p,q):=by
 have g:((-p)*s.d-s.n*(-q))*(-q)=(p*s.d-s.n*q)*q:=by grind
 have e:(t.n*(-q)-(-p)*t.d)*(-q)=(t.n*q-p*t.d)*q:=by grind
 simp_all[Jj,Opn]
abbrev Cond(a b c d:V3)(s t:Rt):Prop:=(lG (pt a) (pt b) (pt c) (pt d)≠0->¬ Opn s.n s.d t.n t.d (lG (pt a) (pt c) (pt c) (pt d)) (lG (pt a) (pt b) (pt c) (pt d))) /\
 (lG (pt a) (pt b) (pt c) (pt d)=0->turn (pt a) (pt b) (pt c)=0->¬ Opn s.n s.d t.n t.d (iw (pt a) (pt b) (pt c)) (iw (pt a) (pt b) (pt b))/\¬ Opn s.n s.d t.n t.d (iw (pt a) (pt b) (pt d)) (iw (pt a) (pt b) (pt b)))
theorem OH(h:∀ q∈jX a b c d,¬ Jj s t q):Cond a b c d s t:=by
 unfold jX at h;constructor
 . intro e;rw[if_neg (show ¬ uG a b c d=0 from e)]at h;exact h (uG a c c d,uG a b c d) (by simp)
 . intro e g;rw[if_pos (show uG a b c d=0 from e),if_pos (show area a b c=0 from g)]at h;exact⟨h (pU a b c,xq a b) (by simp),h (pU a b d,xq a b) (by simp)⟩
theorem Qd(h:Cond a b d c s t):Cond a b c d s t:=by
 have n:lG (pt a) (pt b) (pt d) (pt c)=- lG (pt a) (pt b) (pt c) (pt d):=by unfold lG;grind
 have m:lG (pt a) (pt d) (pt d) (pt c)=- lG (pt a) (pt c) (pt c) (pt d):=by unfold lG;grind
 obtain⟨e,i⟩:=h;rw[n]at e i;rw[m]at e;constructor
 . intro g k;exact e (by omega) (UE.2 k)
 . intro g j;obtain⟨p,o⟩:=i (by omega) (Ic j g);grind
theorem KZ(j:0<xq a b)(G:0<s.d)(F:0<t.d)(g:0<u.d)(o:0<v.d)(D:CU s u)(C:CU u t)(m:nK s v)(k:nK v t)
    (H:∀ i,i<l.length->Cond a b (ca l i) (cb l i) s t) :
    uz l (fD a.x b.x u) (fD a.y b.y u) u.d=0\/uz l (fD a.x b.x u) (fD a.y b.y u) u.d=uz l (fD a.x b.x v) (fD a.y b.y v) v.d:=by
  have B:∀{x y:Rt},0<y.d->uz l (fD a.x b.x x) (fD a.y b.y x) x.d=LY (λi=>scp (x.d*y.d) (pts l i)) l.length (way (pt a) (pt b) (x.d*y.d) (x.n*y.d)):=λ{x y} E=>by
   rw[<- yU l _ _ _ E,Int.mul_comm y.d x.d];unfold uz;have q:∀ e h:Int,y.d*fD e h x=x.d*y.d*e+x.n*y.d*(h-e):=λe h=>by unfold fD;grind
   rw[q,q];rfl
  have I:=B (x:=u) o;have A:=B (x:=v) g;rw[Int.mul_comm v.d u.d]at A;rw[I,A];simp only[CU,nK]at D C m k;have r:Rng (u.d*v.d) (u.n*v.d) (v.n*u.d) s.n s.d t.n t.d:=by have M:=Int.mul_le_mul_of_nonneg_right (show s.n*u.d<=u.n*s.d by omega) (show 0<=v.d by omega);have L:=Int.mul_le_mul_of_nonneg_right (show u.n*t.d<=t.n*u.d by omega) (show 0<=v.d by omega);have K:=Int.mul_lt_mul_of_pos_right m g;have J:=Int.mul_lt_mul_of_pos_right k g;exact⟨Int.mul_pos g o,G,F,by grind,by grind,by grind,by grind⟩
  refine RU (p:=pts l) (a:=pt a) (b:=pt b) (IQ l) j r λi w=>?_;rw[Cj w,yT];exact H i w
theorem UF{b:Bool}{i:Nat}(h:i<l.length):(flat (ca l i),flat (cb l i))∈dJ (orient b l)\/(flat (cb l i),flat (ca l i))∈dJ (orient b l):=by
 unfold orient;split
 . exact .inl (qA.2 ⟨i,h,rfl⟩)
 . right;have e:0<l.length:=by omega
   have g:=Hz e;refine qA.2 ⟨l.length-1-i,by omega,?_⟩;show _=(flat (gt (wo l) (l.length-1-i)),flat (gt (wo l) (oP (wo l).length (l.length-1-i))));rw[g,OG (by omega),OG (show oP l.length (l.length-1-i)<l.length from qNm _ e)];have m:(l.length-(l.length-1-i))%l.length=oP l.length i:=by unfold oP;congr 1;omega
   have k:(l.length-oP l.length (l.length-1-i))%l.length=i:=by
    unfold oP;cases i with
    | zero=>rw[show l.length-1-0+1=l.length by omega,Nat.mod_self,Nat.sub_zero,Nat.mod_self]
    | succ j=>rw[Nat.mod_eq_of_lt (show l.length-1-(j+1)+1<l.length by omega),Nat.mod_eq_of_lt (by omega)];omega
   rw[m,k]
def Vl(es:List jW)(a b:V3)(s t:Rt):Prop:=∀ e∈es,∀ q∈jX a b e.1 e.2,¬ Jj s t q
theorem F8{b0:Bool}{j:List jW}(h:Vl j a b s t)(g:∀ e∈dJ (orient b0 l),e∈j):∀ i,i<l.length->Cond a b (ca l i) (cb l i) s t:=λi m=>by
 rcases UF (b:=b0) m with k | k
 . exact OH (h _ (g _ k))
 . exact Qd (OH (h _ (g _ k)))
theorem UG(g:0<xq a b)(w:0<s.d)(r:0<t.d)(q:0<u.d)(p:0<v.d)(n:CU s u)(k:CU u t)(m:nK s v)(j:nK v t)
    (A:Vl (dS f) a b s t)(h:En f a b v=true):En f a b u=true:=by
  have B:=KZ g w r q p n k m j (F8 (b0:=true) (l:=f.outer) A λe i=>List.mem_append.2 (.inl i));have C:∀ x∈f.holes,_:=λx o=>KZ g w r q p n k m j (F8 (b0:=false) (l:=x) A λe i=>List.mem_append.2 (.inr (List.mem_flatMap.2 ⟨x,o,i⟩)));unfold En GR at h ⊢;simp only[qBa,qDa,qBb,List.any_eq_false]at h ⊢;refine⟨?_,λx o=>?_⟩
  . omega
  . grind
theorem le_refl(x:Rt):CU x x:=by simp only[CU,nK];omega
theorem Yo(i:0<x.d)(g:0<y.d)(e:0<z.d)(k:CU x y)(j:nK y z):nK x z:=Decidable.byContradiction λh=>qg e i g h k j
theorem Yp(i:0<x.d)(g:0<y.d)(e:0<z.d)(k:nK x y)(j:CU y z):nK x z:=Decidable.byContradiction λh=>qg g e i j h k
theorem Wj(h:nK x y):CU x y:=by simp only[CU,nK]at *;omega
def allP(P:Rt->Rt->Prop):List Rt->Prop
 | s::t::r=>P s t/\allP P (t::r)
 | _=>True
theorem OI{P:Rt->Rt->Prop}:∀{L:List Rt},(∀ x∈L,∀ y∈L,P x y)->allP P L
 |[],_=>trivial
 |[_],_=>trivial
 | s::t::r,h=>⟨h s (by simp) t (by simp),OI λx g y e=>h x (List.mem_cons_of_mem _ g) y (List.mem_cons_of_mem _ e)⟩
theorem gap(P:Rt->Rt->Prop){u w:Rt}(m:0<u.d):∀(L:List Rt) (s:Rt),(∀ x∈s::L,0<x.d)->NY (s::L)->CU s u->w∈L->nK s w->CU u w->allP P (s::L) ->
    ∃ x y,P x y/\0<x.d/\0<y.d/\nK x y/\CU x u/\CU u y/\CU s x/\CU y w/\∀ z∈s::L,CU z x\/CU y z
  |[],_,_,_,_,e,_,_,_=>by simp at e
  | t::L,s,hd,hs,h1,e,w1,w2,hP=>by
   obtain⟨D,o⟩:=List.pairwise_cons.1 hs;obtain⟨O,_⟩:=List.pairwise_cons.1 o;obtain⟨C,B⟩:=hP;have j:=hd s (by simp);have g:=hd t (by simp);have q:=hd w (List.mem_cons_of_mem _ e);by_cases c:nK s t/\CU u t
   . refine⟨s,t,C,j,g,c.1,h1,c.2,le_refl s,?_,λz i=>?_⟩
     . rcases List.mem_cons.1 e with rfl | e
       . exact le_refl w
       grind
     . rcases List.mem_cons.1 i with rfl | i
       . exact .inl (le_refl z)
       . rcases List.mem_cons.1 i with rfl | i
         . exact .inr (le_refl z)
         grind
   . have w':w∈L:=by grind
     have st:CU s t:=D t (by simp);have n:CU t u/\nK t w:=by
      by_cases k:nK s t
      . have p:nK t u:=Decidable.byContradiction λh=>c ⟨k,h⟩;exact⟨Wj p,Yp g m q p w2⟩
      . exact⟨qg g j m k h1,Yo g j q k w1⟩
     obtain⟨x,y,N,A,M,K,J,I,r,H,G⟩:=gap P m L t (λx E=>hd x (List.mem_cons_of_mem _ E)) o n.1 w' n.2 w2 B;have F:=qg j g A st r;grind
theorem BA(j:0<s.d)(i:0<t.d):0<(iq s t).d/\(iq s t).n*(2*(s.d*t.d))=(s.n*t.d+t.n*s.d)*(iq s t).d:=by have m:0<s.d*t.d:=Int.mul_pos j i;have h:=y9 (s.n*t.d+t.n*s.d) (b:=s.d*t.d) (by omega);have k:0<(uM s t).d:=rC (by omega);have g:=y9 ((uM s t).n*1) (b:=(uM s t).d*2) (by omega);have e:0<(iq s t).d:=rC (by omega);refine⟨e,?_⟩;have p:(uM s t).n*(s.d*t.d)=(s.n*t.d+t.n*s.d)*(uM s t).d:=h;have o:(iq s t).n*((uM s t).d*2)=((uM s t).n*1)*(iq s t).d:=g;refine Int.eq_of_mul_eq_mul_right (show(uM s t).d≠0 by omega) ?_;grind
theorem La(i:0<s.d)(g:0<t.d)(h:nK s t):nK s (iq s t)/\nK (iq s t) t:=by
 obtain⟨k,e⟩:=BA i g;unfold nK at h ⊢;generalize (iq s t).n=mn at *;generalize (iq s t).d=md at *;have j:0<2*(s.d*t.d):=by have:=Int.mul_pos i g;omega
 constructor
 . have q:2*(s.d*t.d)*(mn*s.d-s.n*md)=md*s.d*(t.n*s.d-s.n*t.d):=by grind
   have:=nN j (a:=mn*s.d-s.n*md) (by rw[q];exact Int.mul_pos (Int.mul_pos k i) (by omega));omega
 . have q:2*(s.d*t.d)*(t.n*md-mn*t.d)=md*t.d*(t.n*s.d-s.n*t.d):=by grind
   have:=nN j (a:=t.n*md-mn*t.d) (by rw[q];exact Int.mul_pos (Int.mul_pos k g) (by omega));omega
abbrev Np(u:Rt):Prop:=0<u.d/\0<=u.n/\u.n<=u.d
theorem Wn(o:Np s)(m:Np t):Np (iq s t):=by
 obtain⟨g,j,s2⟩:=o;obtain⟨t0,i,p⟩:=m;obtain⟨k,e⟩:=BA g t0;refine⟨k,?_,?_⟩;all_goals generalize (iq s t).n=mn at *
 all_goals generalize (iq s t).d=md at *
 all_goals have h:0<2*(s.d*t.d):=by have:=Int.mul_pos g t0;omega
 . refine yF h ?_;rw[Int.mul_comm,e];exact Int.mul_nonneg (Int.add_nonneg (Int.mul_nonneg j (by omega)) (Int.mul_nonneg i (by omega))) (by omega)
 . have q:2*(s.d*t.d)*(md-mn)=md*(t.d*(s.d-s.n)+s.d*(t.d-t.n)):=by grind
   have:=yF h (a:=md-mn) (by rw[q];exact Int.mul_nonneg (by omega) (Int.add_nonneg (Int.mul_nonneg (by omega) (by omega)) (Int.mul_nonneg (by omega) (by omega))));omega
theorem r01(h:Np u):CU ⟨0,1⟩ u/\CU u ⟨1,1⟩:=by obtain⟨_,g,e⟩:=h;simp only[CU,nK];grind
abbrev All(f:Fen)(a b:V3):Prop:=∀ u:Rt,Np u->En f a b u=true
theorem all_in(r:0<xq a b){L:List Rt}(hd:∀ x∈L,0<x.d)(V:NY (⟨0,1⟩::L))(h1:⟨1,1⟩∈L)
    (Z:∀ e∈dS f,∀ q∈jX a b e.1 e.2,Jj ⟨0,1⟩ ⟨1,1⟩ q->∃ z∈L,z.n*q.2=q.1*z.d)
    (hP:allP (λx y=>nK x y->En f a b (iq x y)=true) (⟨0,1⟩::L)):All f a b:=by
  intro u o;obtain⟨J,I⟩:=r01 o;obtain⟨x,y,Q,j,i,A,P,O,N,M,K⟩:=gap _ o.1 L ⟨0,1⟩ (λx U=>(List.mem_cons.1 U).elim (λe=>by rw[e];decide) (hd x)) V J h1 (by decide) I hP;obtain⟨T,S⟩:=La j i A;refine UG r j i o.1 (BA j i).1 P O T S (λe Y q W X=>?_) (Q A);have H:0<=x.n:=by simp[CU,nK]at N;omega
  have y1:y.n<=y.d:=by simp[CU,nK]at M;omega
  have p:=X;obtain⟨C,R⟩:=p;have m:∀ k:Int,0<=k*k:=λk=>by
   rcases Int.le_total 0 k with h | h
   . exact Int.mul_nonneg h h
   . exact Int.mul_nonneg_of_nonpos_of_nonpos h h
  obtain⟨z,D,ez⟩:=Z e Y q W ⟨by
   have g:(q.1*x.d-x.n*q.2)*q.2=x.d*(q.1*q.2)-x.n*(q.2*q.2):=by grind
   have e2:=Int.mul_nonneg H (m q.2);have E:=nN j (a:=q.1*q.2) (by omega);show 0<(q.1*1-0*q.2)*q.2;rw[Int.mul_one,Int.zero_mul,Int.sub_zero];exact E,by
   have g:(y.n*q.2-q.1*y.d)*q.2=y.d*((q.2-q.1)*q.2)-(y.d-y.n)*(q.2*q.2):=by grind
   have e2:=Int.mul_nonneg (show 0<=y.d-y.n by omega) (m q.2);have E:=nN i (a:=(q.2-q.1)*q.2) (by omega);grind⟩
  have w:=hd z D;have B:0<q.2*q.2:=by
   have:q.2≠0:=λh=>by rw[h]at C;omega
   have k:=m q.2;rcases Int.lt_or_eq_of_le k with h | h
   . exact h
   . exact absurd (Int.mul_eq_zero.1 h.symm) (by omega)
  have G:nK x z:=by
   have g:(q.2*q.2)*(z.n*x.d-x.n*z.d)=z.d*((q.1*x.d-x.n*q.2)*q.2):=by grind
   have:=nN B (a:=z.n*x.d-x.n*z.d) (by rw[g];exact Int.mul_pos w C);grind[nK]
  have F:nK z y:=by
   have g:(q.2*q.2)*(y.n*z.d-z.n*y.d)=z.d*((y.n*q.2-q.1*y.d)*q.2):=by grind
   have:=nN B (a:=y.n*z.d-z.n*y.d) (by rw[g];exact Int.mul_pos w R);grind[nK]
  rcases K z (List.mem_cons_of_mem _ D)with h | h
  . exact h G
  . exact h F
end
end Go.Skm.Fen
