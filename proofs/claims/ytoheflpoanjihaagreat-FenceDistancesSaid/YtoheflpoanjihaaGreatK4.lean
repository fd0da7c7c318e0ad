import Derived.Test.YtoheflpoanjihaaGreatJ7
import Derived.Test.YtoheflpoanjihaaGreatG19
import Derived.Test.YtoheflpoanjihaaGreatG7
import Derived.Test.YtoheflpoanjihaaGreatR2
import Derived.Test.YtoheflpoanjihaaGreatG22
set_option linter.all false
namespace Go.Skm.Fen
open Go Go.Skm Go.Skm.Dig
section
variable {l:List V3}{k:Nat}
def oM(l:List V3)(k:Nat):List V3:=gt l 0::(l.drop (k+1)).reverse
theorem NW(l:List V3):oM l 0=sK l:=by unfold oM sK;rw[List.drop_one]
theorem FV:(oM l k).length=1+(l.length-(k+1)):=by unfold oM;simp;omega
theorem Kz(h:k+1<l.length):oM l k=oM l (k+1)++[gt l (k+1)]:=by unfold oM;simp_all
def zL:Nat->List (List V3)->List ku
 | _,[]=>[]
 | i,l::r=>dA (orient (decide (i=0)) l)++zL (i+1) r
theorem BA:∀(a:List (List V3)) (i:Nat),zL (i+1) a=yw a
 |[],_=>rfl
 | h::r,i=>by show _=dA (orient false h)++yw r;rw[zL,BA r (i+1),decide_eq_false (by omega)]
abbrev w30:List Wy:=[.lp [1,1,1,0,1,0]]
abbrev Ug:List Wy:=[.lp [1,1,1,0,1,0],.lp [1,0,0,1,0,1,0,1,0,1,0]]
section
variable (X:Ext) (hX:Mine X)
include hX
theorem l30b(l:List V3)(n:l.length<=64)(o b a g:Nat)(i:Int)(c h:List PV)(x:List AV × List Blk)(m:L tab (run tab X) 30 [] Ug (dQ o b a g i (encL l) 0 (oM l 0).length 0 c h (encL (oM l 0)))=some x):∀ k:Nat,k<l.length ->
    L tab (run tab X) 30 [] Ug (dQ o b a g i (encL l) 0 (oM l k).length (k:Int) c h (encL (oM l k)))=some x:=by
  have _:=hX;intro k;induction k with
  | zero=>intro _;exact m
  | succ k j =>
   intro f;have d:=j (by omega);have q:=@FV l (k+1);have p:=@FV l k;refine L_of ?_;show R tab _ _ _ [.lp [1,1,1,0,1,0],.lp [1,0,0,1,0,1,0,1,0,1,0]] _=_;rw[nZ,show gtI ((k+1:Nat):Int) 0=true from decide_eq_true (by omega),qCt,encL_length,rng f,qCt,show leN ((oM l (k+1)).length+1) 2147483648=true from decide_eq_true (by omega),qCt,wrap_eq (by omega) (by omega),show((k+1:Nat):Int)-1=(k:Int) by omega,qIt,encL_x,encL_y,encL_z,qLy,List.take_of_length_le (by rw[encL_length];exact qNr _),show(oM l (k+1)).length+1=(oM l k).length by omega];have e:encL (oM l k)=encL (oM l (k+1))++[encV (gt l (k+1))]:=by rw[Kz f];simp[encL]
   rw[e]at d;exact d
theorem l30(P:List (List V3))(A:∀ l∈P,dG l=true)(C:P.length<=17):∀(r:List (List V3)) (i:Nat) (acc:List ku),P.drop i=r->i<=P.length->acc.length<=64*i ->
    L tab (run tab X) 30 [] w30 (oW 0 acc.length 0 P.length (i:Int) (acc.map EW) (bI P))=some ([.fresh true kE ((acc++zL i r).map EW)],[]):=by
  intro r;induction r with
  | nil =>intro i acc hd c _;have m:i=P.length:=Nat.le_antisymm c (List.drop_eq_nil_iff.1 hd);subst m;refine L_of ?_;rw[DL,yL (by omega),qCf,qLy,List.take_of_length_le (by rw[qLm];exact qNr _),zL,List.append_nil]
  | cons l r w =>
   intro i acc hd _ t;have n:P[i]?=some l:=by have:=congrArg (·[0]?) hd;grind
   have c:=(qLa.1 n).1;have y:gh P i=l:=by simp[gh,List.getD,n]
   have s:=A l (qLe n);obtain⟨B,u,_⟩:=eH s;have f:∀ b,(orient b l).length=l.length:=λb=>yA (by omega);have a:∀ b,(dA (orient b l)).length=l.length:=λb=>by rw[iI,f]
   have o:=w (i+1) (acc++dA (orient (decide (i=0)) l)) (by rw[<- List.drop_drop,hd];rfl) c (by rw[qLp,a];omega);rw[qLp,a,List.map_append,List.append_assoc]at o;have j:=aaZ X hX s;have d:=c44 X hX (orient (decide (i=0)) l) (by rw[f];omega);rw[vC]at d;have g:(run tab X 44 [.p (.list true kV3 (encL (orient (decide (i=0)) l)))] []).bind (λh=>bif leN (acc.length+(h.1.headD .undef).freshList.length) 2147483648 then L tab (run tab X) 30 [] w30 (oW 0 (acc.length+(h.1.headD .undef).freshList.length) 0 P.length ((i+1:Nat):Int) ((((acc.map EW).drop 0).take acc.length)++((((h.1.headD .undef).freshList).drop 0).take (h.1.headD .undef).freshList.length)) (bI P))else none)=some ([.fresh true kE ((acc++zL i (l::r)).map EW)],[]):=by rw[d,qOb];simp only[qLh,AV.freshList,qLm,a];rw[show leN (acc.length+l.length) 2147483648=true from decide_eq_true (by omega),qCt,qLy,qLy,List.take_of_length_le (by rw[qLm];exact qNr _),List.take_of_length_le (by rw[qLm,a];exact qNr _),o,zL]
   have x:((i:Int)==0)=decide (i=0):=by grind
   have e:orient (decide (i=0)) l=if gtI (jU l) 0==((i:Int)==0)then l else sK l:=by rw[x];rfl
   refine L_of ?_;rw[DL,sG c,qCt];simp only[rng c,qCt,qIt,qNz,gJ P c,y,fH (show i<=9000000000000000000 by omega)];show(run tab X 54 [.p (.list true kV3 (encL l))] []).bind _=_;rw[j,qOb];simp only[qLh,pv_p,toInt_int];cases z:(gtI (jU l) 0==((i:Int)==0))with
   | true=>simp_all
   | false =>
    rw[z,if_neg Bool.false_ne_true]at e;rw[e]at g;have v:oM l (l.length-1)=[gt l 0]:=by unfold oM;rw[List.drop_eq_nil_iff.2 (by omega)];rfl
    have q:=l30b X hX l u 0 acc.length 0 P.length (i:Int) (acc.map EW) (bI P) _ (L_of (show R tab (run tab X) 30 [] [.lp [1,1,1,0,1,0],.lp [1,0,0,1,0,1,0,1,0,1,0]] _=_ by rw[nZ,show gtI 0 0=false from rfl,qCf,qLy,List.take_of_length_le (by rw[encL_length];exact qNr _),NW,fH (show i<=9000000000000000000 by omega)];exact g)) (l.length-1) (by omega);rw[v]at q;rw[qBf,qCt];show(bif ltI 0 (((encL l).length:Nat):Int)then L tab (run tab X) 30 [] Ug (dQ 0 acc.length 0 P.length (i:Int) (encL l) 0 1 (IntKind.i64.wrap ((((encL l).length:Nat):Int)-1)) (acc.map EW) (bI P) [.agg [.int .i64 ((((encL l).getD 0 .nil).cell 0).toInt),.int .i64 ((((encL l).getD 0 .nil).cell 1).toInt),.int .i64 ((((encL l).getD 0 .nil).cell 2).toInt)]])else none)=_;rw[encL_length,show ltI 0 ((l.length:Nat):Int)=true from decide_eq_true (by omega),qCt,wrap_eq (by omega) (by omega),show((l.length:Nat):Int)-1=((l.length-1:Nat):Int) by omega,encL_x,encL_y,encL_z];exact q
theorem c30(f:Fen)(h:validP f=true):run tab X 30 [.p (encF f)] []=some ([.fresh true kE ((dS f).map EW)],[]):=
 run_of (hX _ rfl) (by
  obtain⟨c,b⟩:=kW h;have d:=(o7 h).2.1;have k:=l30 X hX (f.outer::f.holes) (λl a=>(List.mem_cons.1 a).elim (λe=>e▸c) (b l)) (by rw[qLl];omega) _ 0 [] rfl (Nat.zero_le _) (Nat.zero_le _);have e:zL 0 (f.outer::f.holes)=dS f:=by show _++zL (0+1) f.holes=_;rw[BA];rfl
  rw[List.nil_append,qLy,e]at k;rw[encF,e30,bH,show leN (1+f.holes.length) 2147483648=true from decide_eq_true (by omega),qCt,Nat.add_comm];exact k)
end
end
section
theorem Px{B p:Nat}(x r s:Nat)(q:Nat)(h:(r*B+x) / 256=q):(q+B*s)*256+(r*B+x)%256=x+B*(s*256+r):=by grind
abbrev wA:List Wy:=[.lp [1,1,1,0,0]]
abbrev wB:List Wy:=[.lp [1,1,1,0,0],.lp [1,0,1,0,1,0]]
abbrev wC:List Wy:=[.lp [1,1,1,1,1,0,1,0]]
theorem Jg(k:IntKind)(l:List Nat)(i:Nat)(h:i<l.length):(aY k l).getD i .nil=.int k (l.getD i 0:Nat):=by grind[aY]
theorem Py(p q:List Nat)(x:Nat):(p++[x]++q).getD p.length 0=x:=by simp
theorem TY(p q:List Nat)(x y:Nat):(p++[x]++q).set p.length y=p++([y]++q):=by simp
theorem Rf {α:Type} (P:List α->Prop) (h0:P []) (h1:∀ l x,P l->P (l++[x])) (l:List α):P l:=by
 have:∀ m:List α,P m.reverse:=by
  intro m
  induction m with
  | nil=>exact h0
  | cons x m ih=>rw[List.reverse_cons];exact h1 _ _ ih
 rw[<- List.reverse_reverse l]
 exact this _
section
variable (X:Ext) (hX:Mine X)
include hX
theorem aaM (neg : Bool) (xs : List PV) (g : Bool) (gs : ByteArray) (bk : List PV) (bo bl : Nat) (T : List Nat) (res : List AV × List Blk) :
    ∀ pre:List Nat,∀ (suf:List Nat) (r:Nat),ok B9 pre->ok B9 suf->r<256->pre.length+suf.length<=1000000000 ->
    (∀ (Q:List Nat) (r':Nat),Q.length=pre.length+suf.length->ok B9 Q->r'<256->val B9 Q*256+r'=val B9 pre+B9 ^ pre.length*(val B9 suf*256+r)->L tab (run tab X) 70 [] wB (iG bo bl 0 Q.length (r':Int) (-1) neg xs g gs bk (aY .i64 (Q++T)))=some res) ->
    L tab (run tab X) 70 [] wB (iG bo bl 0 (pre.length+suf.length) (r:Int) ((pre.length:Int)-1) neg xs g gs bk (aY .i64 (pre++suf++T)))=some res:=by
  have _:=hX
  intro pre
  induction pre using Rf with
  | h0 =>
   intro suf r hp hs hr hn h
   have:=h suf r (by simp) hs hr (by simp[val])
   grind
  | h1 l x ih =>
   intro suf r hp hs hr hn h
   rw[gI]at hp
   obtain⟨hl,hx⟩:=hp
   have hx':x<B9:=hx x (by simp)
   have e9:B9=1000000000:=rfl
   rw[qLp,List.length_singleton]at hn h ⊢
   have hcur:r*B9+x<256*B9:=by grind
   have hq:(r*B9+x) / 256<B9:=Nat.div_lt_of_lt_mul (by omega)
   have hr':(r*B9+x)%256<256:=qNm _ (by decide)
   have key:=ih ((r*B9+x) / 256::suf) ((r*B9+x)%256) hl (nM.2 ⟨hq,hs⟩) hr' (by simp;omega) (λQ r' hQ YO aaN hv=>by
    refine h Q r' (by rw[hQ];simp;omega) YO aaN ?_
    rw[hv,iJ]
    have d:=Px (B:=B9) (p:=0) x r (val B9 suf) _ rfl
    show val B9 l+B9 ^ l.length*(((r*B9+x) / 256+B9*val B9 suf)*256+(r*B9+x)%256)=_
    grind)
   refine L_of ?_
   have i1:((l.length+1:Nat):Int)-1=(l.length:Int):=by omega
   rw[tY,i1,show geI (l.length:Int) 0=true from decide_eq_true (by omega),qCt]
   have g1:ltI (l.length:Int) ((l.length+1+suf.length:Nat):Int)=true:=decide_eq_true (by omega)
   rw[show leI (0:Int) (l.length:Int)=true from decide_eq_true (by omega),g1]
   simp only[qBs,qCt,qIt,qNz]
   rw[Jg _ _ _ (by simp),show l++[x]++suf++T=l++[x]++(suf++T) by simp,Py]
   have c1:IntKind.i64.wrap ((r:Int)*1000000000)=((r*B9:Nat):Int):=by rw[wrap_eq (by omega) (by omega),e9];omega
   have c2:IntKind.i64.wrap (((r*B9:Nat):Int)+(x:Int))=((r*B9+x:Nat):Int):=by rw[wrap_eq (by omega) (by omega)];omega
   have c3:IntKind.i64.wrap (((r*B9+x:Nat):Int).tdiv 256)=(((r*B9+x) / 256:Nat):Int):=by
    rw[show ((r*B9+x:Nat):Int).tdiv 256=(((r*B9+x) / 256:Nat):Int) from rfl,wrap_eq (by omega) (by omega)]
   have c4:((r*B9+x:Nat):Int).tmod 256=(((r*B9+x)%256:Nat):Int):=rfl
   have c5:IntKind.i64.wrap ((l.length:Int)-1)=(l.length:Int)-1:=wrap_eq (by omega) (by omega)
   show L tab (run tab X) 70 [] wB (iG bo bl 0 (l.length+1+suf.length) ((IntKind.i64.wrap (IntKind.i64.wrap ((r:Int)*1000000000)+(x:Int))).tmod 256) (IntKind.i64.wrap ((l.length:Int)-1)) neg xs g gs bk ((aY .i64 (l++[x]++(suf++T))).set l.length (.int .i64 (IntKind.i64.wrap ((IntKind.i64.wrap (IntKind.i64.wrap ((r:Int)*1000000000)+(x:Int))).tdiv 256)))))=some res
   rw[c1,c2,c3,c4,c5,gW,TY]
   rw[qLl]at key
   grind
theorem aaO(c:Bool)(xs:List PV)(g:Bool)(e:ByteArray)(b:List Nat)(o:∀ x∈b,x<256)(m:b.length<=1000000000):∀(i:Nat) (a:List Nat),i<=b.length->a.length+i=b.length ->
    L tab (run tab X) 70 [] wC (nP 0 b.length 0 a.length ((i:Int)-1) c xs g e (aY .u8 b) (aY .u8 a))=some ([.p (.agg [.bool c,.str (bytesOf (aY .u8 (a++(b.take i).reverse)))])],[]):=by
  have _:=hX;intro i;induction i with
  | zero =>intro a _ k;refine L_of ?_;rw[yQ,show geI (((0:Nat):Int)-1) 0=false from rfl,qCf];rw[show(aY .u8 a).drop 0=aY .u8 a from qLy,<- bG .u8 a,List.take_length];simp
  | succ i h =>
   intro a n k;have d:i<b.length:=by omega
   refine L_of ?_;have j:((i+1:Nat):Int)-1=(i:Int):=by omega
   rw[yQ,j,show geI (i:Int) 0=true from decide_eq_true (by omega),qCt];have l:ltI (i:Int) (b.length:Int)=true:=decide_eq_true (by omega);rw[show leI (0:Int) (i:Int)=true from decide_eq_true (by omega),l];simp only[qBs,qCt,qIt,qNz];rw[show leN (a.length+1) 2147483648=true from decide_eq_true (by omega),qCt,Jg _ _ _ d];have s:((aY .u8 a).drop 0).take a.length=aY .u8 a:=by rw[qLy,<- bG .u8 a,List.take_length]
   have c5:IntKind.i64.wrap ((i:Int)-1)=(i:Int)-1:=wrap_eq (by omega) (by omega);show L tab (run tab X) 70 [] wC (nP 0 b.length 0 (a.length+1) (IntKind.i64.wrap ((i:Int)-1)) c xs g e (aY .u8 b) (((aY .u8 a).drop 0).take a.length++([.int .u8 ((b.getD i 0:Nat):Int)]:List PV)))=_;have r:aY .u8 a++([.int .u8 ((b.getD i 0:Nat):Int)]:List PV)=aY .u8 (a++[b.getD i 0]):=by rw[<- qx];rfl
   have q:(b.take (i+1)).reverse=b.getD i 0::(b.take i).reverse:=by simp_all
   have f:=h (a++[b.getD i 0]) (by omega) (by simp;omega);grind[qLp,List.length_singleton]
theorem aaP(e:Bool)(xs:List PV):∀(m:Nat) (b:List Nat) (l:Nat) (a:List Nat),ok B9 b->b.length<=1000000->l<=b.length->b.take l=aW B9 m->(∀ x∈a,x<256)->a.length+(aW 256 m).length<=100000000 ->
    L tab (run tab X) 70 [] wA (wZ 0 a.length 0 l e xs false ⟨#[]⟩ (aY .u8 a) (aY .i64 b))=some ([.p (.agg [.bool e,.str (bytesOf (aY .u8 (a++aW 256 m).reverse))])],[]):=by
  intro m;induction m using Nat.strongRecOn with
  | ind m z =>
   intro b l a t G K E F B;have c:l=(aW B9 m).length:=by grind
   by_cases v:m=0
   . subst v;rw[bZ]at c ⊢;rw[List.length_nil]at c;subst c;rw[List.append_nil];refine L_of ?_;rw[Fb,show gtI ((0:Nat):Int) 0=false from rfl,qCf,wrap_eq (by omega) (by omega)];have f:=aaO X hX e xs false ⟨#[]⟩ a F (by omega) a.length [] (qNr _) (by simp);rw[List.take_length,List.nil_append]at f;exact f
   . have s:0<l:=by rw[c];exact List.length_pos_iff.2 λh=>v ((jO (by decide)).1 h)
     have y:aW 256 m=m%256::aW 256 (m / 256):=vN (by decide) (by omega);refine L_of ?_;rw[Fb,show gtI (l:Int) 0=true from decide_eq_true (by omega),qCt,wrap_eq (by omega) (by omega)];have M:b=b.take l++[]++b.drop l:=by simp
     have r:ok B9 (b.take l):=λd hd=>t d (List.mem_of_mem_take hd);have q:ok B9 (b.drop l):=λd hd=>t d (List.mem_of_mem_drop hd);have A:(b.take l).length=l:=by simp;omega
     have f:=aaM X hX e xs false ⟨#[]⟩ (aY .u8 a) 0 a.length (b.drop l) ([.p (.agg [.bool e,.str (bytesOf (aY .u8 (a++aW 256 m).reverse))])],[]) (b.take l) [] 0 r (nK _) (by decide) (by simp;omega) (λQ g u w C j=>by
      rw[A]at u j;rw[List.length_nil,Nat.add_zero]at u;have i:val B9 (b.take l)=m:=by rw[E,kD (by decide)]
      rw[i]at j;simp only[val,Nat.zero_mul,Nat.add_zero,Nat.mul_zero]at j;have D:val B9 Q=m / 256:=by omega
      have J:g=m%256:=by omega
      refine L_of ?_;rw[tY,show geI (-1:Int) 0=false from rfl,qCf];rw[show leN (a.length+1) 2147483648=true from decide_eq_true (by omega),qCt];have o:(Q++b.drop l).length<=2147483648:=by simp;omega
      rw[c130 X hX (Q++b.drop l) o 0 Q.length (by simp),qOb];have I:((Q++b.drop l).drop 0).take Q.length=Q:=by simp
      rw[I];have k:trim Q=aW B9 (m / 256):=lq (by decide) w D;have H:((aY .u8 a).drop 0).take a.length++([.int .u8 (IntKind.u8.wrap (g:Int))]:List PV)=aY .u8 (a++[m%256]):=by
       rw[qLy,<- bG .u8 a,List.take_length,<- qx];have:IntKind.u8.wrap (g:Int)=((m%256:Nat):Int):=by grind[IntKind.bits,IntKind.signed,IntKind.wrap]
       rw[this];rfl
      rw[H];have n:m / 256<m:=Nat.div_lt_self (by omega) (by decide);have jX:=z (m / 256) n (Q++b.drop l) (trim Q).length (a++[m%256]) (gI.2 ⟨w,q⟩) (by simp;omega) (by
       have:=Eo Q;rw[qLp];omega) (by
       rw[List.take_append_of_le_length (Eo Q),lI,k]) (by
       grind) (by
       rw[y,qLl]at B;rw[qLp,List.length_singleton];omega)
      rw[qLp,List.length_singleton]at jX;rw[y,show a++m%256::aW 256 (m / 256)=a++[m%256]++aW 256 (m / 256) by simp];exact jX)
     grind
theorem bytes9{n k:Nat}(h:(aW B9 n).length<=k):(aW 256 n).length<=4*k:=by have _:=hX;refine kG (by decide) (Nat.lt_of_lt_of_le (nN (b:=B9) (by decide)) (Nat.le_trans (Nat.pow_le_pow_right (by decide) h) ?_));rw[Nat.pow_mul];exact Nat.pow_le_pow_left (by decide) _
theorem c70(z:Int)(b:fQ z 1000000):run tab X 70 [.p (eI z)] []=some ([.p (eW z)],[]):=
 run_of (hX _ rfl) (by unfold fQ at b;have c:=bytes9 X hX b;rw[eI,e70,bG,show leN (aW B9 z.natAbs).length 2147483648=true from decide_eq_true (by omega),qCt];have a:=aaP X hX (decide (z<0)) (nI z.natAbs) z.natAbs (aW B9 z.natAbs) (aW B9 z.natAbs).length [] (qI (by decide) _) b (qNr _) (List.take_length) (by simp) (by simp;omega);rw[List.nil_append,zB]at a;exact a)
end
end
section
variable {v:PV}{D D' N N':Int}{i k:Nat}{l:List V3}{e:ku}
theorem uK.to(h:uK v N D k)(f:D≠0)(e:N*D'=N'*D):uK v N' D' k:=by
 obtain⟨n,d,c,b,a,h4,h5⟩:=h;refine⟨n,d,c,b,?_,h4,h5⟩;refine Int.eq_of_mul_eq_mul_right f ?_
 calc n*D'*D=n*D*D':=by grind
  _=N*D'*d:=by rw[a];grind
  _=N'*d*D:=by rw[e];grind
theorem Me(h:dG l=true)(f:i<l.length):0<kY (gt l i) (gt l (jX l.length i)):=by
 have d:=(Fq h).ne i;rw[xw,Ap f]at d;have g:=TS (gt l i) (gt l (jX l.length i));rcases Int.lt_or_eq_of_le g with c | c
 . exact c
 . exfalso;refine d ?_;unfold kY gq at c;have a:=sq_bd ((gt l (jX l.length i)).x-(gt l i).x);have b:=sq_bd ((gt l (jX l.length i)).y-(gt l i).y);have j:=Int.mul_eq_zero.1 (show((gt l (jX l.length i)).x-(gt l i).x)*((gt l (jX l.length i)).x-(gt l i).x)=0 by omega);have b0:=Int.mul_eq_zero.1 (show((gt l (jX l.length i)).y-(gt l i).y)*((gt l (jX l.length i)).y-(gt l i).y)=0 by omega);show(⟨(gt l i).x,(gt l i).y⟩:Pt)=⟨(gt l (jX l.length i)).x,(gt l (jX l.length i)).y⟩;rw[show(gt l i).x=(gt l (jX l.length i)).x by omega,show(gt l i).y=(gt l (jX l.length i)).y by omega]
theorem MB(c:i<l.length):gt (sK l) i=gt l ((l.length-i)%l.length):=by
 unfold sK;cases i with
 | zero=>rw[Nat.sub_zero,Nat.mod_self];rfl
 | succ i =>
  rw[Nat.mod_eq_of_lt (by omega)];show(l.tail.reverse).getD i default=_;have b:i<l.tail.reverse.length:=by rw[List.length_reverse,List.length_tail];omega
  rw[qLb,qLd b,List.getElem_reverse];have a:l.length-(i+1)<l.length:=by omega
  rw[gt,qLb,qLd a,Option.getD_some,Option.getD_some,List.getElem_tail];congr 1;rw[List.length_tail];omega
theorem KC(h:e∈dA (sK l))(d:0<l.length):∃ j,j<l.length/\e=(flat (gt l (jX l.length j)),flat (gt l j)):=by
 obtain⟨i,b,rfl⟩:=pF.1 h;have a:=FH d;rw[a]at b;refine⟨l.length-1-i,by omega,?_⟩;show(flat (gt (sK l) i),flat (gt (sK l) (jX (sK l).length i)))=_;rw[a,MB b,MB (show jX l.length i<l.length from qNm _ d)];have g:(l.length-i)%l.length=jX l.length (l.length-1-i):=by unfold jX;congr 1;omega
 have f:(l.length-jX l.length i)%l.length=l.length-1-i:=by
  unfold jX;by_cases c:i+1<l.length
  . rw[Nat.mod_eq_of_lt c,Nat.mod_eq_of_lt (by omega)];omega
  . rw[show i+1=l.length by omega,Nat.mod_self,Nat.sub_zero,Nat.mod_self];omega
 rw[g,f]
theorem PI(a b:V3):kY a b=kY b a:=by unfold kY gq;grind
theorem FX{b:Bool}(h:dG l=true)(a:e∈dA (orient b l)):0<kY e.1 e.2:=by
 have f:=(eH h).1;unfold orient at a;split at a
 . obtain⟨i,d,rfl⟩:=pF.1 a;exact Me h d
 . obtain⟨j,c,rfl⟩:=KC a (by omega);rw[PI];exact Me h c
theorem KD{f:Fen}(h:validP f=true):∀ e∈dS f,0<kY e.1 e.2:=by
 obtain⟨d,c⟩:=kW h;intro e a;rcases List.mem_append.1 a with a | a
 . exact FX d a
 . obtain⟨x,b,a⟩:=List.mem_flatMap.1 a;exact FX (c x b) a
theorem Uh(r s b a:Int):PV.agg [.bool (((Cc r s b a).cell 0).toBool),.list false kI (((Cc r s b a).cell 1).toList),.bool (((Cc r s b a).cell 2).toBool),.list false kI (((Cc r s b a).cell 3).toList)]=eQ r s:=rfl
theorem Ui(r s b a:Int):PV.agg [.bool (((Cc r s b a).cell 4).toBool),.list false kI (((Cc r s b a).cell 5).toList),.bool (((Cc r s b a).cell 6).toBool),.list false kI (((Cc r s b a).cell 7).toList)]=eQ b a:=rfl
theorem uK.val(h:uK v N D k)(b:N=N')(a:D=D'):uK v N' D' k:=b▸a▸h
section
variable (X:Ext) (hX:Mine X)
include hX
theorem c84(a b:V3)(g:je a)(H:je b){n d u w:Int}(h:uK (eQ n d) u w k)(U:0<w)(m:3<=k)(V:k<=10000) :
    ∃ r s f c,run tab X 84 [.p (encV a),.p (encV b),.p (eQ n d)] []=some ([.p (Cc r s f c)],[])/\uK (eQ r s) (a.x*w+(b.x-a.x)*u) w (4*k+1)/\uK (eQ f c) (a.y*w+(b.y-a.y)*u) w (4*k+1):=by
  obtain⟨P,y1⟩:=lG g H;obtain⟨Y,W,_⟩:=g;have q:∀ z:Int,-33554432<=z->z<=33554432->∀ j,3<=j->uK (eQ z 1) z 1 j:=λz J I j G=>sQ (bF (mD (by omega) (by omega)) G) (by omega);have r:=λz (J:(-33554432:Int)<=z) (I:z<=33554432)=>c57 X hX z (by omega) (by omega);obtain⟨T,R,O,F⟩:=NR X hX (q (b.x-a.x) (by omega) (by omega) k m) h (by omega);obtain⟨s2,t,M,E⟩:=Uc X hX (q a.x (by omega) (by omega) (k+k) (by omega)) F (by omega);obtain⟨S,Q,L,C⟩:=NR X hX (q (b.y-a.y) (by omega) (by omega) k m) h (by omega);obtain⟨A,o,K,B⟩:=Uc X hX (q a.y (by omega) (by omega) (k+k) (by omega)) C (by omega);refine⟨s2,t,A,o,run_of (hX _ rfl) ?_,(E.val (by grind) (by grind)).mono (by omega),(B.val (by grind) (by grind)).mono (by omega)⟩;rw[encV,encV,eQ,e84,wrap_eq (by omega) (by omega),wrap_eq (by omega) (by omega),r a.x (by omega) (by omega)];simp only[qOb,qLh,pv_p,jV];rw[r (b.x-a.x) (by omega) (by omega)];simp only[qOb,qLh,pv_p,jV];rw[yF n d,O];simp only[qOb,qLh,pv_p,jV];rw[M];simp only[qOb,qLh,pv_p,jV];rw[r a.y (by omega) (by omega)];simp only[qOb,qLh,pv_p,jV];rw[r (b.y-a.y) (by omega) (by omega)];simp only[qOb,qLh,pv_p,jV];rw[L];simp only[qOb,qLh,pv_p,jV];rw[K];rfl
end
end
section
variable {a b p:V3}{D N:Int}
theorem aa0(a b p:V3):kY a b*kY a p-gq a b p*gq a b p=Ar a b p*Ar a b p:=by unfold kY gq Ar;grind
theorem Jj(a b p:V3):kY b p=kY a p-2*gq a b p+kY a b:=by unfold kY gq;grind
def Jk(a b p:V3)(u w:Int):Int:=(a.x*w+(b.x-a.x)*u-p.x*w)*(a.x*w+(b.x-a.x)*u-p.x*w)+(a.y*w+(b.y-a.y)*u-p.y*w)*(a.y*w+(b.y-a.y)*u-p.y*w)
theorem Ho(a b p:V3)(u w:Int):Jk a b p u w=kY a p*(w*w)-2*gq a b p*u*w+kY a b*(u*u):=by unfold Jk kY gq;grind
theorem AB{a b:Int}(c:b≠0)(h:N*b=a*D):N*(low a b).d=(low a b).n*D:=by have e:=FQ a c;show N*nJ a b=ou a b*D;refine Int.eq_of_mul_eq_mul_right c ?_;grind
theorem Rn(h:gq a b p<=0)(c:0<kY a b):Jk a b p 0 1*(dist a b p).d=(dist a b p).n*1:=by unfold dist;rw[if_neg (by omega),if_neg (by omega)];exact AB (by decide) (by rw[Ho];grind)
theorem Ro(h:kY a b<=gq a b p):Jk a b p 1 1*(dist a b p).d=(dist a b p).n*1:=by unfold dist;rw[if_neg (by omega),if_pos h];exact AB (by decide) (by rw[Ho,Jj a b p];grind)
theorem Rq(h:0<=gq a b p)(i:gq a b p<=kY a b)(j:0<kY a b):Jk a b p (gq a b p) (kY a b)*(dist a b p).d=(dist a b p).n*(kY a b*kY a b):=by
 have g:=aa0 a b p;have f:Jk a b p (gq a b p) (kY a b)=kY a b*(Ar a b p*Ar a b p):=by rw[Ho,<- g];grind
 unfold dist;by_cases c:0<gq a b p/\gq a b p<kY a b
 . rw[if_pos c];exact AB (by omega) (by rw[f];grind)
 . rw[if_neg c];by_cases d:kY a b<=gq a b p
   . rw[if_pos d];have e:gq a b p=kY a b:=by omega
     refine AB (by decide) ?_;rw[f,<- g,Jj a b p,e];grind
   . rw[if_neg d];have e:gq a b p=0:=by omega
     refine AB (by decide) ?_;grind
theorem Ru(z:Int):gtI z.sign 0=decide (0<z):=by simp
abbrev qa(v:PV):PV:=.agg [.bool ((v.cell 0).toBool),.list false kI ((v.cell 1).toList),.bool ((v.cell 2).toBool),.list false kI ((v.cell 3).toList)]
abbrev qb(v:PV):PV:=.agg [.bool ((v.cell 4).toBool),.list false kI ((v.cell 5).toList),.bool ((v.cell 6).toBool),.list false kI ((v.cell 7).toList)]
abbrev hd(r:List AV × List Blk):PV:=(r.1.headD .undef).pv
def FY(C:CallF)(a b p:V3)(t:PV):Option (List AV × List Blk):=
 (C 84 [.p (encV a),.p (encV b),.p t] []).bind λr1 =>
 (C 57 [.p (.int .i64 p.x)] []).bind λr2 =>
 (C 145 [.p (qa (hd r1)),.p (qa (hd r2))] []).bind λr3 =>
 (C 57 [.p (.int .i64 p.y)] []).bind λr4 =>
 (C 145 [.p (qb (hd r1)),.p (qa (hd r4))] []).bind λr5 =>
 (C 85 [.p (qa (hd r3)),.p (qa (hd r3))] []).bind λr6 =>
 (C 85 [.p (qa (hd r5)),.p (qa (hd r5))] []).bind λr7 =>
 (C 86 [.p (qa (hd r6)),.p (qa (hd r7))] []).bind λr8 =>
 some ([.p (qa (hd r8))],[])
section
variable (X:Ext) (hX:Mine X)
include hX
theorem Eu(a b p:V3)(F:je a)(E:je b)(hp:je p){n d u w:Int}(h:uK (eQ n d) u w 3)(B:0<w)(e:Jk a b p u w*D=N*(w*w)) :
    ∃ r s,FY (run tab X) a b p (eQ n d)=some ([.p (eQ r s)],[])/\uK (eQ r s) N D 120:=by
  obtain⟨W,V,_⟩:=hp;have q:∀ z:Int,-33554432<=z->z<=33554432->∀ j,3<=j->uK (eQ z 1) z 1 j:=λz H G j C=>sQ (bF (mD (by omega) (by omega)) C) (by omega);have r:=λz (H:(-33554432:Int)<=z) (G:z<=33554432)=>c57 X hX z (by omega) (by omega);obtain⟨U,Q,m,k,J,A,K⟩:=c84 X hX a b F E h B (by decide) (by decide);obtain⟨s2,P,I,g⟩:=Rh X hX A (q p.x (by omega) (by omega) 13 (by omega)) (by omega);obtain⟨T,O,f3,f⟩:=Rh X hX K (q p.y (by omega) (by omega) 13 (by omega)) (by omega);obtain⟨S,M,f4,v⟩:=NR X hX g g (by omega);obtain⟨R,L,Z,t⟩:=NR X hX f f (by omega);obtain⟨l,i,Y,o⟩:=Uc X hX v t (by omega);have c:w*w≠0:=Int.mul_ne_zero (by omega) (by omega);refine⟨l,i,?_,(o.to (Int.mul_ne_zero (by rw[Int.mul_one];exact c) (by rw[Int.mul_one];exact c)) ?_).mono (by omega)⟩
  . unfold FY;rw[J,r p.x (by omega) (by omega),qOb,qOb];simp only[hd,qa,qb,qLh,pv_p,jV];rw[Uh,Ui,I,qOb,r p.y (by omega) (by omega),qOb];grind[qLh,pv_p,jV,qOb]
  . grind[Jk]
theorem c92(a b p:V3)(f:je a)(e:je b)(hp:je p)(j:0<kY a b) :
    ∃ r s,run tab X 92 [.p (oD a b),.p (encV p)] []=some ([.p (eQ r s)],[])/\uK (eQ r s) (dist a b p).n (dist a b p).d 120:=by
  have T:=(ds f e hp).dot;have L:=(ds f e e).dot;rw[show gq a b b=kY a b from rfl]at L;have A:fQ (gq a b p) 3:=mD (by omega) (by omega);have z:fQ (kY a b) 3:=mD (by omega) (by omega);have t:=c71 X hX (gq a b p) (by omega) (by omega);have q:=c71 X hX (kY a b) (by omega) (by omega);have M:=c93 X hX (gq a b p) (kY a b) (bF A (by decide)) (bF z (by decide)) (by omega);have o:uK (eQ (ou (gq a b p) (kY a b)) (nJ (gq a b p) (kY a b))) (gq a b p) (kY a b) 3:=CO X hX A z (by omega) rfl;have m:uK (eQ 0 1) 0 1 3:=sQ (mD (by decide) (by decide)) (by decide);have l:uK (eQ 1 1) 1 1 3:=sQ (mD (by decide) (by decide)) (by decide);have F:=c57 X hX 0 (by decide) (by decide);have E:=c57 X hX 1 (by decide) (by decide);have w:=Ku X hX o m (by decide) j (by decide);have u:=Ku X hX o l (by decide) j (by decide);have J:=Ku X hX m l (by decide) (by decide) (by decide);rw[Int.mul_one,Int.zero_mul,Int.sub_zero]at w;rw[Int.mul_one,Int.one_mul]at u;have B:∀{v:V3},je v->Bd 34359738368 v:=λ{v} h=>by obtain⟨S,R,Q⟩:=h;exact⟨by omega,by omega,by omega⟩
  have C:=c105 X hX b a (B e) (B f);obtain⟨P,y1⟩:=lG f e;obtain⟨O,y2⟩:=lG f hp;have H:IntKind.i64.wrap ((IntKind.i64.wrap ((b.x-a.x)*(IntKind.i64.wrap (p.x-a.x))))+(IntKind.i64.wrap ((b.y-a.y)*(IntKind.i64.wrap (p.y-a.y)))))=gq a b p:=by have:=qM f e hp;rwa[wrap_eq (x:=b.x-a.x) (by omega) (by omega),wrap_eq (x:=b.y-a.y) (by omega) (by omega)]at this
  have G:IntKind.i64.wrap ((IntKind.i64.wrap ((b.x-a.x)*(b.x-a.x)))+(IntKind.i64.wrap ((b.y-a.y)*(b.y-a.y))))=kY a b:=by have:=qM f e e;rwa[wrap_eq (x:=b.x-a.x) (by omega) (by omega),wrap_eq (x:=b.y-a.y) (by omega) (by omega)]at this
  have k:∀{r s:Int},(bif ltI (gq a b p).sign 0 then(bif gtI ((0:Int)*1-1*1).sign 0 then FY (run tab X) a b p (eQ 1 1)else FY (run tab X) a b p (eQ 0 1))else(bif gtI (gq a b p-kY a b).sign 0 then FY (run tab X) a b p (eQ 1 1)else FY (run tab X) a b p (eQ (ou (gq a b p) (kY a b)) (nJ (gq a b p) (kY a b)))))=some ([.p (eQ r s)],[])->run tab X 92 [.p (oD a b),.p (encV p)] []=some ([.p (eQ r s)],[]):=by intro r s K;refine run_of (hX _ rfl) ?_;rw[encV,encV,encV,wL]at C;rw[oD,encV,e92,C,qOb];simp only[qLh,pv_p,cell_agg,qLz,List.getD_cons_succ,toInt_int];rw[H,G,t,qOb,q,qOb];simp only[qLh,pv_p,dF];rw[M,qOb,F,qOb];simp only[qLh,pv_p,jV];rw[w,E];simp only[qOb,qLh,pv_p,jV,toInt_int];rw[u,J];simp only[qOb,qLh,pv_p,toInt_int];exact K
  have I:gtI ((0:Int)*1-1*1).sign 0=false:=by decide
  rw[GZ,I,Ru,qCf]at k;by_cases c:gq a b p<0
  . rw[decide_eq_true c,qCt]at k;obtain⟨r,s,g,i⟩:=Eu X hX a b p f e hp m (by decide) (Rn (by omega) j);grind
  . rw[decide_eq_false c,qCf]at k;by_cases d:0<gq a b p-kY a b
    . rw[decide_eq_true d,qCt]at k;obtain⟨r,s,g,i⟩:=Eu X hX a b p f e hp l (by decide) (Ro (by omega));grind
    . rw[decide_eq_false d,qCf]at k;obtain⟨r,s,g,i⟩:=Eu X hX a b p f e hp o j (Rq (by omega) (by omega) j);grind
end
end
section
theorem MC{a b p:V3}(c:0<kY a b):Cn (dist a b p):=by
 unfold dist;split
 . exact G6 (by omega)
 . split<;>exact G6 (by decide)
section
variable (X:Ext) (hX:Mine X)
include hX
theorem aa3:∀(j k n:Nat),k<2^j->k<256->j+n<=1000000->∃ m:Nat,L tab (run tab X) 144 [] [.lp [1,1,1,1,0,1,0]] (nR (n:Int) (k:Int))=some ([.p (.int .i64 (m:Int))],[])/\m<=n+j:=by
 have _:=hX;intro j;induction j with
 | zero =>
  intro k n a _ _;have:k=0:=by simpa using a
  subst this;exact⟨n,L_of (by rw[uO];rfl),qNr _⟩
 | succ j d =>
  intro k n a b f;by_cases c:k=0
  . subst c;exact⟨n,L_of (by rw[uO];rfl),by omega⟩
  . obtain⟨m,e,g⟩:=d (k / 2) (n+1) (by rw[Nat.pow_succ]at a;omega) (by omega) (by omega);refine⟨m,L_of ?_,by omega⟩;have t:((k:Int).tdiv 2)=((k / 2:Nat):Int):=by rw[Int.tdiv_eq_ediv_of_nonneg (by omega)];rfl
    rw[uO,show gtI (k:Int) 0=true from decide_eq_true (by omega),qCt,fH (by omega),t,wrap_eq (by omega) (by omega),e]
theorem c91(z:Int)(c:fQ z 1000):run tab X 91 [.p (eI z)] []=some ([.p (.bool false)],[]):=by
 have i:=bytes9 X hX c;have a:=c70 X hX z (bF c (by decide));have b:∃ m:Int,run tab X 144 [.p (eI z)] []=some ([.p (.int .i64 m)],[])/\m<=65536:=by
  by_cases e:(jD z.natAbs).size=0
  . refine⟨0,run_of (hX _ rfl) ?_,by decide⟩;rw[eI,U5];show(run tab X 70 [.p (eI z)] []).bind _=_;rw[a,qOb];show(bif (((jD z.natAbs).size:Nat):Int)==0 then _ else _)=_;rw[e];rfl
  . have g:=rP z.natAbs;have f:=Ew z.natAbs 0 (by omega);have d:((jD z.natAbs).data.getD 0 0).toNat<256:=by rw[f];exact qNm _ (by decide)
    rw[g]at e;obtain⟨m,h,k⟩:=aa3 X hX 8 ((jD z.natAbs).data.getD 0 0).toNat (8*((jD z.natAbs).size-1)) d d (by omega);refine⟨m,run_of (hX _ rfl) ?_,by omega⟩;rw[eI,U5];show(run tab X 70 [.p (eI z)] []).bind _=_;rw[a,qOb];show(bif ((((jD z.natAbs).size:Nat):Int)==0)then some ([AV.p (.int .i64 0)],[])else bif ltI 0 ((jD z.natAbs).size:Int)then L tab (run tab X) 144 [] [.lp [1,1,1,1,0,1,0]] (nR (IntKind.i64.wrap (8*(IntKind.i64.wrap ((((jD z.natAbs).size:Nat):Int)-1)))) (IntKind.i64.wrap (((jD z.natAbs).data.getD 0 0).toNat:Int)))else none)=_;rw[show((((jD z.natAbs).size:Nat):Int)==0)=false from beq_eq_false_iff_ne.2 (by omega),qCf,show ltI 0 ((jD z.natAbs).size:Int)=true from decide_eq_true (by omega),qCt,wrap_eq (x:=((((jD z.natAbs).size:Nat):Int)-1)) (by omega) (by omega),wrap_eq (by omega) (by omega),wrap_eq (by omega) (by omega),show(8*((((jD z.natAbs).size:Nat):Int)-1))=((8*((jD z.natAbs).size-1):Nat):Int) by omega];exact h
 obtain⟨m,q,j⟩:=b;refine run_of (hX _ rfl) ?_;rw[eI,e91];show(run tab X 144 [.p (eI z)] []).bind _=_;simp_all
theorem c33(n d:Int)(f:fQ n 1000)(hd:fQ d 1000):run tab X 33 [.p (eQ n d)] []=some ([.p (eR n d),.p (.int .i64 0)],[]):=
 run_of (hX _ rfl) (by have e:=c91 X hX n f;have c:=c91 X hX d hd;have b:=c70 X hX n (bF f (by decide));have a:=c70 X hX d (bF hd (by decide));rw[eI]at e c b a;rw[eQ,e33,e,qOb];simp only[qLh,pv_p,toBool_bool,qCf];rw[c,qOb];simp only[qLh,pv_p,toBool_bool,qCf];rw[b,qOb,a];rfl)
theorem l34(a:List ku)(p:V3)(hp:je p)(P:a.length<=2000)(A:∀ e∈a,je e.1/\je e.2)(v:∀ e∈a,0<kY e.1 e.2):∀(r:List ku) (i:Nat) (b:Rt) (n d:Int),a.drop i=r->i<=a.length->0<d/\n*b.d=b.n*d/\fQ n 120/\fQ d 120->Cn b->b.ok ->
    L tab (run tab X) 34 [] [.lp [1,1,1,0,1,0]] (jI 0 a.length (i:Int) p.x p.y p.z false false (a.map EW) (decide (n<0)) (nI n.natAbs) (decide (d<0)) (nI d.natAbs))=some ([.p (eQ (jB p b r).n (jB p b r).d)],[])/\fQ (jB p b r).n 120/\fQ (jB p b r).d 120:=by
  intro r;induction r with
  | nil =>
   intro i b n d hd g f o K;have w:i=a.length:=Nat.le_antisymm g (List.drop_eq_nil_iff.1 hd);subst w;obtain⟨h2,h3,h4,h5⟩:=f;have Q:low n d=b:=SI (G6 (by omega)) o (AB (N:=b.n) (D:=b.d) (by omega) h3.symm).symm;have M:ou n d=b.n:=congrArg Rt.n Q;have j:nJ n d=b.d:=congrArg Rt.d Q;have V:=c93 X hX n d (bF h4 (by decide)) (bF h5 (by decide)) (by omega);rw[M,j]at V;refine⟨L_of ?_,?_,?_⟩
   . rw[DN,yL (by omega),qCf];show(run tab X 93 [.p (eI n),.p (eI d)] []).bind _=_;rw[V];rfl
   . show fQ b.n 120;rw[<- M];exact zC (zl n d) h4
   . show fQ b.d 120;rw[<- j];exact zC (zn n d) h5
  | cons e r J =>
   intro i b n d hd _ f o K;obtain⟨hg,g,m,O⟩:=CP hd;obtain⟨T,S⟩:=A e O;have U:=v e O;obtain⟨r',s',E,t⟩:=c92 X hX e.1 e.2 p T S hp U;have l:=@MC e.1 e.2 p U;have B:=zq T S hp;obtain⟨s,C,he,I,H,G,F⟩:=t;rw[he]at E;have u:uK (eQ n d) b.n b.d 120:=⟨n,d,rfl,f.1,f.2.1,f.2.2.1,f.2.2.2⟩;have t:uK (eQ s C) (dist e.1 e.2 p).n (dist e.1 e.2 p).d 120:=⟨s,C,rfl,I,H,G,F⟩;have q:=Ku X hX t u (by decide) l.1 o.1;rw[oD,encV]at E;have Y:=J (i+1) (dist e.1 e.2 p) s C m g ⟨I,H,G,F⟩ l B;have W:=J (i+1) b n d m g f o K;rw[jB];have Z:L tab (run tab X) 34 [] [.lp [1,1,1,0,1,0]] (jI 0 a.length (i:Int) p.x p.y p.z false false (a.map EW) (decide (n<0)) (nI n.natAbs) (decide (d<0)) (nI d.natAbs))=(bif decide ((dist e.1 e.2 p).n*b.d-b.n*(dist e.1 e.2 p).d<0)then some ([.p (eQ (jB p (dist e.1 e.2 p) r).n (jB p (dist e.1 e.2 p) r).d)],[])else some ([.p (eQ (jB p b r).n (jB p b r).d)],[])):=by
    have k:∀ x,R tab (run tab X) 34 [] [.lp [1,1,1,0,1,0]] (jI 0 a.length (i:Int) p.x p.y p.z false false (a.map EW) (decide (n<0)) (nI n.natAbs) (decide (d<0)) (nI d.natAbs))=some x->L tab (run tab X) 34 [] [.lp [1,1,1,0,1,0]] (jI 0 a.length (i:Int) p.x p.y p.z false false (a.map EW) (decide (n<0)) (nI n.natAbs) (decide (d<0)) (nI d.natAbs))=some x:=λx h=>L_of h;have e34:R tab (run tab X) 34 [] [.lp [1,1,1,0,1,0]] (jI 0 a.length (i:Int) p.x p.y p.z false false (a.map EW) (decide (n<0)) (nI n.natAbs) (decide (d<0)) (nI d.natAbs))=(bif decide ((dist e.1 e.2 p).n*b.d-b.n*(dist e.1 e.2 p).d<0)then some ([.p (eQ (jB p (dist e.1 e.2 p) r).n (jB p (dist e.1 e.2 p) r).d)],[])else some ([.p (eQ (jB p b r).n (jB p b r).d)],[])):=by rw[DN,sG g,qCt,fH (by omega)];simp only[rng g,qCt,qIt,qNz,hg,zF,zG,zH,zI,zJ,zK,E,qOb,qLh,pv_p];rw[jV,yF n d,q,qOb];simp only[qLh,pv_p,toInt_int,GZ];rw[<- Y.1,<- W.1];rfl
    by_cases c:(dist e.1 e.2 p).n*b.d-b.n*(dist e.1 e.2 p).d<0
    . simp_all
    . rw[decide_eq_false c,qCf]at e34 ⊢;exact k _ e34
   by_cases c:(dist e.1 e.2 p).n*b.d-b.n*(dist e.1 e.2 p).d<0
   . grind
   grind
theorem c34(f:Fen)(h:validP f=true)(p:V3)(hp:je p):run tab X 34 [.p (encF f),.p (encV p)] []=some ([.p (eQ (jB p ⟨0,0⟩ (dS f)).n (jB p ⟨0,0⟩ (dS f)).d)],[])/\fQ (jB p ⟨0,0⟩ (dS f)).n 120/\fQ (jB p ⟨0,0⟩ (dS f)).d 120:=by
 have b:=c30 X hX f h;have A:=Ed h;have c:=xC h;have a:=KD h;have j:0<(dS f).length:=by obtain⟨C,_⟩:=kW h;have:=(eH C).1;unfold dS;rw[qLp,iI,yA (by omega)];omega
 rw[encF]at b ⊢;rw[encV];cases g:dS f with
 | nil=>rw[g]at j;exact absurd j (by decide)
 | cons e r =>
  have i:e∈dS f:=by rw[g];exact List.mem_cons_self ..
  obtain⟨l,k⟩:=c e i;obtain⟨F,E,m,x⟩:=c92 X hX e.1 e.2 p l k hp (a e i);obtain⟨o,D,y,w,v,u,t⟩:=x;rw[y,oD,encV]at m;obtain⟨s,q⟩:=l34 X hX (dS f) p hp A c a r 1 (dist e.1 e.2 p) o D (by rw[g];rfl) j ⟨w,v,u,t⟩ (MC (a e i)) (zq l k hp);rw[jB,if_pos (.inl λz=>absurd z.2.2 (by decide))];refine⟨run_of (hX _ rfl) ?_,q⟩;have B:((dS f).map EW).getD 0 .nil=oD e.1 e.2:=by rw[g];rfl
  rw[e34,b,qOb];simp only[qLh,AV.freshList,qLm,show ltI 0 (((dS f).length:Nat):Int)=true from decide_eq_true (by omega),qCt,B,zF,zG,zH,zI,zJ,zK,m,qOb,pv_p];exact s
end
end
end Go.Skm.Fen
