import Derived.Test.YtoheflpoanjihaaGreatG8
import Derived.Test.YtoheflpoanjihaaGreatEqv1
set_option linter.all false
namespace Go.Skm.Fen
section
open Go Go.Skm
variable {v:V3}{l:List V3}
abbrev jW:=V3 × V3
def uU(l:List V3)(n:Nat):List jW:=(List.range n).map λi=>(flat (ca l i),flat (cb l i))
abbrev dJ(l:List V3):List jW:=uU l l.length
def eY(e:jW):PV:=.agg [encV e.1,encV e.2]
theorem uD(l:List V3)(n:Nat):uU l (n+1)=uU l n++[(flat (ca l n),flat (cb l n))]:=by simp[uU,List.range_succ,List.map_append]
theorem jr(l:List V3)(n:Nat):(uU l n).length=n:=by simp[uU]
def I4(e:jW):Int:=e.1.x*e.2.y-e.1.y*e.2.x
def yw:List jW->Int
 |[]=>0
 | e::r=>I4 e+yw r
theorem KL(a b:List jW):yw (a++b)=yw a+yw b:=by
 induction a with
 | nil=>simp[yw]
 | cons e r c=>simp only[List.cons_append,yw,c];omega
abbrev iy(v:V3):Prop:=Bd 1048576 v
theorem iy.up(h:iy v):mW v:=h.mono (by decide)
theorem Jd(h:l.all (inM 1048576)=true)(i:Nat):iy (gt l i):=by
 by_cases a:i<l.length
 . simp_all[pJ,qLb]
 . have e:gt l i=default:=by grind
   rw[e];refine⟨⟨?_,?_⟩,⟨?_,?_⟩,⟨?_,?_⟩⟩<;>decide
theorem RG(h:iy v):iy (flat v):=⟨h.1,h.2.1,⟨by show(-1048576:Int)<=0;decide,by show(0:Int)<=1048576;decide⟩⟩
def OkE(es:List jW):Prop:=∀ e∈es,iy e.1/\iy e.2
theorem yX(h:l.all (inM 1048576)=true)(n:Nat):OkE (uU l n):=by intro e a;simp only[uU,List.mem_map]at a;obtain⟨i,_,rfl⟩:=a;exact⟨RG (Jd h _),RG (Jd h _)⟩
theorem Hw{e:jW}(h:iy e.1/\iy e.2):(-1099511627776<=e.1.x*e.2.y/\e.1.x*e.2.y<=1099511627776)/\(-1099511627776<=e.1.y*e.2.x/\e.1.y*e.2.x<=1099511627776):=by obtain⟨⟨c,b,_⟩,⟨b1,a,_⟩⟩:=h;exact⟨mulB (m:=1048576) (n:=1048576) c a,mulB (m:=1048576) (n:=1048576) b b1⟩
section
variable (X:Ext) (hX:Mine X)
include hX
theorem c51(l:List V3):run tab X 51 [Al (encL l)] []=some ([.p (.fn 100 [.ref [As (encL l)]])],[]):=run_of (hX _ rfl) (e51 _ _)
theorem acs(l:List V3)(f:l.length<=1000000):∀ k i,i+k=l.length ->
    L tab (run tab X) 100 [.log true []] [.lp [1,0]] (Ec (encL l) (encL l) ((l.length:Nat):Int) (i:Int) ((uU l i).map eY))=some ([],[.log true ((dJ l).map eY)]):=by
  have _:=hX;intro k;induction k with
  | zero =>
   intro i e;have:i=l.length:=by omega
   subst this;refine L_of ?_;rw[NZ,xO (by omega),qCf]
  | succ k c =>
   intro i e;have a:i<l.length:=by omega
   have d:=MW (n:=l.length) (i:=i) (by omega);refine L_of ?_;rw[NZ,rZ a,qCt];simp only[encL_length,le0,rZ a,rZ d,nz (show 0<l.length by omega),dL (show i<=9000000000000000000 by omega),KI,Bool.and_true,qCt,qIt,encL_x,encL_y];have b:=c (i+1) (by omega);rw[uD,List.map_append]at b;refine fork_of rfl ?_;exact b
theorem PS(l:List V3)(a:l.length<=1000000):run tab X 100 [.yld,.p (.ref [As (encL l)])] [.log true []]=some ([],[.log true ((dJ l).map eY)]):=
 run_of (hX _ rfl) (by rw[e100,encL_length];exact acs X hX l a l.length 0 (by omega))
theorem l47(l:List PV):∀(a:List jW) (s:Int),OkE a→-(4398046511104*(1000000-a.length))<=s/\s<=4398046511104*(1000000-a.length)->a.length<=1000000 ->
    L tab (run tab X) 47 [] [.rg [1,1,0,1,0] [(true,kV3),(true,kV3)] (a.map eY)] (tC l s)=some ([Ab (s+yw a)],[]):=by
  have _:=hX;intro a;induction a with
  | nil=>simp[List.map_nil,GK,yw,Int.add_zero]
  | cons e r d =>intro s b f g;simp only[qLl]at f g;have j:=Hw (b e (by simp));rw[List.map_cons];show L tab (run tab X) 47 [] [.rg [1,1,0,1,0] [(true,kV3),(true,kV3)] (.agg [.agg [Av e.1.x,Av e.1.y,Av e.1.z],.agg [Av e.2.x,Av e.2.y,Av e.2.z]]::r.map eY)] (tC l s)=_;rw[EK,wrap_eq (x:=e.1.x*e.2.y) (by omega) (by omega),wrap_eq (x:=e.1.y*e.2.x) (by omega) (by omega),wrap_eq (x:=e.1.x*e.2.y-e.1.y*e.2.x) (by omega) (by omega),wrap_eq (x:=s+_) (by omega) (by omega)];have h:=d (s+I4 e) (λi c=>b i (by simp[c])) (by unfold I4;omega) (by omega);rw[yw,<- Int.add_assoc];exact h
def lg(l:List V3):Int:=yw (dJ l)
theorem c47(l:List V3)(c:l.length<=1000)(a:l.all (inM 1048576)=true):run tab X 47 [Al (encL l)] []=some ([Ab (lg l)],[]):=
 run_of (hX _ rfl) (by rw[e47,c51 X hX l,qOb];show(run tab X 100 [.yld,.p (.ref [As (encL l)])] [.log true []]).bind _=_;rw[PS X hX l (by omega),qOb];have b:=l47 X hX (encL l) (dJ l) 0 (yX a _) (by rw[jr];omega) (by rw[jr];omega);rw[Int.zero_add]at b;exact b)
theorem c48(n:Int):run tab X 48 [Ab n] []=some ([Ab (iY n)],[]):=
 run_of (hX _ rfl) (by rw[e48];simp only[condD,iY];grind)
end
def QC(h:List V3):Nat->Nat->Int->Int
 | 0,_,s=>s
 | k+1,i,s=>QC h k (i+1) (s+area (gt h 0) (gt h i) (gt h (i+1)))
theorem KO{a b:V3}(d:iy a)(c:iy b):(-2097152<=(yD a b).x/\(yD a b).x<=2097152)/\(-2097152<=(yD a b).y/\(yD a b).y<=2097152):=by obtain⟨g,f,_⟩:=d;obtain⟨b1,e,_⟩:=c;grind[yD]
section
variable (X:Ext) (hX:Mine X)
include hX
theorem c54(h:List V3)(B:h.length<=1000)(a:h.all (inM 1048576)=true):run tab X 54 [Al (encL h)] []=some ([Ab (QC h (h.length-2) 1 0)],[]):=by
 refine run_of (hX _ rfl) ?_;rw[e54];have g:=Jd a;have t:∀ k i:Nat,(i+k+1=h.length\/(k=0/\h.length<=i+1))->1<=i->i<=10000->∀ s:Int,-(i*70368744177664)<=s->s<=i*70368744177664->L tab (run tab X) 54 [] [.lp [1,1,0,1,0]] (yM (encL h) s (i:Int))=some ([Ab (QC h k i s)],[]):=by
  intro k;induction k with
  | zero =>intro i w f e s d c;refine L_of ?_;rw[G7,encL_length,dL (by omega),xO (by omega),qCf];rfl
  | succ k u =>
   intro i w f e s d c;refine L_of ?_;have b0:=g 0;have b1:=g i;have r:=g (i+1);have p:=c105 X hX (gt h i) (gt h 0) (b1.mono (by decide)) (b0.mono (by decide));have o:=c105 X hX (gt h (i+1)) (gt h 0) (r.mono (by decide)) (b0.mono (by decide));have n:=Yj X hX (yD (gt h i) (gt h 0)) (yD (gt h (i+1)) (gt h 0));simp only[encV]at p o n;have b:ltI (0:Int) ((h.length:Nat):Int)=true:=decide_eq_true (by omega);rw[G7,encL_length,dL (by omega),rZ (show i+1<h.length by omega),qCt];simp only[le0,rZ (show i<h.length by omega),b,Bool.and_true,qCt,qIt,encL_x,encL_y,encL_z,p,o,qOb,qLh,pv_p,cell_agg,qLz,List.getD_cons_succ,toInt_int];simp only[n,qOb,qLh,pv_p,cell_agg,qLz,List.getD_cons_succ,toInt_int];have j:=KO b1 b0;have s2:=KO r b0;have A:=mulB j.1 s2.2;have z:=mulB j.2 s2.1;have q:CP (yD (gt h i) (gt h 0)).x (yD (gt h (i+1)) (gt h 0)).y (yD (gt h i) (gt h 0)).y (yD (gt h (i+1)) (gt h 0)).x=area (gt h 0) (gt h i) (gt h (i+1)):=by rw[CQ (m:=4398046511104) (by omega) (by omega) (by omega)];rfl
   have C:-8796093022208<=area (gt h 0) (gt h i) (gt h (i+1))/\area (gt h 0) (gt h i) (gt h (i+1))<=8796093022208:=by rw[<- q,CQ (m:=4398046511104) (by omega) (by omega) (by omega)];omega
   rw[q,wrap_eq (by omega) (by omega)];exact u (i+1) (by omega) (by omega) (by omega) _ (by omega) (by omega)
 grind
end
def rV(a b:V3):Int:=a.x*b.y-a.y*b.x
theorem MZ(a b c:V3):area a b c=rV a b+rV b c+rV c a:=by unfold area rV;grind
theorem DC(a b:V3):rV b a=- rV a b:=by unfold rV;grind
theorem KQ(h:List V3):∀ k,k+1<=h.length-1->yw (uU h (k+1))=QC h k 1 0+rV (gt h 0) (gt h (k+1))
 | 0,hk=>by have e:oP h.length 0=1:=Nat.mod_eq_of_lt (by omega);show yw [(flat (ca h 0),flat (cb h 0))]=_;simp only[yw,QC];show rV (gt h 0) (gt h (oP h.length 0))+0=0+rV (gt h 0) (gt h 1);rw[e];omega
 | k+1,hk=>by
  have e:oP h.length (k+1)=k+2:=Nat.mod_eq_of_lt (by omega);have b:∀ k i s,QC h (k+1) i s=QC h k i s+area (gt h 0) (gt h (i+k)) (gt h (i+k+1)):=by
   intro k;induction k with
   | zero=>intro i s;simp[QC]
   | succ k a =>intro i s;rw[QC,a,QC];grind
  rw[uD,KL,KQ h k (by omega),b,MZ];show _+(rV (gt h (k+1)) (gt h (oP h.length (k+1)))+0)=_;rw[e,show 1+k=k+1 by omega,show k+1+1=k+2 by omega];have:=DC (gt h (k+2)) (gt h 0);omega
theorem Na(h:List V3)(c:3<=h.length):lg h=QC h (h.length-2) 1 0:=by
 obtain⟨n,a⟩:∃ n,h.length=n+3:=⟨h.length-3,by omega⟩;have e:oP h.length (n+2)=0:=by unfold oP;rw[a,Nat.mod_self]
 unfold lg;rw[dJ,a,uD,KL,show n+3-2=n+1 by omega];have b:=KQ h (n+1) (by omega);rw[b];show _+(rV (gt h (n+2)) (gt h (oP h.length (n+2)))+0)=_;rw[e];have:=DC (gt h 0) (gt h (n+2));grind
end
section
variable {a b:Int}
structure Pt where
 x:Int
 y:Int
 deriving DecidableEq,Inhabited
def turn(a b c:Pt):Int:=(b.x-a.x)*(c.y-a.y)-(b.y-a.y)*(c.x-a.x)
def cr(p a b:Pt):Int:=if a.y<=p.y/\p.y<b.y/\0<turn a b p then 1 else if b.y<=p.y/\p.y<a.y/\turn a b p<0 then -1 else 0
def btw(a b c:Int):Prop:=(a<=c/\c<=b)\/(b<=c/\c<=a)
def on(a b p:Pt):Prop:=turn a b p=0/\btw a.x b.x p.x/\btw a.y b.y p.y
def meet(a b c d:Pt):Prop:=on a b c\/on a b d\/on c d a\/on c d b\/(turn a b c*turn a b d<0/\turn c d a*turn c d b<0)
theorem lV(a b c:Pt):turn b c a=turn a b c:=by unfold turn;grind
theorem iP(a b c:Pt):turn b a c=- turn a b c:=by unfold turn;grind
theorem Gi(a b c:Pt):turn a c b=- turn a b c:=by unfold turn;grind
theorem Gj(a b:Pt):turn a b a=0:=by unfold turn;grind
theorem Lh(a b:Pt):turn a b b=0:=by unfold turn;grind
theorem OO(p a b:Pt):cr p b a=- cr p a b:=by have e:=iP a b p;grind[cr]
theorem Ii(a b x z:Pt):turn x z b*(b.y-a.y)=turn a b x*(b.y-z.y)-turn a b z*(b.y-x.y):=by unfold turn;grind
theorem zX(a b x z:Pt):turn x z a*(b.y-a.y)=turn a b x*(a.y-z.y)-turn a b z*(a.y-x.y):=by unfold turn;grind
theorem Qj(a b p q:Pt):(b.y-a.y)*turn p q a=turn a b p*(a.y-q.y)-turn a b q*(a.y-p.y):=by unfold turn;grind
theorem iH(d:0<b)(h:0<a*b):0<a:=by
 rcases Int.lt_trichotomy a 0 with c | c | c
 . have:=Int.mul_neg_of_neg_of_pos c d;omega
 all_goals grind
theorem dQ(d:0<b)(h:a*b<0):a<0:=by
 rcases Int.lt_trichotomy a 0 with c | c | c
 . exact c
 . grind
 . have:=Int.mul_pos c d;omega
theorem DJ(c:0<b)(h:a*b=0):a=0:=by rcases Int.mul_eq_zero.1 h with h | h;all_goals omega
theorem pO(d:0<a)(c:b<0):a*b<0:=Int.mul_neg_of_pos_of_neg d c
theorem jT(d:a<0)(c:0<b):a*b<0:=Int.mul_neg_of_neg_of_pos d c
theorem wz{a b p:Pt}(h:turn a b p=0)(k:a.y<b.y)(m:a.y<=p.y)(l:p.y<=b.y):on a b p:=by
 refine⟨h,?_,.inl ⟨m,l⟩⟩;have e:(b.x-a.x)*(p.y-a.y)=(p.x-a.x)*(b.y-a.y):=by grind[turn]
 have n:(b.x-a.x)*(b.y-p.y)=(b.x-p.x)*(b.y-a.y):=by grind
 have hd:0<b.y-a.y:=by omega
 have g:0<=p.y-a.y:=by omega
 have f:0<=b.y-p.y:=by omega
 by_cases o:a.x<=b.x
 . left;have d:0<=(p.x-a.x)*(b.y-a.y):=by rw[<- e];exact Int.mul_nonneg (by omega) g
   have c:0<=(b.x-p.x)*(b.y-a.y):=by rw[<- n];exact Int.mul_nonneg (by omega) f
   have j:0<=p.x-a.x:=Int.nonneg_of_mul_nonneg_left d hd;have i:0<=b.x-p.x:=Int.nonneg_of_mul_nonneg_left c hd;omega
 . right;have d:0<=(a.x-p.x)*(b.y-a.y):=by
    have:(a.x-p.x)*(b.y-a.y)=(a.x-b.x)*(p.y-a.y):=by grind
    rw[this];exact Int.mul_nonneg (by omega) g
   have c:0<=(p.x-b.x)*(b.y-a.y):=by
    have:(p.x-b.x)*(b.y-a.y)=(a.x-b.x)*(b.y-p.y):=by grind
    rw[this];exact Int.mul_nonneg (by omega) f
   have j:0<=a.x-p.x:=Int.nonneg_of_mul_nonneg_left d hd;have i:0<=p.x-b.x:=Int.nonneg_of_mul_nonneg_left c hd;omega
theorem Lj{c:Int}:btw a b c↔btw b a c:=by unfold btw;omega
theorem qF{a b p:Pt}:on a b p↔on b a p:=by unfold on;rw[iP a b p,Lj (a:=a.x),Lj (a:=a.y)];simp
theorem meet_comm{a b c d:Pt}:meet a b c d↔meet a b d c:=by unfold meet;rw[qF (a:=c) (b:=d),qF (a:=c) (b:=d) (p:=b),iP c d a,iP c d b];grind
def hit(x z v:Pt):Int:=if x.y<v.y/\v.y<=z.y/\turn x z v<0 then 1 else 0
theorem OQ{x z a b:Pt}(m:x.y<z.y)(r:a.y<b.y)(n:¬ meet x z a b):cr x a b-cr z a b=hit x z b-hit x z a:=by
 have G:¬ on a b x:=λh=>n (.inr (.inr (.inl h)));have nz:¬ on a b z:=λh=>n (.inr (.inr (.inr (.inl h))));have I:¬ on x z a:=λh=>n (.inl h);have H:¬ on x z b:=λh=>n (.inr (.inl h));have D:¬(turn x z a*turn x z b<0/\turn a b x*turn a b z<0):=λh=>n (.inr (.inr (.inr (.inr h))));have P:=Ii a b x z;have O:=zX a b x z;have hd:0<b.y-a.y:=by omega
 have g:0<z.y-x.y:=by omega
 have N:=Ii x z a b;have M:=zX x z a b;have w:a.y<=x.y->x.y<=b.y->turn a b x≠0:=λf e h=>G (wz h r f e);have l:a.y<=z.y->z.y<=b.y->turn a b z≠0:=λf e h=>nz (wz h r f e);have A:x.y<=a.y->a.y<=z.y->turn x z a≠0:=λf e h=>I (wz h m f e);have o:x.y<=b.y->b.y<=z.y->turn x z b≠0:=λf e h=>H (wz h m f e);unfold cr hit;generalize turn a b x=Tx at *;generalize turn a b z=Tz at *;generalize turn x z a=Ua at *;generalize turn x z b=Ub at *;have c1:0<Tx->Tz<0->Ua<0->0<Ub->False:=λf e B h4=>D ⟨jT B h4,pO f e⟩;have c2:Tx<0->0<Tz->0<Ua->Ub<0->False:=λf e B h4=>D ⟨pO B h4,jT f e⟩;have K:∀{p q:Prop},((p->q)/\(q->p))->(p↔q):=λh=>⟨h.1,h.2⟩;by_cases J:a.y<=x.y
 . by_cases L:b.y<=x.y
   . grind
   . have i:=w J (by omega);by_cases s:b.y<=z.y
     . -- low,between
       have F:=o (by omega) s;have v:0<Tx->0<Ub->False:=λh k=>by
        have j:Tz<0:=by
         by_cases q:Tz<0
         . exact q
         . have t:=Int.mul_pos k hd;have d:Tx*(b.y-z.y)<=0:=Int.mul_nonpos_of_nonneg_of_nonpos (by omega) (by omega);have c:0<=Tz*(b.y-x.y):=Int.mul_nonneg (by omega) (by omega);omega
        refine c1 h j (dQ hd ?_) k;have d:Tx*(a.y-z.y)<0:=pO h (by omega);have c:0<=Tz*(a.y-x.y):=Int.mul_nonneg_of_nonpos_of_nonpos (by omega) (by omega);omega
       have u:Tx<0->Ub<0->False:=λh k=>by
        have j:0<Tz:=by
         by_cases q:0<Tz
         . exact q
         . have t:=jT k hd;have d:0<=Tx*(b.y-z.y):=Int.mul_nonneg_of_nonpos_of_nonpos (by omega) (by omega);have c:Tz*(b.y-x.y)<=0:=Int.mul_nonpos_of_nonpos_of_nonneg (by omega) (by omega);omega
        refine c2 h j (iH hd ?_) k;have d:0<Tx*(a.y-z.y):=Int.mul_pos_of_neg_of_neg h (by omega);have c:Tz*(a.y-x.y)<=0:=Int.mul_nonpos_of_nonneg_of_nonpos (by omega) (by omega);omega
       grind
     . -- low,high
       have j:=l (by omega) (by omega);have v:0<Tx->Tz<0->False:=λh k=>by
        refine c1 h k (dQ hd ?_) (iH hd ?_)
        . have d:Tx*(a.y-z.y)<0:=pO h (by omega);have c:0<=Tz*(a.y-x.y):=Int.mul_nonneg_of_nonpos_of_nonpos (by omega) (by omega);omega
        . have d:0<Tx*(b.y-z.y):=Int.mul_pos h (by omega);have c:Tz*(b.y-x.y)<0:=jT k (by omega);omega
       have u:Tx<0->0<Tz->False:=λh k=>by
        refine c2 h k (iH hd ?_) (dQ hd ?_)
        . have d:0<Tx*(a.y-z.y):=Int.mul_pos_of_neg_of_neg h (by omega);have c:Tz*(a.y-x.y)<=0:=Int.mul_nonpos_of_nonneg_of_nonpos (by omega) (by omega);omega
        . have d:Tx*(b.y-z.y)<0:=jT h (by omega);have c:0<Tz*(b.y-x.y):=Int.mul_pos k (by omega);omega
       grind
 . have C:a.y<=z.y->Ua≠0:=λh=>A (by omega) h;by_cases E:a.y<=z.y
   . have C:=C E;by_cases s:b.y<=z.y
     . -- both between
       have F:=o (by omega) s;have v:Ua<0->0<Ub->False:=λh k=>by
        refine c1 (iH g ?_) (dQ g ?_) h k
        . have d:0<Ua*(x.y-b.y):=Int.mul_pos_of_neg_of_neg h (by omega);have c:Ub*(x.y-a.y)<0:=pO k (by omega);omega
        . have d:Ua*(z.y-b.y)<=0:=Int.mul_nonpos_of_nonpos_of_nonneg (by omega) (by omega);have c:0<Ub*(z.y-a.y):=Int.mul_pos k (by omega);omega
       have u:0<Ua->Ub<0->False:=λh k=>by
        refine c2 (dQ g ?_) (iH g ?_) h k
        . have d:Ua*(x.y-b.y)<0:=pO h (by omega);have c:0<Ub*(x.y-a.y):=Int.mul_pos_of_neg_of_neg k (by omega);omega
        . have d:0<=Ua*(z.y-b.y):=Int.mul_nonneg (by omega) (by omega);have c:Ub*(z.y-a.y)<0:=jT k (by omega);omega
       grind
     . -- between,high
       have j:=l E (by omega);have v:0<Tz->0<Ua->False:=λh k=>by
        have i:Tx<0:=by
         by_cases q:Tx<0
         . exact q
         . have t:=Int.mul_pos k hd;have d:Tx*(a.y-z.y)<=0:=Int.mul_nonpos_of_nonneg_of_nonpos (by omega) (by omega);have c:0<Tz*(a.y-x.y):=Int.mul_pos h (by omega);omega
        refine c2 i h k (dQ hd ?_);have d:Tx*(b.y-z.y)<0:=jT i (by omega);have c:0<Tz*(b.y-x.y):=Int.mul_pos h (by omega);omega
       have u:Tz<0->Ua<0->False:=λh k=>by
        have i:0<Tx:=by
         by_cases q:0<Tx
         . exact q
         . have t:=jT k hd;have d:0<=Tx*(a.y-z.y):=Int.mul_nonneg_of_nonpos_of_nonpos (by omega) (by omega);have c:Tz*(a.y-x.y)<0:=jT h (by omega);omega
        refine c1 i h k (iH hd ?_);have d:0<Tx*(b.y-z.y):=Int.mul_pos i (by omega);have c:Tz*(b.y-x.y)<0:=jT h (by omega);omega
       grind
   grind
theorem BF{x z a b:Pt}(c:x.y<z.y)(d:a.y≠b.y)(e:¬ meet x z a b):cr x a b-cr z a b=hit x z b-hit x z a:=by
 rcases Int.lt_or_gt_of_ne d with h | h
 . exact OQ c h e
 . have:=OQ c h λh=>e (meet_comm.1 h);rw[OO x a b,OO z a b]at this;omega
end
section
variable {n:Nat}{t u v z:Pt}{p:Nat->Pt}
def sg(f:Nat->Int)(k:Nat):Nat->Int
 | 0=>0
 | n+1=>sg f k n+f (k+n)
theorem Jq(f:Nat->Int)(k:Nat):∀ n,sg f k (n+1)=f k+sg f (k+1) n
 | 0=>by simp[sg]
 | n+1=>by rw[sg,Jq f k n,sg,show k+1+n=k+(n+1) by omega];omega
theorem Si(f:Nat->Int)(hp:∀ i,f (i+n)=f i)(k:Nat):sg f (k+1) n=sg f k n:=by have b:=Jq f k n;have a:sg f k (n+1)=sg f k n+f (k+n):=rfl;grind
theorem Sj(f:Nat->Int){n:Nat}(hp:∀ i,f (i+n)=f i):∀ k,sg f k n=sg f 0 n
 | 0=>rfl
 | k+1=>by rw[Si f hp k,Sj f hp k]
theorem Jr(h:Nat->Int)(k:Nat):∀ n,sg (λi=>h (i+1)-h i) k n=h (k+n)-h k
 | 0=>by simp[sg]
 | n+1=>by rw[sg,Jr h k n];grind
theorem uH{f g:Nat->Int}{k:Nat}:∀{n},(∀ i,k<=i->i<k+n->f i=g i)->sg f k n=sg g k n
 | 0,_=>rfl
 | n+1,h=>by rw[sg,sg,uH λi a b=>h i a (by omega),h (k+n) (by omega) (by omega)]
theorem Ns(f g:Nat->Int)(k:Nat):∀ n,sg (λi=>f i-g i) k n=sg f k n-sg g k n
 | 0=>by simp[sg]
 | n+1=>by rw[sg,sg,sg,Ns f g k n];omega
def lq(p:Nat->Pt)(n:Nat)(x:Pt):Int:=sg (λi=>cr x (p i) (p (i+1))) 0 n
structure Simp (p:Nat->Pt) (n:Nat):Prop where
 n3:3<=n
 per:∀ i,p (i+n)=p i
 far:∀ i m,2<=m->m+1<n->¬ meet (p i) (p (i+1)) (p (i+m)) (p (i+m+1))
 F5:∀ i,¬ on (p i) (p (i+1)) (p (i+2))
 F6:∀ i,¬ on (p (i+1)) (p (i+2)) (p i)
 hts:∀ i m,0<m->m<n->(p i).y≠(p (i+m)).y
def lam(t u v:Pt):Int:=if t.y<u.y/\u.y<v.y then 0 else if u.y<t.y/\v.y<u.y then -1 else if turn t u v<0 then -1 else 0
theorem Sl(h:u.y<v.y)(a:t.y≠u.y)(b:u.y<t.y->turn t u v≠0):cr v t u-hit u v t=lam t u v:=by
 have c:turn u v t=turn t u v:=by rw[<- lV t u v]
 grind[cr,hit,lam]
theorem UK(h:u.y<v.y)(_:z.y≠v.y):cr u v z-hit u v z=lam u v z:=by have a:turn v z u=turn u v z:=lV u v z;grind[cr,hit,lam]
theorem Ll(h:v.y<u.y)(a:t.y≠u.y)(b:t.y<u.y->turn t u v≠0):cr v t u+hit v u t=lam t u v+1:=by
 have c:turn v u t=- turn t u v:=by rw[iP u v t,<- lV t u v]
 grind[cr,hit,lam]
theorem Qk(h:v.y<u.y)(a:z.y≠v.y)(b:v.y<z.y->turn u v z≠0):cr u v z+hit v u z=lam u v z+1:=by have d:turn v u z=- turn u v z:=iP u v z;have c:turn v z u=turn u v z:=lV u v z;grind[cr,hit,lam]
theorem Sm(hp:∀ i,p (i+n)=p i)(x:Pt)(k:Nat):sg (λi=>cr x (p i) (p (i+1))) k n=lq p n x:=
 Sj _ (λi=>by grind) k
theorem xG(h:Simp p n)(x:Pt)(k:Nat):lq p n x=cr x (p k) (p (k+1))+cr x (p (k+1)) (p (k+2))+cr x (p (k+2)) (p (k+3))+sg (λi=>cr x (p i) (p (i+1))) (k+3) (n-3):=by rw[<- Sm h.per x k];obtain⟨m,a⟩:∃ m,n=m+3:=⟨n-3,by have:=h.n3;omega⟩;grind[Jq]
theorem Nu(a b:Pt):cr a a b=0:=by simp[Gj,cr]
theorem Js(a b:Pt):cr b a b=0:=by simp[Lh,cr]
theorem zh{a b c d:Pt}:meet a b c d↔meet b a c d:=by unfold meet;rw[qF (a:=a) (b:=b),qF (a:=a) (b:=b) (p:=d),iP a b c,iP a b d];grind
theorem Ep(h:Simp p n)(k:Nat){x:Pt}(a:x.y<z.y)(b:∀ i,k+3<=i->i<k+n->¬ meet x z (p i) (p (i+1))) :
    sg (λi=>cr x (p i) (p (i+1))) (k+3) (n-3)-sg (λi=>cr z (p i) (p (i+1))) (k+3) (n-3)=hit x z (p k)-hit x z (p (k+3)):=by
  have d:=h.n3;rw[<- Ns];have:sg (λi=>cr x (p i) (p (i+1))-cr z (p i) (p (i+1))) (k+3) (n-3)=sg (λi=>hit x z (p (i+1))-hit x z (p i)) (k+3) (n-3):=by refine uH λi c e=>BF a (h.hts i 1 (by omega) (by omega)) (b i c (by omega))
  rw[this,Jr (λi=>hit x z (p i)),show k+3+(n-3)=k+n by omega,h.per k]
theorem Gl(h:Simp p n){k i:Nat}(b:k+3<=i)(a:i<k+n):¬ meet (p (k+1)) (p (k+2)) (p i) (p (i+1)):=by have:=h.far (k+1) (i-(k+1)) (by omega) (by omega);grind
theorem BG(h:Simp p n)(k:Nat)(f:((p k).y<(p (k+1)).y/\(p (k+2)).y<(p (k+1)).y)\/((p (k+1)).y<(p k).y/\(p (k+1)).y<(p (k+2)).y)):turn (p k) (p (k+1)) (p (k+2))≠0:=by
 intro d;have g:=h.n3;have e:turn (p (k+1)) (p (k+2)) (p k)=0:=by rw[lV,d]
 have i:=h.hts k 2 (by omega) (by omega);rcases f with⟨a,b⟩ |⟨a,b⟩
 . by_cases c:(p k).y<(p (k+2)).y
   . exact h.F5 k (wz d a (by omega) (by omega))
   . exact h.F6 k (qF.1 (wz (by rw[iP,e];rfl) b (by omega) (by omega)))
 . by_cases c:(p k).y<(p (k+2)).y
   . exact h.F6 k (wz e b (by omega) (by omega))
   . exact h.F5 k (qF.1 (wz (by rw[iP,d];rfl) a (by omega) (by omega)))
def Sr(p:Nat->Pt)(n k:Nat):Int:=lq p n (p (k+1))+lam (p k) (p (k+1)) (p (k+2))
theorem Sv(h:Simp p n)(k:Nat):Sr p n k=Sr p n (k+1):=by
 have l:=h.n3;unfold Sr;show lq p n (p (k+1))+lam (p k) (p (k+1)) (p (k+2))=lq p n (p (k+2))+lam (p (k+1)) (p (k+2)) (p (k+3));rw[xG h (p (k+1)) k,xG h (p (k+2)) k,Js,Nu,Js,Nu];have y1:=h.hts k 1 (by omega) (by omega);have y2:=h.hts (k+1) 1 (by omega) (by omega);have y3:=h.hts (k+2) 1 (by omega) (by omega);rcases Int.lt_or_gt_of_ne y2 with b | hd
 . have s:=Ep h k b λi d c=>Gl h d c;have g:=Sl b y1 (λa=>BG h k (.inr ⟨a,b⟩));have f:=UK b (z:=p (k+3)) (λe=>y3 e.symm);grind
 . have s:=Ep h k hd λi d c j=>Gl h d c (zh.1 j);have g:=Ll hd y1 (λa=>BG h k (.inl ⟨a,hd⟩));have f:=Qk hd (z:=p (k+3)) (λe=>y3 e.symm) (λa=>BG h (k+1) (.inr ⟨hd,a⟩));grind
theorem CW{p:Nat->Pt}{n:Nat}(h:Simp p n):∀ k,Sr p n k=Sr p n 0
 | 0=>rfl
 | k+1=>by rw[<- Sv h k,CW h k]
theorem highest(p:Nat->Pt):∀ n,∃ i,i<=n/\∀ j,j<=n->(p j).y<=(p i).y
 | 0=>⟨0,Nat.le_refl _,λj a=>by rw[show j=0 by omega];exact Int.le_refl _⟩
 | n+1=>by
  obtain⟨i,c,b⟩:=highest p n;by_cases h:(p i).y<=(p (n+1)).y
  . refine⟨n+1,Nat.le_refl _,λj a=>?_⟩;grind
  . refine⟨i,by omega,λj a=>?_⟩;grind
theorem Jt(h:∀ i,p (i+n)=p i):∀ i,p i=p (i%n):=by
 intro i;have:∀ q r,p (r+n*q)=p r:=λq r=>by
  induction q with
  | zero=>rfl
  | succ q a=>rw[show r+n*(q+1)=r+n*q+n by rw[Nat.mul_succ];omega,h,a]
 grind[Nat.mod_add_div]
theorem UL(h:Simp p n):Sr p n 0=0\/Sr p n 0=-1:=by
 have l:=h.n3;obtain⟨i,o,d⟩:=highest p (n-1);have a:∀ j,(p j).y<=(p i).y:=λj=>by rw[Jt h.per j];exact d _ (by have:=Nat.mod_lt j (show 0<n by omega);omega)
 obtain⟨k,c⟩:∃ k,p (k+1)=p i:=⟨i+n-1,by rw[show i+n-1+1=i+n by omega,h.per]⟩;rw[<- CW h k];have g:lq p n (p (k+1))=0:=by
  unfold lq;have:∀ m,sg (λj=>cr (p (k+1)) (p j) (p (j+1))) 0 m=0:=λm=>by
   induction m with
   | zero=>rfl
   | succ m b =>
    rw[sg,b];have f:=a m;have e:=a (m+1);rw[<- c]at f e;have:cr (p (k+1)) (p (0+m)) (p (0+m+1))=0:=by rw[Nat.zero_add];grind[cr]
    omega
  exact this n
 grind[Sr,lam]
end
section
variable {a b p q u v:Pt}
theorem wF(c:turn u v q=0):turn u v a*(q.y-u.y)=turn u q a*(v.y-u.y):=by grind[turn]
theorem sZ(a b u v q:Pt)(c:turn u v q=0):(q.y-u.y)*turn a b v=(v.y-u.y)*turn a b q-(v.y-q.y)*turn a b u:=by
 have e:(q.y-u.y)*turn a b v=(v.y-u.y)*turn a b q-(v.y-q.y)*turn a b u-turn u v q*(b.y-a.y):=by unfold turn;grind
 grind
theorem UM(c:turn u v q=0)(h:u.y<q.y/\q.y<v.y)(d:on u q a):on u v a:=by obtain⟨g,_,f⟩:=d;have e:=wF (a:=a) c;rw[g]at e;have:turn u v a=0:=DJ (b:=q.y-u.y) (by omega) (by rw[e];simp);unfold btw at f;exact wz this (by omega) (by omega) (by omega)
theorem Sz(c:turn u v q=0)(h:v.y<q.y/\q.y<u.y)(d:on u q a):on u v a:=by
 obtain⟨g,_,f⟩:=d;have e:=wF (a:=a) c;rw[g]at e;have:turn u v a=0:=by have:=DJ (a:=turn u v a) (b:=u.y-q.y) (by omega) (by grind);exact this
 unfold btw at f;exact qF.1 (wz (by rw[iP,this];rfl) (by omega) (by omega) (by omega))
def mid(u v q:Pt):Prop:=(u.y<q.y/\q.y<v.y)\/(v.y<q.y/\q.y<u.y)
theorem CX(c:turn u v q=0)(h:mid u v q)(d:on u q a):on u v a:=by
 rcases h with h | h
 . exact UM c h d
 . exact Sz c h d
theorem mJ(h:turn a b p=0)(c:a.y≠b.y)(d:btw a.y b.y p.y):on a b p:=by
 unfold btw at d;rcases Int.lt_or_gt_of_ne c with k | k
 . exact wz h k (by omega) (by omega)
 . exact qF.1 (wz (by rw[iP,h];rfl) k (by omega) (by omega))
theorem OT(c:a.y≠b.y)(h:turn a b p=0)(d:p.y=a.y):p=a:=by
 have e:(b.y-a.y)*(p.x-a.x)=0:=by have:turn a b p=(b.x-a.x)*(p.y-a.y)-(b.y-a.y)*(p.x-a.x):=rfl;grind
 have:p.x=a.x:=by rcases Int.mul_eq_zero.1 e with e | e<;>omega
 cases p;cases a;simp_all
theorem Gm(z:turn u v q=0)(D:mid u v q)(x:turn a b q=0)(C:mid a b q):meet u v a b:=by
 have g:u.y≠v.y:=by unfold mid at D;omega
 have j:a.y≠b.y:=by unfold mid at C;omega
 have i:=sZ u v a b q x;have d:=sZ a b u v q z;rw[z,Int.mul_zero,Int.zero_sub]at i;rw[x,Int.mul_zero,Int.zero_sub]at d;have f:∀{A B s t:Int},(0<s/\0<t)\/(s<0/\t<0)->s*B=-(t*A)->A≠0->A*B<0:=λ{A B s t} n F hA=>by
  rcases n with⟨o,l⟩ |⟨o,l⟩
  . rcases Int.lt_or_gt_of_ne hA with k | k
    . have m:=pO l k;exact jT k (iH o (by rw[Int.mul_comm];omega))
    . have m:=Int.mul_pos l k;exact pO k (dQ o (by rw[Int.mul_comm];omega))
  . have E:(-s)*B=-((-t)*A):=by grind
    rcases Int.lt_or_gt_of_ne hA with k | k
    . have m:=pO (show 0 < -t by omega) k;exact jT k (iH (show 0 < -s by omega) (by rw[Int.mul_comm];omega))
    . have m:=Int.mul_pos (show 0 < -t by omega) k;exact pO k (dQ (show 0 < -s by omega) (by rw[Int.mul_comm];omega))
 by_cases h:turn u v a=0
 . -- all on one line
   have w:turn u v b=0:=by rw[h,Int.mul_zero,Int.neg_zero]at i;rcases Int.mul_eq_zero.1 i with e | e;all_goals grind[mid]
   have c:turn a b u=0:=by have:(v.y-u.y)*turn a b u=turn u v a*(u.y-b.y)-turn u v b*(u.y-a.y):=Qj u v a b;rw[h,w,Int.zero_mul,Int.zero_mul,Int.sub_zero]at this;rcases Int.mul_eq_zero.1 this with e | e;all_goals omega
   have r:turn a b v=0:=by rw[c,Int.mul_zero,Int.neg_zero]at d;rcases Int.mul_eq_zero.1 d with e | e;all_goals grind[mid]
   by_cases c1:btw u.y v.y a.y
   . exact .inl (mJ h g c1)
   by_cases c2:btw u.y v.y b.y
   . exact .inr (.inl (mJ w g c2))
   . refine .inr (.inr (.inl (mJ c j ?_)));grind[btw,mid]
 . by_cases c:turn a b u=0
   . exfalso;have r:turn a b v=0:=by rw[c,Int.mul_zero,Int.neg_zero]at d;rcases Int.mul_eq_zero.1 d with e | e;all_goals grind[mid]
     have:turn u v a*(b.y-a.y)=turn a b u*(a.y-v.y)-turn a b v*(a.y-u.y):=zX a b u v;rw[c,r,Int.zero_mul,Int.zero_mul,Int.sub_zero]at this;rcases Int.mul_eq_zero.1 this with e | e;all_goals omega
   . refine .inr (.inr (.inr (.inr ⟨f ?_ i h,f ?_ d c⟩)));all_goals grind[mid]
theorem Ql(d:turn u v q=0)(c:mid u v q)(f:a.y≠b.y)(h:meet u q a b):meet u v a b:=by
 rcases h with h | h | h | h |⟨s,i⟩
 . exact .inl (CX d c h)
 . exact .inr (.inl (CX d c h))
 . exact .inr (.inr (.inl h))
 . -- q is on the other edge
   by_cases l:q.y=a.y
   . have:=OT f h.1 l;subst this;exact .inl (mJ d (by unfold mid at c;omega) (by unfold mid at c;unfold btw;omega))
   by_cases j:q.y=b.y
   . have:=OT (a:=b) (b:=a) (λe=>f e.symm) (by rw[iP,h.1];rfl) j;subst this;exact .inr (.inl (mJ d (by unfold mid at c;omega) (by unfold mid at c;unfold btw;omega)))
   . refine Gm d c h.1 ?_;have:=h.2.2;grind[btw,mid]
 . have x:=wF (a:=a) d;have w:=wF (a:=b) d;have t:=sZ a b u v q d;refine .inr (.inr (.inr (.inr ⟨?_,?_⟩)))
   . have k:(turn u v a*turn u v b)*((q.y-u.y)*(q.y-u.y))=(turn u q a*turn u q b)*((v.y-u.y)*(v.y-u.y)):=by grind
     have g:0<(q.y-u.y)*(q.y-u.y):=by
      rcases c with h | h
      . exact Int.mul_pos (by omega) (by omega)
      . exact Int.mul_pos_of_neg_of_neg (by omega) (by omega)
     have m:0<(v.y-u.y)*(v.y-u.y):=by
      rcases c with h | h
      . exact Int.mul_pos (by omega) (by omega)
      . exact Int.mul_pos_of_neg_of_neg (by omega) (by omega)
     exact dQ g (by rw[k];exact jT s m)
   . -- (q-u)*(U*V)=(v-u)*(U*Q)-(v-q)*U*U
     have k:(turn a b u*turn a b v)*(q.y-u.y)=(v.y-u.y)*(turn a b u*turn a b q)-(v.y-q.y)*(turn a b u*turn a b u):=by grind
     have r:turn a b u≠0:=λe=>by rw[e]at i;simp at i
     have g:0<turn a b u*turn a b u:=by
      rcases Int.lt_or_gt_of_ne r with h | h
      . exact Int.mul_pos_of_neg_of_neg h h
      . exact Int.mul_pos h h
     rcases c with h | h
     . have o:=pO (show 0<v.y-u.y by omega) i;have n:=Int.mul_pos (show 0<v.y-q.y by omega) g;exact dQ (show 0<q.y-u.y by omega) (by omega)
     . have o:=Int.mul_pos_of_neg_of_neg (show v.y-u.y<0 by omega) i;have n:=jT (show v.y-q.y<0 by omega) g;refine dQ (show 0<u.y-q.y by omega) ?_;grind
end
section
variable {p:Nat->Pt}{n:Nat}{q t u v:Pt}
theorem Gn(h:Simp p n)(k:Nat)(g:turn (p k) (p (k+1)) q=0)(i:mid (p k) (p (k+1)) q):¬ meet (p k) q (p (k+1)) (p (k+2)):=by
 have j:=h.n3;have y1:=h.hts k 1 (by omega) (by omega);have y2:=h.hts (k+1) 1 (by omega) (by omega);have y3:=h.hts k 2 (by omega) (by omega);simp only[show k+1+1=k+2 by omega]at y2;have d:=h.F5 k;have a:=h.F6 k;generalize p k=u at *;generalize p (k+1)=v at *;generalize p (k+2)=z at *;rintro (c | c | c | c |⟨c,_⟩)
 . obtain⟨_,_,c⟩:=c;grind[mid,btw]
 . exact d (CX g i c)
 . exact a c
 . -- q on the next edge
   have e:=sZ u v v z q c.1;rw[Lh,Int.mul_zero,Int.sub_zero,g,Int.mul_zero]at e;have f:turn u v z=0:=by rcases Int.mul_eq_zero.1 e with e | e;all_goals grind[mid]
   have c2:=c.2.2;by_cases b:btw u.y v.y z.y
   . exact d (mJ f y1 b)
   . refine a (mJ (by rw[lV,f]) y2 ?_);grind[btw,mid]
 grind[Gi]
theorem SA{x z b:Pt}(h:turn x z v=0):hit x z v=0:=by grind[hit]
theorem SB(d:turn u v q=0)(f:mid u v q):lam t u q=lam t u v:=by
 have e:=wF (a:=t) d;have i:turn t u q=turn u q t:=by rw[<- lV t u q]
 have g:turn t u v=turn u v t:=by rw[<- lV t u v]
 unfold lam;rw[i,g];have c:turn u q t<0↔turn u v t<0:=by
  rcases f with h | h
  . constructor
    . intro k;exact dQ (show 0<q.y-u.y by omega) (by rw[e];exact jT k (by omega))
    . intro k;exact dQ (show 0<v.y-u.y by omega) (by rw[<- e];exact jT k (by omega))
  . have b:turn u v t*(u.y-q.y)=turn u q t*(u.y-v.y):=by grind
    constructor
    . intro k;exact dQ (show 0<u.y-q.y by omega) (by rw[b];exact jT k (by omega))
    . intro k;exact dQ (show 0<u.y-v.y by omega) (by rw[<- b];exact jT k (by omega))
 grind[mid]
theorem Qm(b:turn u v q=0)(f:mid u v q)(h:turn t u v≠0):turn t u q≠0:=by
 intro k;have e:=wF (a:=t) b;have d:turn t u q=turn u q t:=by rw[<- lV t u q]
 have c:turn t u v=turn u v t:=by rw[<- lV t u v]
 rw[<- d,<- c,k,Int.zero_mul]at e;rcases Int.mul_eq_zero.1 e with e | e;all_goals grind[mid]
theorem Qn(h:Simp p n)(k:Nat)(c:turn (p (k+1)) (p (k+2)) q=0)(d:mid (p (k+1)) (p (k+2)) q) :
    lq p n q=Sr p n 0+if(p (k+1)).y<(p (k+2)).y then 0 else 1:=by
  have B:=h.n3;rw[<- CW h k];unfold Sr;rw[xG h (p (k+1)) k,xG h q k,Js,Nu];have y1:=h.hts k 1 (by omega) (by omega);have y2:=h.hts (k+1) 1 (by omega) (by omega);have y3:=h.hts (k+2) 1 (by omega) (by omega);have w:∀ x z,turn x z (p (k+2))=0->hit x z (p (k+2))=0:=λx z e=>SA (b:=x) e;have C:cr q (p (k+1)) (p (k+2))=0:=by grind[cr]
  have A:=SB (t:=p k) c d;have l:((p k).y<(p (k+1)).y/\(p (k+2)).y<(p (k+1)).y)\/((p (k+1)).y<(p k).y/\(p (k+1)).y<(p (k+2)).y)->turn (p k) (p (k+1)) q≠0:=λa=>Qm c d (BG h k a);have o:∀ i,k+3<=i->i<k+n->¬ meet (p (k+1)) q (p i) (p (i+1)):=λi j g a=>Gl h j g (Ql c d (h.hts i 1 (by omega) (by omega)) a);have m:=Gn h (k+1) (q:=q) c d;simp only[show k+1+1=k+2 by omega,show k+1+2=k+3 by omega]at *;rcases d with f | hd
  . rw[if_pos (show(p (k+1)).y<(p (k+2)).y by omega)];have s:=Ep h k f.1 o;have s2:=BF f.1 y3 m;have r:=Sl f.1 y1 (λa=>l (.inr ⟨a,by omega⟩));grind[Gi]
  . rw[if_neg (show ¬(p (k+1)).y<(p (k+2)).y by omega)];have s:=Ep h k hd.2 λi j g a=>o i j g (zh.1 a);have s2:=BF hd.2 y3 λa=>m (zh.1 a);have r:=Ll hd.2 y1 (λa=>l (.inl ⟨a,by omega⟩));have z:=w q (p (k+1)) (by rw[<- lV q,c]);omega
end
end Go.Skm.Fen
