import Derived.Test.YtoheflpoanjihaaGreatG8
import Derived.Test.YtoheflpoanjihaaGreatEqv1
set_option linter.all false
namespace Go.Skm.Fen
section
open Go Go.Skm
variable {v:V3}{l:List V3}
abbrev ku:=V3 × V3
def sJ(l:List V3)(n:Nat):List ku:=(List.range n).map λi=>(flat (ca l i),flat (cb l i))
abbrev dA(l:List V3):List ku:=sJ l l.length
def eY(e:ku):PV:=.agg [encV e.1,encV e.2]
theorem rJ(l:List V3)(n:Nat):sJ l (n+1)=sJ l n++[(flat (ca l n),flat (cb l n))]:=by simp[sJ,List.range_succ,List.map_append]
theorem iI(l:List V3)(n:Nat):(sJ l n).length=n:=by simp[sJ]
def GY(e:ku):Int:=e.1.x*e.2.y-e.1.y*e.2.x
def wF:List ku->Int
 |[]=>0
 | e::r=>GY e+wF r
theorem Jd(a b:List ku):wF (a++b)=wF a+wF b:=by
 induction a with
 | nil=>simp[wF]
 | cons e r c=>simp only[List.cons_append,wF,c];omega
abbrev je(v:V3):Prop:=Bd 1048576 v
theorem je.up(h:je v):mg v:=h.mono (by decide)
theorem Hf(h:l.all (inM 1048576)=true)(i:Nat):je (gt l i):=by
 by_cases a:i<l.length
 . simp_all[rO,qLb]
 . have e:gt l i=default:=by grind
   rw[e];refine⟨⟨?_,?_⟩,⟨?_,?_⟩,⟨?_,?_⟩⟩<;>decide
theorem Pv(h:je v):je (flat v):=⟨h.1,h.2.1,⟨by show(-1048576:Int)<=0;decide,by show(0:Int)<=1048576;decide⟩⟩
def OkE(es:List ku):Prop:=∀ e∈es,je e.1/\je e.2
theorem xB(h:l.all (inM 1048576)=true)(n:Nat):OkE (sJ l n):=by intro e a;simp only[sJ,List.mem_map]at a;obtain⟨i,_,rfl⟩:=a;exact⟨Pv (Hf h _),Pv (Hf h _)⟩
theorem FC{e:ku}(h:je e.1/\je e.2):(-1099511627776<=e.1.x*e.2.y/\e.1.x*e.2.y<=1099511627776)/\(-1099511627776<=e.1.y*e.2.x/\e.1.y*e.2.x<=1099511627776):=by obtain⟨⟨c,b,_⟩,⟨b1,a,_⟩⟩:=h;exact⟨mulB (m:=1048576) (n:=1048576) c a,mulB (m:=1048576) (n:=1048576) b b1⟩
section
variable (X:Ext) (hX:Mine X)
include hX
theorem c51(l:List V3):run tab X 51 [.p (.list true kV3 (encL l))] []=some ([.p (.fn 100 [.ref [.list true kV3 (encL l)]])],[]):=run_of (hX _ rfl) (e51 _ _)
theorem aaL(l:List V3)(f:l.length<=1000000):∀ k i,i+k=l.length ->
    L tab (run tab X) 100 [.log true []] [.lp [1,0]] (Cj (encL l) (encL l) ((l.length:Nat):Int) (i:Int) ((sJ l i).map eY))=some ([],[.log true ((dA l).map eY)]):=by
  have _:=hX;intro k;induction k with
  | zero =>
   intro i e;have:i=l.length:=by omega
   subst this;refine L_of ?_;rw[Lh,yL (by omega),qCf]
  | succ k c =>
   intro i e;have a:i<l.length:=by omega
   have d:=J8 (n:=l.length) (i:=i) (by omega);refine L_of ?_;rw[Lh,sG a,qCt];simp only[encL_length,le0,sG a,sG d,nz (show 0<l.length by omega),fH (show i<=9000000000000000000 by omega),Jb,Bool.and_true,qCt,qIt,encL_x,encL_y];have b:=c (i+1) (by omega);rw[rJ,List.map_append]at b;refine fork_of rfl ?_;exact b
theorem NI(l:List V3)(a:l.length<=1000000):run tab X 100 [.yld,.p (.ref [.list true kV3 (encL l)])] [.log true []]=some ([],[.log true ((dA l).map eY)]):=
 run_of (hX _ rfl) (by rw[e100,encL_length];exact aaL X hX l a l.length 0 (by omega))
theorem l47(l:List PV):∀(a:List ku) (s:Int),OkE a→-(4398046511104*(1000000-a.length))<=s/\s<=4398046511104*(1000000-a.length)->a.length<=1000000 ->
    L tab (run tab X) 47 [] [.rg [1,1,0,1,0] [(true,kV3),(true,kV3)] (a.map eY)] (qP l s)=some ([.p (.int .i64 (s+wF a))],[]):=by
  have _:=hX;intro a;induction a with
  | nil=>simp[List.map_nil,EP,wF,Int.add_zero]
  | cons e r d =>intro s b f g;simp only[qLl]at f g;have j:=FC (b e (by simp));rw[List.map_cons];show L tab (run tab X) 47 [] [.rg [1,1,0,1,0] [(true,kV3),(true,kV3)] (.agg [.agg [.int .i64 e.1.x,.int .i64 e.1.y,.int .i64 e.1.z],.agg [.int .i64 e.2.x,.int .i64 e.2.y,.int .i64 e.2.z]]::r.map eY)] (qP l s)=_;rw[Dj,wrap_eq (x:=e.1.x*e.2.y) (by omega) (by omega),wrap_eq (x:=e.1.y*e.2.x) (by omega) (by omega),wrap_eq (x:=e.1.x*e.2.y-e.1.y*e.2.x) (by omega) (by omega),wrap_eq (x:=s+_) (by omega) (by omega)];have h:=d (s+GY e) (λi c=>b i (by simp[c])) (by unfold GY;omega) (by omega);rw[wF,<- Int.add_assoc];exact h
def jU(l:List V3):Int:=wF (dA l)
theorem c47(l:List V3)(c:l.length<=1000)(a:l.all (inM 1048576)=true):run tab X 47 [.p (.list true kV3 (encL l))] []=some ([.p (.int .i64 (jU l))],[]):=
 run_of (hX _ rfl) (by rw[e47,c51 X hX l,qOb];show(run tab X 100 [.yld,.p (.ref [.list true kV3 (encL l)])] [.log true []]).bind _=_;rw[NI X hX l (by omega),qOb];have b:=l47 X hX (encL l) (dA l) 0 (xB a _) (by rw[iI];omega) (by rw[iI];omega);rw[Int.zero_add]at b;exact b)
theorem c48(n:Int):run tab X 48 [.p (.int .i64 n)] []=some ([.p (.int .i64 (iE n))],[]):=
 run_of (hX _ rfl) (by rw[e48];simp only[condD,iE];grind)
end
def Oq(h:List V3):Nat->Nat->Int->Int
 | 0,_,s=>s
 | k+1,i,s=>Oq h k (i+1) (s+area (gt h 0) (gt h i) (gt h (i+1)))
theorem Je{a b:V3}(d:je a)(c:je b):(-2097152<=(wL a b).x/\(wL a b).x<=2097152)/\(-2097152<=(wL a b).y/\(wL a b).y<=2097152):=by obtain⟨g,f,_⟩:=d;obtain⟨b1,e,_⟩:=c;grind[wL]
section
variable (X:Ext) (hX:Mine X)
include hX
theorem c54(h:List V3)(C:h.length<=1000)(a:h.all (inM 1048576)=true):run tab X 54 [.p (.list true kV3 (encL h))] []=some ([.p (.int .i64 (Oq h (h.length-2) 1 0))],[]):=by
 refine run_of (hX _ rfl) ?_;rw[e54];have g:=Hf a;have u:∀ k i:Nat,(i+k+1=h.length\/(k=0/\h.length<=i+1))->1<=i->i<=10000->∀ s:Int,-(i*70368744177664)<=s->s<=i*70368744177664->L tab (run tab X) 54 [] [.lp [1,1,0,1,0]] (wY (encL h) s (i:Int))=some ([.p (.int .i64 (Oq h k i s))],[]):=by
  intro k;induction k with
  | zero =>intro i z f e s d c;refine L_of ?_;rw[Fa,encL_length,fH (by omega),yL (by omega),qCf];rfl
  | succ k w =>
   intro i z f e s d c;refine L_of ?_;have b0:=g 0;have b1:=g i;have t:=g (i+1);have q:=c105 X hX (gt h i) (gt h 0) (b1.mono (by decide)) (b0.mono (by decide));have o:=c105 X hX (gt h (i+1)) (gt h 0) (t.mono (by decide)) (b0.mono (by decide));have n:=Wj X hX (wL (gt h i) (gt h 0)) (wL (gt h (i+1)) (gt h 0));simp only[encV]at q o n;have b:ltI (0:Int) ((h.length:Nat):Int)=true:=decide_eq_true (by omega);rw[Fa,encL_length,fH (by omega),sG (show i+1<h.length by omega),qCt];simp only[le0,sG (show i<h.length by omega),b,Bool.and_true,qCt,qIt,encL_x,encL_y,encL_z,q,o,qOb,qLh,pv_p,cell_agg,qLz,List.getD_cons_succ,toInt_int];simp only[n,qOb,qLh,pv_p,cell_agg,qLz,List.getD_cons_succ,toInt_int];have j:=Je b1 b0;have s2:=Je t b0;have B:=mulB j.1 s2.2;have A:=mulB j.2 s2.1;have r:Az (wL (gt h i) (gt h 0)).x (wL (gt h (i+1)) (gt h 0)).y (wL (gt h i) (gt h 0)).y (wL (gt h (i+1)) (gt h 0)).x=area (gt h 0) (gt h i) (gt h (i+1)):=by rw[AA (m:=4398046511104) (by omega) (by omega) (by omega)];rfl
   have D:-8796093022208<=area (gt h 0) (gt h i) (gt h (i+1))/\area (gt h 0) (gt h i) (gt h (i+1))<=8796093022208:=by rw[<- r,AA (m:=4398046511104) (by omega) (by omega) (by omega)];omega
   rw[r,wrap_eq (by omega) (by omega)];exact w (i+1) (by omega) (by omega) (by omega) _ (by omega) (by omega)
 grind
end
def qE(a b:V3):Int:=a.x*b.y-a.y*b.x
theorem Kq(a b c:V3):area a b c=qE a b+qE b c+qE c a:=by unfold area qE;grind
theorem Bz(a b:V3):qE b a=- qE a b:=by unfold qE;grind
theorem Jf(h:List V3):∀ k,k+1<=h.length-1->wF (sJ h (k+1))=Oq h k 1 0+qE (gt h 0) (gt h (k+1))
 | 0,hk=>by have e:jX h.length 0=1:=Nat.mod_eq_of_lt (by omega);show wF [(flat (ca h 0),flat (cb h 0))]=_;simp only[wF,Oq];show qE (gt h 0) (gt h (jX h.length 0))+0=0+qE (gt h 0) (gt h 1);rw[e];omega
 | k+1,hk=>by
  have e:jX h.length (k+1)=k+2:=Nat.mod_eq_of_lt (by omega);have b:∀ k i s,Oq h (k+1) i s=Oq h k i s+area (gt h 0) (gt h (i+k)) (gt h (i+k+1)):=by
   intro k;induction k with
   | zero=>intro i s;simp[Oq]
   | succ k a =>intro i s;rw[Oq,a,Oq];grind
  rw[rJ,Jd,Jf h k (by omega),b,Kq];show _+(qE (gt h (k+1)) (gt h (jX h.length (k+1)))+0)=_;rw[e,show 1+k=k+1 by omega,show k+1+1=k+2 by omega];have:=Bz (gt h (k+2)) (gt h 0);omega
theorem Kr(h:List V3)(c:3<=h.length):jU h=Oq h (h.length-2) 1 0:=by
 obtain⟨n,a⟩:∃ n,h.length=n+3:=⟨h.length-3,by omega⟩;have e:jX h.length (n+2)=0:=by unfold jX;rw[a,Nat.mod_self]
 unfold jU;rw[dA,a,rJ,Jd,show n+3-2=n+1 by omega];have b:=Jf h (n+1) (by omega);rw[b];show _+(qE (gt h (n+2)) (gt h (jX h.length (n+2)))+0)=_;rw[e];have:=Bz (gt h 0) (gt h (n+2));grind
end
section
variable {a b:Int}
structure Pt where
 x:Int
 y:Int
 deriving DecidableEq,Inhabited
def turn(a b c:Pt):Int:=(b.x-a.x)*(c.y-a.y)-(b.y-a.y)*(c.x-a.x)
def cr(p a b:Pt):Int:=if a.y<=p.y/\p.y<b.y/\0<turn a b p then 1 else if b.y<=p.y/\p.y<a.y/\turn a b p<0 then -1 else 0
def btw(a b c:Int):Prop:=(a<=c/\c<=b)\/(b<=c/\c<=a)
def on(a b p:Pt):Prop:=turn a b p=0/\btw a.x b.x p.x/\btw a.y b.y p.y
def meet(a b c d:Pt):Prop:=on a b c\/on a b d\/on c d a\/on c d b\/(turn a b c*turn a b d<0/\turn c d a*turn c d b<0)
theorem kZ(a b c:Pt):turn b c a=turn a b c:=by unfold turn;grind
theorem gX(a b c:Pt):turn b a c=- turn a b c:=by unfold turn;grind
theorem Ey(a b c:Pt):turn a c b=- turn a b c:=by unfold turn;grind
theorem Ez(a b:Pt):turn a b a=0:=by unfold turn;grind
theorem Jm(a b:Pt):turn a b b=0:=by unfold turn;grind
theorem MF(p a b:Pt):cr p b a=- cr p a b:=by have e:=gX a b p;unfold cr;split<;>split<;>(try split)<;>omega
theorem FZ(a b x z:Pt):turn x z b*(b.y-a.y)=turn a b x*(b.y-z.y)-turn a b z*(b.y-x.y):=by unfold turn;grind
theorem yG(a b x z:Pt):turn x z a*(b.y-a.y)=turn a b x*(a.y-z.y)-turn a b z*(a.y-x.y):=by unfold turn;grind
theorem NY(a b p q:Pt):(b.y-a.y)*turn p q a=turn a b p*(a.y-q.y)-turn a b q*(a.y-p.y):=by unfold turn;grind
theorem gZ(d:0<b)(h:0<a*b):0<a:=by
 rcases Int.lt_trichotomy a 0 with c | c | c
 . have:=Int.mul_neg_of_neg_of_pos c d;omega
 . subst c;simp at h
 . exact c
theorem dI(d:0<b)(h:a*b<0):a<0:=by
 rcases Int.lt_trichotomy a 0 with c | c | c
 . exact c
 . subst c;simp at h
 . have:=Int.mul_pos c d;omega
theorem BD(c:0<b)(h:a*b=0):a=0:=by
 rcases Int.mul_eq_zero.1 h with h | h
 . exact h
 . omega
theorem oz(d:0<a)(c:b<0):a*b<0:=Int.mul_neg_of_pos_of_neg d c
theorem jC(d:a<0)(c:0<b):a*b<0:=Int.mul_neg_of_neg_of_pos d c
theorem uz{a b p:Pt}(h:turn a b p=0)(k:a.y<b.y)(m:a.y<=p.y)(l:p.y<=b.y):on a b p:=by
 refine⟨h,?_,.inl ⟨m,l⟩⟩;have e:(b.x-a.x)*(p.y-a.y)=(p.x-a.x)*(b.y-a.y):=by
  have:turn a b p=(b.x-a.x)*(p.y-a.y)-(p.x-a.x)*(b.y-a.y):=by unfold turn;grind
  omega
 have n:(b.x-a.x)*(b.y-p.y)=(b.x-p.x)*(b.y-a.y):=by grind
 have hd:0<b.y-a.y:=by omega
 have g:0<=p.y-a.y:=by omega
 have f:0<=b.y-p.y:=by omega
 by_cases o:a.x<=b.x
 . left;have d:0<=(p.x-a.x)*(b.y-a.y):=by rw[<- e];exact Int.mul_nonneg (by omega) g
   have c:0<=(b.x-p.x)*(b.y-a.y):=by rw[<- n];exact Int.mul_nonneg (by omega) f
   have j:0<=p.x-a.x:=Int.nonneg_of_mul_nonneg_left d hd;have i:0<=b.x-p.x:=Int.nonneg_of_mul_nonneg_left c hd;omega
 . right;have d:0<=(a.x-p.x)*(b.y-a.y):=by
    have:(a.x-p.x)*(b.y-a.y)=(a.x-b.x)*(p.y-a.y):=by grind
    rw[this];exact Int.mul_nonneg (by omega) g
   have c:0<=(p.x-b.x)*(b.y-a.y):=by
    have:(p.x-b.x)*(b.y-a.y)=(a.x-b.x)*(b.y-p.y):=by grind
    rw[this];exact Int.mul_nonneg (by omega) f
   have j:0<=a.x-p.x:=Int.nonneg_of_mul_nonneg_left d hd;have i:0<=p.x-b.x:=Int.nonneg_of_mul_nonneg_left c hd;omega
theorem Jo{c:Int}:btw a b c↔btw b a c:=by unfold btw;omega
theorem qN{a b p:Pt}:on a b p↔on b a p:=by
 unfold on;rw[gX a b p,Jo (a:=a.x),Jo (a:=a.y)];have:-turn a b p=0↔turn a b p=0:=by omega
 rw[this]
theorem meet_comm{a b c d:Pt}:meet a b c d↔meet a b d c:=by
 unfold meet;rw[qN (a:=c) (b:=d),qN (a:=c) (b:=d) (p:=b),gX c d a,gX c d b];have f:turn a b c*turn a b d=turn a b d*turn a b c:=Int.mul_comm _ _;have e:-turn c d a*-turn c d b=turn c d a*turn c d b:=by grind
 rw[f,e];constructor<;>(rintro (h | h | h | h | h)<;>simp[h])
def hit(x z v:Pt):Int:=if x.y<v.y/\v.y<=z.y/\turn x z v<0 then 1 else 0
theorem MG{x z a b:Pt}(r:x.y<z.y)(u:a.y<b.y)(s:¬ meet x z a b):cr x a b-cr z a b=hit x z b-hit x z a:=by
 have K:¬ on a b x:=λh=>s (.inr (.inr (.inl h)));have nz:¬ on a b z:=λh=>s (.inr (.inr (.inr (.inl h))));have M:¬ on x z a:=λh=>s (.inl h);have L:¬ on x z b:=λh=>s (.inr (.inl h));have m:¬(turn x z a*turn x z b<0/\turn a b x*turn a b z<0):=λh=>s (.inr (.inr (.inr (.inr h))));have B:=FZ a b x z;have A:=yG a b x z;have hd:0<b.y-a.y:=by omega
 have g:0<z.y-x.y:=by omega
 have w:=FZ x z a b;have v:=yG x z a b;have E:a.y<=x.y->x.y<=b.y->turn a b x≠0:=λf e h=>K (uz h u f e);have o:a.y<=z.y->z.y<=b.y->turn a b z≠0:=λf e h=>nz (uz h u f e);have F:x.y<=a.y->a.y<=z.y->turn x z a≠0:=λf e h=>M (uz h r f e);have t:x.y<=b.y->b.y<=z.y->turn x z b≠0:=λf e h=>L (uz h r f e);unfold cr hit;generalize turn a b x=Tx at *;generalize turn a b z=Tz at *;generalize turn x z a=Ua at *;generalize turn x z b=Ub at *;have c1:0<Tx->Tz<0->Ua<0->0<Ub->False:=λf e G h4=>m ⟨jC G h4,oz f e⟩;have c2:Tx<0->0<Tz->0<Ua->Ub<0->False:=λf e G h4=>m ⟨oz G h4,jC f e⟩;have O:∀{p q:Prop},((p->q)/\(q->p))->(p↔q):=λh=>⟨h.1,h.2⟩;by_cases N:a.y<=x.y
 . by_cases P:b.y<=x.y
   . -- both low
     repeat' split
     all_goals omega
   . have l:=E N (by omega);by_cases C:b.y<=z.y
     . -- low,between
       have J:=t (by omega) C;have j:0<Tx->0<Ub->False:=λh k=>by
        have n:Tz<0:=by
         by_cases q:Tz<0
         . exact q
         . have D:=Int.mul_pos k hd;have d:Tx*(b.y-z.y)<=0:=Int.mul_nonpos_of_nonneg_of_nonpos (by omega) (by omega);have c:0<=Tz*(b.y-x.y):=Int.mul_nonneg (by omega) (by omega);omega
        refine c1 h n (dI hd ?_) k;have d:Tx*(a.y-z.y)<0:=oz h (by omega);have c:0<=Tz*(a.y-x.y):=Int.mul_nonneg_of_nonpos_of_nonpos (by omega) (by omega);omega
       have i:Tx<0->Ub<0->False:=λh k=>by
        have n:0<Tz:=by
         by_cases q:0<Tz
         . exact q
         . have D:=jC k hd;have d:0<=Tx*(b.y-z.y):=Int.mul_nonneg_of_nonpos_of_nonpos (by omega) (by omega);have c:Tz*(b.y-x.y)<=0:=Int.mul_nonpos_of_nonpos_of_nonneg (by omega) (by omega);omega
        refine c2 h n (gZ hd ?_) k;have d:0<Tx*(a.y-z.y):=Int.mul_pos_of_neg_of_neg h (by omega);have c:Tz*(a.y-x.y)<=0:=Int.mul_nonpos_of_nonneg_of_nonpos (by omega) (by omega);omega
       clear B A w v m;by_cases h:0<Tx<;>by_cases k:Ub<0
       . repeat' split
         all_goals omega
       . exact(j h (by omega)).elim
       . exact(i (by omega) k).elim
       . repeat' split
         all_goals omega
     . -- low,high
       have n:=o (by omega) (by omega);have j:0<Tx->Tz<0->False:=λh k=>by
        refine c1 h k (dI hd ?_) (gZ hd ?_)
        . have d:Tx*(a.y-z.y)<0:=oz h (by omega);have c:0<=Tz*(a.y-x.y):=Int.mul_nonneg_of_nonpos_of_nonpos (by omega) (by omega);omega
        . have d:0<Tx*(b.y-z.y):=Int.mul_pos h (by omega);have c:Tz*(b.y-x.y)<0:=jC k (by omega);omega
       have i:Tx<0->0<Tz->False:=λh k=>by
        refine c2 h k (gZ hd ?_) (dI hd ?_)
        . have d:0<Tx*(a.y-z.y):=Int.mul_pos_of_neg_of_neg h (by omega);have c:Tz*(a.y-x.y)<=0:=Int.mul_nonpos_of_nonneg_of_nonpos (by omega) (by omega);omega
        . have d:Tx*(b.y-z.y)<0:=jC h (by omega);have c:0<Tz*(b.y-x.y):=Int.mul_pos k (by omega);omega
       clear B A w v m;by_cases h:0<Tx<;>by_cases k:0<Tz
       . repeat' split
         all_goals omega
       . exact(j h (by omega)).elim
       . exact(i (by omega) k).elim
       . repeat' split
         all_goals omega
 . have H:a.y<=z.y->Ua≠0:=λh=>F (by omega) h;by_cases I:a.y<=z.y
   . have H:=H I;by_cases C:b.y<=z.y
     . -- both between
       have J:=t (by omega) C;have j:Ua<0->0<Ub->False:=λh k=>by
        refine c1 (gZ g ?_) (dI g ?_) h k
        . have d:0<Ua*(x.y-b.y):=Int.mul_pos_of_neg_of_neg h (by omega);have c:Ub*(x.y-a.y)<0:=oz k (by omega);omega
        . have d:Ua*(z.y-b.y)<=0:=Int.mul_nonpos_of_nonpos_of_nonneg (by omega) (by omega);have c:0<Ub*(z.y-a.y):=Int.mul_pos k (by omega);omega
       have i:0<Ua->Ub<0->False:=λh k=>by
        refine c2 (dI g ?_) (gZ g ?_) h k
        . have d:Ua*(x.y-b.y)<0:=oz h (by omega);have c:0<Ub*(x.y-a.y):=Int.mul_pos_of_neg_of_neg k (by omega);omega
        . have d:0<=Ua*(z.y-b.y):=Int.mul_nonneg (by omega) (by omega);have c:Ub*(z.y-a.y)<0:=jC k (by omega);omega
       clear B A w v m;by_cases h:Ua<0<;>by_cases k:Ub<0
       . repeat' split
         all_goals omega
       . exact(j h (by omega)).elim
       . exact(i (by omega) k).elim
       . repeat' split
         all_goals omega
     . -- between,high
       have n:=o I (by omega);have j:0<Tz->0<Ua->False:=λh k=>by
        have l:Tx<0:=by
         by_cases q:Tx<0
         . exact q
         . have D:=Int.mul_pos k hd;have d:Tx*(a.y-z.y)<=0:=Int.mul_nonpos_of_nonneg_of_nonpos (by omega) (by omega);have c:0<Tz*(a.y-x.y):=Int.mul_pos h (by omega);omega
        refine c2 l h k (dI hd ?_);have d:Tx*(b.y-z.y)<0:=jC l (by omega);have c:0<Tz*(b.y-x.y):=Int.mul_pos h (by omega);omega
       have i:Tz<0->Ua<0->False:=λh k=>by
        have l:0<Tx:=by
         by_cases q:0<Tx
         . exact q
         . have D:=jC k hd;have d:0<=Tx*(a.y-z.y):=Int.mul_nonneg_of_nonpos_of_nonpos (by omega) (by omega);have c:Tz*(a.y-x.y)<0:=jC h (by omega);omega
        refine c1 l h k (gZ hd ?_);have d:0<Tx*(b.y-z.y):=Int.mul_pos l (by omega);have c:Tz*(b.y-x.y)<0:=jC h (by omega);omega
       clear B A w v m;by_cases h:0<Tz<;>by_cases k:Ua<0
       . repeat' split
         all_goals omega
       . exact(j h (by omega)).elim
       . exact(i (by omega) k).elim
       . repeat' split
         all_goals omega
   . -- both high
     repeat' split
     all_goals omega
theorem zM{x z a b:Pt}(c:x.y<z.y)(d:a.y≠b.y)(e:¬ meet x z a b):cr x a b-cr z a b=hit x z b-hit x z a:=by
 rcases Int.lt_or_gt_of_ne d with h | h
 . exact MG c h e
 . have:=MG c h λh=>e (meet_comm.1 h);rw[MF x a b,MF z a b]at this;omega
end
section
variable {n:Nat}{t u v z:Pt}{p:Nat->Pt}
def sg(f:Nat->Int)(k:Nat):Nat->Int
 | 0=>0
 | n+1=>sg f k n+f (k+n)
theorem zN(f:Nat->Int)(k:Nat):∀ n,sg f k (n+1)=f k+sg f (k+1) n
 | 0=>by simp[sg]
 | n+1=>by rw[sg,zN f k n,sg,show k+1+n=k+(n+1) by omega];omega
theorem PK(f:Nat->Int)(hp:∀ i,f (i+n)=f i)(k:Nat):sg f (k+1) n=sg f k n:=by have b:=zN f k n;have a:sg f k (n+1)=sg f k n+f (k+n):=rfl;rw[hp k]at a;omega
theorem PL(f:Nat->Int){n:Nat}(hp:∀ i,f (i+n)=f i):∀ k,sg f k n=sg f 0 n
 | 0=>rfl
 | k+1=>by rw[PK f hp k,PL f hp k]
theorem Ht(h:Nat->Int)(k:Nat):∀ n,sg (λi=>h (i+1)-h i) k n=h (k+n)-h k
 | 0=>by simp[sg]
 | n+1=>by rw[sg,Ht h k n];show h (k+n)-h k+(h (k+n+1)-h (k+n))=_;rw[show k+(n+1)=k+n+1 by omega];omega
theorem uD{f g:Nat->Int}{k:Nat}:∀{n},(∀ i,k<=i->i<k+n->f i=g i)->sg f k n=sg g k n
 | 0,_=>rfl
 | n+1,h=>by rw[sg,sg,uD λi a b=>h i a (by omega),h (k+n) (by omega) (by omega)]
theorem KE(f g:Nat->Int)(k:Nat):∀ n,sg (λi=>f i-g i) k n=sg f k n-sg g k n
 | 0=>by simp[sg]
 | n+1=>by rw[sg,sg,sg,KE f g k n];omega
def jZ(p:Nat->Pt)(n:Nat)(x:Pt):Int:=sg (λi=>cr x (p i) (p (i+1))) 0 n
structure Simp (p:Nat->Pt) (n:Nat):Prop where
 n3:3<=n
 per:∀ i,p (i+n)=p i
 far:∀ i m,2<=m->m+1<n->¬ meet (p i) (p (i+1)) (p (i+m)) (p (i+m+1))
 Ep:∀ i,¬ on (p i) (p (i+1)) (p (i+2))
 Es:∀ i,¬ on (p (i+1)) (p (i+2)) (p i)
 hts:∀ i m,0<m->m<n->(p i).y≠(p (i+m)).y
def lam(t u v:Pt):Int:=if t.y<u.y/\u.y<v.y then 0 else if u.y<t.y/\v.y<u.y then -1 else if turn t u v<0 then -1 else 0
theorem PN(h:u.y<v.y)(b:t.y≠u.y)(c:u.y<t.y->turn t u v≠0):cr v t u-hit u v t=lam t u v:=by
 have a:turn u v t=turn t u v:=by rw[<- kZ t u v]
 unfold cr hit lam;rw[a];generalize turn t u v=T at *
 repeat' split
 all_goals omega
theorem Rx(h:u.y<v.y)(_:z.y≠v.y):cr u v z-hit u v z=lam u v z:=by
 have a:turn v z u=turn u v z:=kZ u v z;unfold cr hit lam;rw[a];generalize turn u v z=T at *
 repeat' split
 all_goals omega
theorem Jp(h:v.y<u.y)(b:t.y≠u.y)(c:t.y<u.y->turn t u v≠0):cr v t u+hit v u t=lam t u v+1:=by
 have a:turn v u t=- turn t u v:=by rw[gX u v t,<- kZ t u v]
 unfold cr hit lam;rw[a];generalize turn t u v=T at *
 repeat' split
 all_goals omega
theorem NZ(h:v.y<u.y)(c:z.y≠v.y)(d:v.y<z.y->turn u v z≠0):cr u v z+hit v u z=lam u v z+1:=by
 have b:turn v u z=- turn u v z:=gX u v z;have a:turn v z u=turn u v z:=kZ u v z;unfold cr hit lam;rw[b,a];generalize turn u v z=T at *
 repeat' split
 all_goals omega
theorem PO(hp:∀ i,p (i+n)=p i)(x:Pt)(k:Nat):sg (λi=>cr x (p i) (p (i+1))) k n=jZ p n x:=
 PL _ (λi=>by show cr x (p (i+n)) (p (i+n+1))=cr x (p i) (p (i+1));rw[hp i,show i+n+1=i+1+n by omega,hp (i+1)]) k
theorem vF(h:Simp p n)(x:Pt)(k:Nat):jZ p n x=cr x (p k) (p (k+1))+cr x (p (k+1)) (p (k+2))+cr x (p (k+2)) (p (k+3))+sg (λi=>cr x (p i) (p (i+1))) (k+3) (n-3):=by rw[<- PO h.per x k];obtain⟨m,a⟩:∃ m,n=m+3:=⟨n-3,by have:=h.n3;omega⟩;subst a;rw[show m+3-3=m by omega,zN,zN,zN];show cr x (p k) (p (k+1))+(cr x (p (k+1)) (p (k+2))+(cr x (p (k+2)) (p (k+3))+sg (λi=>cr x (p i) (p (i+1))) (k+3) m))=_;omega
theorem KF(a b:Pt):cr a a b=0:=by unfold cr;rw[Ez];simp
theorem Hu(a b:Pt):cr b a b=0:=by unfold cr;rw[Jm];simp
theorem xH{a b c d:Pt}:meet a b c d↔meet b a c d:=by
 unfold meet;rw[qN (a:=a) (b:=b),qN (a:=a) (b:=b) (p:=d),gX a b c,gX a b d];have f:-turn a b c*-turn a b d=turn a b c*turn a b d:=by grind
 have e:turn c d b*turn c d a=turn c d a*turn c d b:=Int.mul_comm _ _;rw[f,e];constructor<;>(rintro (h | h | h | h | h)<;>simp[h])
theorem CQ(h:Simp p n)(k:Nat){x:Pt}(a:x.y<z.y)(b:∀ i,k+3<=i->i<k+n->¬ meet x z (p i) (p (i+1))) :
    sg (λi=>cr x (p i) (p (i+1))) (k+3) (n-3)-sg (λi=>cr z (p i) (p (i+1))) (k+3) (n-3)=hit x z (p k)-hit x z (p (k+3)):=by
  have d:=h.n3;rw[<- KE];have:sg (λi=>cr x (p i) (p (i+1))-cr z (p i) (p (i+1))) (k+3) (n-3)=sg (λi=>hit x z (p (i+1))-hit x z (p i)) (k+3) (n-3):=by refine uD λi c e=>zM a (h.hts i 1 (by omega) (by omega)) (b i c (by omega))
  rw[this,Ht (λi=>hit x z (p i)),show k+3+(n-3)=k+n by omega,h.per k]
theorem EC(h:Simp p n){k i:Nat}(b:k+3<=i)(a:i<k+n):¬ meet (p (k+1)) (p (k+2)) (p i) (p (i+1)):=by have:=h.far (k+1) (i-(k+1)) (by omega) (by omega);rw[show k+1+(i-(k+1))=i by omega]at this;exact this
theorem zO(h:Simp p n)(k:Nat)(f:((p k).y<(p (k+1)).y/\(p (k+2)).y<(p (k+1)).y)\/((p (k+1)).y<(p k).y/\(p (k+1)).y<(p (k+2)).y)):turn (p k) (p (k+1)) (p (k+2))≠0:=by
 intro d;have g:=h.n3;have e:turn (p (k+1)) (p (k+2)) (p k)=0:=by rw[kZ,d]
 have i:=h.hts k 2 (by omega) (by omega);rcases f with⟨a,b⟩ |⟨a,b⟩
 . by_cases c:(p k).y<(p (k+2)).y
   . exact h.Ep k (uz d a (by omega) (by omega))
   . exact h.Es k (qN.1 (uz (by rw[gX,e];rfl) b (by omega) (by omega)))
 . by_cases c:(p k).y<(p (k+2)).y
   . exact h.Es k (uz e b (by omega) (by omega))
   . exact h.Ep k (qN.1 (uz (by rw[gX,d];rfl) a (by omega) (by omega)))
def PS(p:Nat->Pt)(n k:Nat):Int:=jZ p n (p (k+1))+lam (p k) (p (k+1)) (p (k+2))
theorem PU(h:Simp p n)(k:Nat):PS p n k=PS p n (k+1):=by
 have l:=h.n3;unfold PS;show jZ p n (p (k+1))+lam (p k) (p (k+1)) (p (k+2))=jZ p n (p (k+2))+lam (p (k+1)) (p (k+2)) (p (k+3));rw[vF h (p (k+1)) k,vF h (p (k+2)) k,Hu,KF,Hu,KF];have y1:=h.hts k 1 (by omega) (by omega);have y2:=h.hts (k+1) 1 (by omega) (by omega);have y3:=h.hts (k+2) 1 (by omega) (by omega);rcases Int.lt_or_gt_of_ne y2 with b | hd
 . have s:=CQ h k b λi d c=>EC h d c;have g:=PN b y1 (λa=>zO h k (.inr ⟨a,b⟩));have f:=Rx b (z:=p (k+3)) (λe=>y3 e.symm);simp only[show k+1+1=k+2 by omega]at *;omega
 . have s:=CQ h k hd λi d c j=>EC h d c (xH.1 j);have g:=Jp hd y1 (λa=>zO h k (.inl ⟨a,hd⟩));have f:=NZ hd (z:=p (k+3)) (λe=>y3 e.symm) (λa=>zO h (k+1) (.inr ⟨hd,a⟩));simp only[show k+1+1=k+2 by omega]at *;omega
theorem AL{p:Nat->Pt}{n:Nat}(h:Simp p n):∀ k,PS p n k=PS p n 0
 | 0=>rfl
 | k+1=>by rw[<- PU h k,AL h k]
theorem highest(p:Nat->Pt):∀ n,∃ i,i<=n/\∀ j,j<=n->(p j).y<=(p i).y
 | 0=>⟨0,Nat.le_refl _,λj a=>by rw[show j=0 by omega];exact Int.le_refl _⟩
 | n+1=>by
  obtain⟨i,c,b⟩:=highest p n;by_cases h:(p i).y<=(p (n+1)).y
  . refine⟨n+1,Nat.le_refl _,λj a=>?_⟩;by_cases e:j=n+1
    . rw[e];exact Int.le_refl _
    . have:=b j (by omega);omega
  . refine⟨i,by omega,λj a=>?_⟩;by_cases e:j=n+1
    . rw[e];omega
    . exact b j (by omega)
theorem Hw(h:∀ i,p (i+n)=p i):∀ i,p i=p (i%n):=by
 intro i;have:∀ q r,p (r+n*q)=p r:=λq r=>by
  induction q with
  | zero=>rfl
  | succ q a=>rw[show r+n*(q+1)=r+n*q+n by rw[Nat.mul_succ];omega,h,a]
 have e:=this (i / n) (i%n);rw[Nat.mod_add_div]at e;exact e
theorem RD(h:Simp p n):PS p n 0=0\/PS p n 0=-1:=by
 have l:=h.n3;obtain⟨i,o,g⟩:=highest p (n-1);have a:∀ j,(p j).y<=(p i).y:=λj=>by rw[Hw h.per j];exact g _ (by have:=Nat.mod_lt j (show 0<n by omega);omega)
 obtain⟨k,d⟩:∃ k,p (k+1)=p i:=⟨i+n-1,by rw[show i+n-1+1=i+n by omega,h.per]⟩;rw[<- AL h k];have f:jZ p n (p (k+1))=0:=by
  unfold jZ;have:∀ m,sg (λj=>cr (p (k+1)) (p j) (p (j+1))) 0 m=0:=λm=>by
   induction m with
   | zero=>rfl
   | succ m e =>
    rw[sg,e];have c:=a m;have b:=a (m+1);rw[<- d]at c b;have:cr (p (k+1)) (p (0+m)) (p (0+m+1))=0:=by rw[Nat.zero_add];unfold cr;rw[if_neg (by omega),if_neg (by omega)]
    show 0+cr (p (k+1)) (p (0+m)) (p (0+m+1))=0;rw[this];rfl
  exact this n
 unfold PS;rw[f];have c:=a k;have b:=a (k+2);rw[<- d]at c b;have y1:=h.hts k 1 (by omega) (by omega);have y2:=h.hts (k+1) 1 (by omega) (by omega);simp only[show k+1+1=k+2 by omega]at y2;unfold lam;rw[if_neg (by omega),if_neg (by omega)];split<;>omega
end
section
variable {a b p q u v:Pt}
theorem uF(c:turn u v q=0):turn u v a*(q.y-u.y)=turn u q a*(v.y-u.y):=by
 have e:turn u v a*(q.y-u.y)=turn u q a*(v.y-u.y)+turn u v q*(a.y-u.y):=by unfold turn;grind
 rw[e,c];grind
theorem qO(a b u v q:Pt)(c:turn u v q=0):(q.y-u.y)*turn a b v=(v.y-u.y)*turn a b q-(v.y-q.y)*turn a b u:=by
 have e:(q.y-u.y)*turn a b v=(v.y-u.y)*turn a b q-(v.y-q.y)*turn a b u-turn u v q*(b.y-a.y):=by unfold turn;grind
 rw[e,c,Int.zero_mul,Int.sub_zero]
theorem RF(c:turn u v q=0)(h:u.y<q.y/\q.y<v.y)(d:on u q a):on u v a:=by obtain⟨g,_,f⟩:=d;have e:=uF (a:=a) c;rw[g]at e;have:turn u v a=0:=BD (b:=q.y-u.y) (by omega) (by rw[e];simp);unfold btw at f;exact uz this (by omega) (by omega) (by omega)
theorem PW(c:turn u v q=0)(h:v.y<q.y/\q.y<u.y)(d:on u q a):on u v a:=by
 obtain⟨g,_,f⟩:=d;have e:=uF (a:=a) c;rw[g]at e;have:turn u v a=0:=by
  have:=BD (a:=turn u v a) (b:=u.y-q.y) (by omega) (by
   have:turn u v a*(u.y-q.y)=-(turn u v a*(q.y-u.y)):=by grind
   rw[this,e];simp)
  exact this
 unfold btw at f;exact qN.1 (uz (by rw[gX,this];rfl) (by omega) (by omega) (by omega))
def mid(u v q:Pt):Prop:=(u.y<q.y/\q.y<v.y)\/(v.y<q.y/\q.y<u.y)
theorem AO(c:turn u v q=0)(h:mid u v q)(d:on u q a):on u v a:=by
 rcases h with h | h
 . exact RF c h d
 . exact PW c h d
theorem lJ(h:turn a b p=0)(c:a.y≠b.y)(d:btw a.y b.y p.y):on a b p:=by
 unfold btw at d;rcases Int.lt_or_gt_of_ne c with k | k
 . exact uz h k (by omega) (by omega)
 . exact qN.1 (uz (by rw[gX,h];rfl) k (by omega) (by omega))
theorem MH(d:a.y≠b.y)(h:turn a b p=0)(c:p.y=a.y):p=a:=by
 have e:(b.y-a.y)*(p.x-a.x)=0:=by have:turn a b p=(b.x-a.x)*(p.y-a.y)-(b.y-a.y)*(p.x-a.x):=rfl;rw[c]at this;simp at this;rw[h]at this;omega
 have:p.x=a.x:=by rcases Int.mul_eq_zero.1 e with e | e<;>omega
 cases p;cases a;simp_all
theorem ED(D:turn u v q=0)(i:mid u v q)(C:turn a b q=0)(n:mid a b q):meet u v a b:=by
 have g:u.y≠v.y:=by unfold mid at i;omega
 have l:a.y≠b.y:=by unfold mid at n;omega
 have j:=qO u v a b q C;have d:=qO a b u v q D;rw[D,Int.mul_zero,Int.zero_sub]at j;rw[C,Int.mul_zero,Int.zero_sub]at d;have f:∀{A B s t:Int},(0<s/\0<t)\/(s<0/\t<0)->s*B=-(t*A)->A≠0->A*B<0:=λ{A B s t} r F hA=>by
  rcases r with⟨w,o⟩ |⟨w,o⟩
  . rcases Int.lt_or_gt_of_ne hA with k | k
    . have m:=oz o k;exact jC k (gZ w (by rw[Int.mul_comm];omega))
    . have m:=Int.mul_pos o k;exact oz k (dI w (by rw[Int.mul_comm];omega))
  . have E:(-s)*B=-((-t)*A):=by grind
    rcases Int.lt_or_gt_of_ne hA with k | k
    . have m:=oz (show 0 < -t by omega) k;exact jC k (gZ (show 0 < -s by omega) (by rw[Int.mul_comm];omega))
    . have m:=Int.mul_pos (show 0 < -t by omega) k;exact oz k (dI (show 0 < -s by omega) (by rw[Int.mul_comm];omega))
 by_cases h:turn u v a=0
 . -- all on one line
   have z:turn u v b=0:=by
    rw[h,Int.mul_zero,Int.neg_zero]at j;rcases Int.mul_eq_zero.1 j with e | e
    . unfold mid at n;omega
    . exact e
   have c:turn a b u=0:=by
    have:(v.y-u.y)*turn a b u=turn u v a*(u.y-b.y)-turn u v b*(u.y-a.y):=NY u v a b;rw[h,z,Int.zero_mul,Int.zero_mul,Int.sub_zero]at this;rcases Int.mul_eq_zero.1 this with e | e
    . omega
    . exact e
   have x:turn a b v=0:=by
    rw[c,Int.mul_zero,Int.neg_zero]at d;rcases Int.mul_eq_zero.1 d with e | e
    . unfold mid at i;omega
    . exact e
   by_cases c1:btw u.y v.y a.y
   . exact .inl (lJ h g c1)
   by_cases c2:btw u.y v.y b.y
   . exact .inr (.inl (lJ z g c2))
   . refine .inr (.inr (.inl (lJ c l ?_)));unfold btw mid at *;omega
 . by_cases c:turn a b u=0
   . exfalso;have x:turn a b v=0:=by
      rw[c,Int.mul_zero,Int.neg_zero]at d;rcases Int.mul_eq_zero.1 d with e | e
      . unfold mid at i;omega
      . exact e
     have:turn u v a*(b.y-a.y)=turn a b u*(a.y-v.y)-turn a b v*(a.y-u.y):=yG a b u v;rw[c,x,Int.zero_mul,Int.zero_mul,Int.sub_zero]at this;rcases Int.mul_eq_zero.1 this with e | e
     . exact h e
     . omega
   . refine .inr (.inr (.inr (.inr ⟨f ?_ j h,f ?_ d c⟩)))
     . unfold mid at n;omega
     . unfold mid at i;omega
theorem N7(d:turn u v q=0)(c:mid u v q)(f:a.y≠b.y)(h:meet u q a b):meet u v a b:=by
 rcases h with h | h | h | h |⟨s,i⟩
 . exact .inl (AO d c h)
 . exact .inr (.inl (AO d c h))
 . exact .inr (.inr (.inl h))
 . -- q is on the other edge
   by_cases l:q.y=a.y
   . have:=MH f h.1 l;subst this;exact .inl (lJ d (by unfold mid at c;omega) (by unfold mid at c;unfold btw;omega))
   by_cases j:q.y=b.y
   . have:=MH (a:=b) (b:=a) (λe=>f e.symm) (by rw[gX,h.1];rfl) j;subst this;exact .inr (.inl (lJ d (by unfold mid at c;omega) (by unfold mid at c;unfold btw;omega)))
   . refine ED d c h.1 ?_;have:=h.2.2;unfold btw at this;unfold mid;omega
 . have x:=uF (a:=a) d;have w:=uF (a:=b) d;have t:=qO a b u v q d;refine .inr (.inr (.inr (.inr ⟨?_,?_⟩)))
   . have k:(turn u v a*turn u v b)*((q.y-u.y)*(q.y-u.y))=(turn u q a*turn u q b)*((v.y-u.y)*(v.y-u.y)):=by grind
     have g:0<(q.y-u.y)*(q.y-u.y):=by
      rcases c with h | h
      . exact Int.mul_pos (by omega) (by omega)
      . exact Int.mul_pos_of_neg_of_neg (by omega) (by omega)
     have m:0<(v.y-u.y)*(v.y-u.y):=by
      rcases c with h | h
      . exact Int.mul_pos (by omega) (by omega)
      . exact Int.mul_pos_of_neg_of_neg (by omega) (by omega)
     exact dI g (by rw[k];exact jC s m)
   . -- (q-u)*(U*V)=(v-u)*(U*Q)-(v-q)*U*U
     have k:(turn a b u*turn a b v)*(q.y-u.y)=(v.y-u.y)*(turn a b u*turn a b q)-(v.y-q.y)*(turn a b u*turn a b u):=by grind
     have r:turn a b u≠0:=λe=>by rw[e]at i;simp at i
     have g:0<turn a b u*turn a b u:=by
      rcases Int.lt_or_gt_of_ne r with h | h
      . exact Int.mul_pos_of_neg_of_neg h h
      . exact Int.mul_pos h h
     rcases c with h | h
     . have o:=oz (show 0<v.y-u.y by omega) i;have n:=Int.mul_pos (show 0<v.y-q.y by omega) g;exact dI (show 0<q.y-u.y by omega) (by omega)
     . have o:=Int.mul_pos_of_neg_of_neg (show v.y-u.y<0 by omega) i;have n:=jC (show v.y-q.y<0 by omega) g;refine dI (show 0<u.y-q.y by omega) ?_;have:turn a b u*turn a b v*(u.y-q.y)=-(turn a b u*turn a b v*(q.y-u.y)):=by grind
       omega
end
section
variable {p:Nat->Pt}{n:Nat}{q t u v:Pt}
theorem EF(h:Simp p n)(k:Nat)(a:turn (p k) (p (k+1)) q=0)(d:mid (p k) (p (k+1)) q):¬ meet (p k) q (p (k+1)) (p (k+2)):=by
 have j:=h.n3;have y1:=h.hts k 1 (by omega) (by omega);have y2:=h.hts (k+1) 1 (by omega) (by omega);have y3:=h.hts k 2 (by omega) (by omega);simp only[show k+1+1=k+2 by omega]at y2;have g:=h.Ep k;have f:=h.Es k;generalize p k=u at *;generalize p (k+1)=v at *;generalize p (k+2)=z at *;rintro (c | c | c | c |⟨c,_⟩)
 . obtain⟨_,_,c⟩:=c;unfold mid at d;unfold btw at c;omega
 . exact g (AO a d c)
 . exact f c
 . -- q on the next edge
   have e:=qO u v v z q c.1;rw[Jm,Int.mul_zero,Int.sub_zero,a,Int.mul_zero]at e;have i:turn u v z=0:=by
    rcases Int.mul_eq_zero.1 e with e | e
    . unfold mid at d;omega
    . exact e
   have c2:=c.2.2;by_cases b:btw u.y v.y z.y
   . exact g (lJ i y1 b)
   . refine f (lJ (by rw[kZ,i]) y2 ?_);unfold btw mid at *;omega
 . have:turn u q v=0:=by rw[Ey,a];rfl
   rw[this,Int.zero_mul]at c;omega
theorem PX{x z b:Pt}(h:turn x z v=0):hit x z v=0:=by have _:=b;unfold hit;rw[if_neg (by omega)]
theorem PY(i:turn u v q=0)(c:mid u v q):lam t u q=lam t u v:=by
 have e:=uF (a:=t) i;have l:turn t u q=turn u q t:=by rw[<- kZ t u q]
 have j:turn t u v=turn u v t:=by rw[<- kZ t u v]
 unfold lam;rw[l,j];have b:turn u q t<0↔turn u v t<0:=by
  rcases c with h | h
  . constructor
    . intro k;exact dI (show 0<q.y-u.y by omega) (by rw[e];exact jC k (by omega))
    . intro k;exact dI (show 0<v.y-u.y by omega) (by rw[<- e];exact jC k (by omega))
  . have d:turn u v t*(u.y-q.y)=turn u q t*(u.y-v.y):=by grind
    constructor
    . intro k;exact dI (show 0<u.y-q.y by omega) (by rw[d];exact jC k (by omega))
    . intro k;exact dI (show 0<u.y-v.y by omega) (by rw[<- d];exact jC k (by omega))
 have g:(u.y<q.y)↔(u.y<v.y):=by unfold mid at c;omega
 have f:(q.y<u.y)↔(v.y<u.y):=by unfold mid at c;omega
 simp only[b,g,f]
theorem N8(b:turn u v q=0)(c:mid u v q)(h:turn t u v≠0):turn t u q≠0:=by
 intro k;have e:=uF (a:=t) b;have f:turn t u q=turn u q t:=by rw[<- kZ t u q]
 have d:turn t u v=turn u v t:=by rw[<- kZ t u v]
 rw[<- f,<- d,k,Int.zero_mul]at e;rcases Int.mul_eq_zero.1 e with e | e
 . exact h e
 . unfold mid at c;omega
theorem N9(h:Simp p n)(k:Nat)(c:turn (p (k+1)) (p (k+2)) q=0)(d:mid (p (k+1)) (p (k+2)) q) :
    jZ p n q=PS p n 0+if(p (k+1)).y<(p (k+2)).y then 0 else 1:=by
  have B:=h.n3;rw[<- AL h k];unfold PS;rw[vF h (p (k+1)) k,vF h q k,Hu,KF];have y1:=h.hts k 1 (by omega) (by omega);have y2:=h.hts (k+1) 1 (by omega) (by omega);have y3:=h.hts (k+2) 1 (by omega) (by omega);have o:∀ x z,turn x z (p (k+2))=0->hit x z (p (k+2))=0:=λx z e=>PX (b:=x) e;have C:cr q (p (k+1)) (p (k+2))=0:=by unfold cr;rw[c];simp
  have A:=PY (t:=p k) c d;have l:((p k).y<(p (k+1)).y/\(p (k+2)).y<(p (k+1)).y)\/((p (k+1)).y<(p k).y/\(p (k+1)).y<(p (k+2)).y)->turn (p k) (p (k+1)) q≠0:=λa=>N8 c d (zO h k a);have r:∀ i,k+3<=i->i<k+n->¬ meet (p (k+1)) q (p i) (p (i+1)):=λi j g a=>EC h j g (N7 c d (h.hts i 1 (by omega) (by omega)) a);have m:=EF h (k+1) (q:=q) c d;simp only[show k+1+1=k+2 by omega,show k+1+2=k+3 by omega]at *;rcases d with f | hd
  . rw[if_pos (show(p (k+1)).y<(p (k+2)).y by omega)];have s:=CQ h k f.1 r;have s2:=zM f.1 y3 m;have w:=PN f.1 y1 (λa=>l (.inr ⟨a,by omega⟩));have z:=o (p (k+1)) q (by rw[Ey,c];rfl);omega
  . rw[if_neg (show ¬(p (k+1)).y<(p (k+2)).y by omega)];have s:=CQ h k hd.2 λi j g a=>r i j g (xH.1 a);have s2:=zM hd.2 y3 λa=>m (xH.1 a);have w:=Jp hd.2 y1 (λa=>l (.inl ⟨a,by omega⟩));have z:=o q (p (k+1)) (by rw[<- kZ q,c]);omega
end
end Go.Skm.Fen
