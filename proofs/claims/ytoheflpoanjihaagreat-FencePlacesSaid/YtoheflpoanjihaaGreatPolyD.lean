import Derived.Test.YtoheflpoanjihaaGreatG8
import Derived.Test.YtoheflpoanjihaaGreatEqv1
set_option linter.all false
namespace Go.Skm.Fen
section
open Go Go.Skm
variable {v:V3}{l:List V3}
abbrev kX:=V3 × V3
def uz(l:List V3)(n:Nat):List kX:=(List.range n).map λi=>(flat (ca l i),flat (cb l i))
abbrev dL(l:List V3):List kX:=uz l l.length
def eY(e:kX):PV:=.agg [encV e.1,encV e.2]
theorem tH(l:List V3)(n:Nat):uz l (n+1)=uz l n++[(flat (ca l n),flat (cb l n))]:=by simp[uz,List.range_succ,List.map_append]
theorem jg(l:List V3)(n:Nat):(uz l n).length=n:=by simp[uz]
def IC(e:kX):Int:=e.1.x*e.2.y-e.1.y*e.2.x
def xM:List kX->Int
 |[]=>0
 | e::r=>IC e+xM r
theorem JY(a b:List kX):xM (a++b)=xM a+xM b:=by
 induction a with
 | nil=>simp[xM]
 | cons e r c=>simp only[List.cons_append,xM,c];omega
abbrev lu(v:V3):Prop:=Bd 1048576 v
theorem lu.up(h:lu v):mW v:=h.mono (by decide)
theorem IU(h:l.all (inM 1048576)=true)(i:Nat):lu (gt l i):=by
 by_cases a:i<l.length
 . simp_all[tK,qLb]
 . have e:gt l i=default:=by grind
   rw[e];refine⟨⟨?_,?_⟩,⟨?_,?_⟩,⟨?_,?_⟩⟩<;>decide
theorem Qw(h:lu v):lu (flat v):=⟨h.1,h.2.1,⟨by show(-1048576:Int)<=0;decide,by show(0:Int)<=1048576;decide⟩⟩
def OkE(es:List kX):Prop:=∀ e∈es,lu e.1/\lu e.2
theorem vC(h:l.all (inM 1048576)=true)(n:Nat):OkE (uz l n):=by intro e a;simp only[uz,List.mem_map]at a;obtain⟨i,_,rfl⟩:=a;exact⟨Qw (IU h _),Qw (IU h _)⟩
theorem He{e:kX}(h:lu e.1/\lu e.2):(-1099511627776<=e.1.x*e.2.y/\e.1.x*e.2.y<=1099511627776)/\(-1099511627776<=e.1.y*e.2.x/\e.1.y*e.2.x<=1099511627776):=by obtain⟨⟨c,b,_⟩,⟨b1,a,_⟩⟩:=h;exact⟨mulB (m:=1048576) (n:=1048576) c a,mulB (m:=1048576) (n:=1048576) b b1⟩
section
variable (X:Ext) (hX:Mine X)
include hX
theorem c51(l:List V3):run tab X 51 [.p (.list true kV3 (encL l))] []=some ([.p (.fn 100 [.ref [.list true kV3 (encL l)]])],[]):=run_of (hX _ rfl) (e51 _ _)
theorem abj(l:List V3)(f:l.length<=1000000):∀ k i,i+k=l.length ->
    L tab (run tab X) 100 [.log true []] [.lp [1,0]] (D7 (encL l) (encL l) ((l.length:Nat):Int) (i:Int) ((uz l i).map eY))=some ([],[.log true ((dL l).map eY)]):=by
  have _:=hX;intro k;induction k with
  | zero =>
   intro i e;have:i=l.length:=by omega
   subst this;refine L_of ?_;rw[MN,y8 (by omega),qCf]
  | succ k c =>
   intro i e;have a:i<l.length:=by omega
   have d:=LC (n:=l.length) (i:=i) (by omega);refine L_of ?_;rw[MN,rM a,qCt];simp only[encL_length,le0,rM a,rM d,nz (show 0<l.length by omega),dZ (show i<=9000000000000000000 by omega),JW,Bool.and_true,qCt,qIt,encL_x,encL_y];have b:=c (i+1) (by omega);rw[tH,List.map_append]at b;refine fork_of rfl ?_;exact b
theorem Oz(l:List V3)(a:l.length<=1000000):run tab X 100 [.yld,.p (.ref [.list true kV3 (encL l)])] [.log true []]=some ([],[.log true ((dL l).map eY)]):=
 run_of (hX _ rfl) (by rw[e100,encL_length];exact abj X hX l a l.length 0 (by omega))
theorem l47(l:List PV):∀(es:List kX) (s:Int),OkE es→-(4398046511104*(1000000-es.length))<=s/\s<=4398046511104*(1000000-es.length)->es.length<=1000000 ->
    L tab (run tab X) 47 [] [.rg [1,1,0,1,0] [(true,kV3),(true,kV3)] (es.map eY)] (rX l s)=some ([.p (.int .i64 (s+xM es))],[]):=by
  have _:=hX;intro es;induction es with
  | nil=>simp[List.map_nil,Gp,xM,Int.add_zero]
  | cons e r c =>intro s a d f;simp only[qLl]at d f;have i:=He (a e (by simp));rw[List.map_cons];show L tab (run tab X) 47 [] [.rg [1,1,0,1,0] [(true,kV3),(true,kV3)] (.agg [.agg [.int .i64 e.1.x,.int .i64 e.1.y,.int .i64 e.1.z],.agg [.int .i64 e.2.x,.int .i64 e.2.y,.int .i64 e.2.z]]::r.map eY)] (rX l s)=_;rw[Ep,wrap_eq (x:=e.1.x*e.2.y) (by omega) (by omega),wrap_eq (x:=e.1.y*e.2.x) (by omega) (by omega),wrap_eq (x:=e.1.x*e.2.y-e.1.y*e.2.x) (by omega) (by omega),wrap_eq (x:=s+_) (by omega) (by omega)];have g:=c (s+IC e) (λh b=>a h (by simp[b])) (by unfold IC;omega) (by omega);rw[xM,<- Int.add_assoc];exact g
def kG(l:List V3):Int:=xM (dL l)
theorem c47(l:List V3)(c:l.length<=1000)(a:l.all (inM 1048576)=true):run tab X 47 [.p (.list true kV3 (encL l))] []=some ([.p (.int .i64 (kG l))],[]):=
 run_of (hX _ rfl) (by rw[e47,c51 X hX l,qOb];show(run tab X 100 [.yld,.p (.ref [.list true kV3 (encL l)])] [.log true []]).bind _=_;rw[Oz X hX l (by omega),qOb];have b:=l47 X hX (encL l) (dL l) 0 (vC a _) (by rw[jg];omega) (by rw[jg];omega);rw[Int.zero_add]at b;exact b)
theorem c48(n:Int):run tab X 48 [.p (.int .i64 n)] []=some ([.p (.int .i64 (iC n))],[]):=
 run_of (hX _ rfl) (by rw[e48];simp only[condD,iC];grind)
end
def Pv(h:List V3):Nat->Nat->Int->Int
 | 0,_,s=>s
 | k+1,i,s=>Pv h k (i+1) (s+area (gt h 0) (gt h i) (gt h (i+1)))
theorem JZ{a b:V3}(d:lu a)(c:lu b):(-2097152<=(zi a b).x/\(zi a b).x<=2097152)/\(-2097152<=(zi a b).y/\(zi a b).y<=2097152):=by obtain⟨g,f,_⟩:=d;obtain⟨b1,e,_⟩:=c;grind[zi]
section
variable (X:Ext) (hX:Mine X)
include hX
theorem c54(h:List V3)(C:h.length<=1000)(a:h.all (inM 1048576)=true):run tab X 54 [.p (.list true kV3 (encL h))] []=some ([.p (.int .i64 (Pv h (h.length-2) 1 0))],[]):=by
 refine run_of (hX _ rfl) ?_;rw[e54];have g:=IU a;have u:∀ k i:Nat,(i+k+1=h.length\/(k=0/\h.length<=i+1))->1<=i->i<=10000->∀ s:Int,-(i*70368744177664)<=s->s<=i*70368744177664->L tab (run tab X) 54 [] [.lp [1,1,0,1,0]] (yw (encL h) s (i:Int))=some ([.p (.int .i64 (Pv h k i s))],[]):=by
  intro k;induction k with
  | zero =>intro i z f e s d c;refine L_of ?_;rw[GH,encL_length,dZ (by omega),y8 (by omega),qCf];rfl
  | succ k w =>
   intro i z f e s d c;refine L_of ?_;have b0:=g 0;have b1:=g i;have t:=g (i+1);have q:=c105 X hX (gt h i) (gt h 0) (b1.mono (by decide)) (b0.mono (by decide));have o:=c105 X hX (gt h (i+1)) (gt h 0) (t.mono (by decide)) (b0.mono (by decide));have n:=Xd X hX (zi (gt h i) (gt h 0)) (zi (gt h (i+1)) (gt h 0));simp only[encV]at q o n;have b:ltI (0:Int) ((h.length:Nat):Int)=true:=decide_eq_true (by omega);rw[GH,encL_length,dZ (by omega),rM (show i+1<h.length by omega),qCt];simp only[le0,rM (show i<h.length by omega),b,Bool.and_true,qCt,qIt,encL_x,encL_y,encL_z,q,o,qOb,qLh,pv_p,cell_agg,qLz,List.getD_cons_succ,toInt_int];simp only[n,qOb,qLh,pv_p,cell_agg,qLz,List.getD_cons_succ,toInt_int];have j:=JZ b1 b0;have s2:=JZ t b0;have B:=mulB j.1 s2.2;have A:=mulB j.2 s2.1;have r:Cm (zi (gt h i) (gt h 0)).x (zi (gt h (i+1)) (gt h 0)).y (zi (gt h i) (gt h 0)).y (zi (gt h (i+1)) (gt h 0)).x=area (gt h 0) (gt h i) (gt h (i+1)):=by rw[CG (m:=4398046511104) (by omega) (by omega) (by omega)];rfl
   have D:-8796093022208<=area (gt h 0) (gt h i) (gt h (i+1))/\area (gt h 0) (gt h i) (gt h (i+1))<=8796093022208:=by rw[<- r,CG (m:=4398046511104) (by omega) (by omega) (by omega)];omega
   rw[r,wrap_eq (by omega) (by omega)];exact w (i+1) (by omega) (by omega) (by omega) _ (by omega) (by omega)
 grind
end
def qV(a b:V3):Int:=a.x*b.y-a.y*b.x
theorem LG(a b c:V3):area a b c=qV a b+qV b c+qV c a:=by unfold area qV;grind
theorem Dw(a b:V3):qV b a=- qV a b:=by unfold qV;grind
theorem J3(h:List V3):∀ k,k+1<=h.length-1->xM (uz h (k+1))=Pv h k 1 0+qV (gt h 0) (gt h (k+1))
 | 0,hk=>by have e:qh h.length 0=1:=Nat.mod_eq_of_lt (by omega);show xM [(flat (ca h 0),flat (cb h 0))]=_;simp only[xM,Pv];show qV (gt h 0) (gt h (qh h.length 0))+0=0+qV (gt h 0) (gt h 1);rw[e];omega
 | k+1,hk=>by
  have e:qh h.length (k+1)=k+2:=Nat.mod_eq_of_lt (by omega);have b:∀ k i s,Pv h (k+1) i s=Pv h k i s+area (gt h 0) (gt h (i+k)) (gt h (i+k+1)):=by
   intro k;induction k with
   | zero=>intro i s;simp[Pv]
   | succ k a =>intro i s;rw[Pv,a,Pv];grind
  rw[tH,JY,J3 h k (by omega),b,LG];show _+(qV (gt h (k+1)) (gt h (qh h.length (k+1)))+0)=_;rw[e,show 1+k=k+1 by omega,show k+1+1=k+2 by omega];have:=Dw (gt h (k+2)) (gt h 0);omega
theorem LH(h:List V3)(c:3<=h.length):kG h=Pv h (h.length-2) 1 0:=by
 obtain⟨n,a⟩:∃ n,h.length=n+3:=⟨h.length-3,by omega⟩;have e:qh h.length (n+2)=0:=by unfold qh;rw[a,Nat.mod_self]
 unfold kG;rw[dL,a,tH,JY,show n+3-2=n+1 by omega];have b:=J3 h (n+1) (by omega);rw[b];show _+(qV (gt h (n+2)) (gt h (qh h.length (n+2)))+0)=_;rw[e];have:=Dw (gt h 0) (gt h (n+2));grind
end
section
variable {a b:Int}
structure Pt where
 x:Int
 y:Int
 deriving DecidableEq,Inhabited
def turn(a b c:Pt):Int:=(b.x-a.x)*(c.y-a.y)-(b.y-a.y)*(c.x-a.x)
def cr(p a b:Pt):Int:=if a.y<=p.y/\p.y<b.y/\0<turn a b p then 1 else if b.y<=p.y/\p.y<a.y/\turn a b p<0 then -1 else 0
def btw(a b c:Int):Prop:=(a<=c/\c<=b)\/(b<=c/\c<=a)
def on(a b p:Pt):Prop:=turn a b p=0/\btw a.x b.x p.x/\btw a.y b.y p.y
def meet(a b c d:Pt):Prop:=on a b c\/on a b d\/on c d a\/on c d b\/(turn a b c*turn a b d<0/\turn c d a*turn c d b<0)
theorem lU(a b c:Pt):turn b c a=turn a b c:=by unfold turn;grind
theorem iD(a b c:Pt):turn b a c=- turn a b c:=by unfold turn;grind
theorem FU(a b c:Pt):turn a c b=- turn a b c:=by unfold turn;grind
theorem FV(a b:Pt):turn a b a=0:=by unfold turn;grind
theorem Kt(a b:Pt):turn a b b=0:=by unfold turn;grind
theorem NM(p a b:Pt):cr p b a=- cr p a b:=by have e:=iD a b p;unfold cr;split<;>split<;>(try split)<;>omega
theorem Hw(a b x z:Pt):turn x z b*(b.y-a.y)=turn a b x*(b.y-z.y)-turn a b z*(b.y-x.y):=by unfold turn;grind
theorem zJ(a b x z:Pt):turn x z a*(b.y-a.y)=turn a b x*(a.y-z.y)-turn a b z*(a.y-x.y):=by unfold turn;grind
theorem OX(a b p q:Pt):(b.y-a.y)*turn p q a=turn a b p*(a.y-q.y)-turn a b q*(a.y-p.y):=by unfold turn;grind
theorem iH(d:0<b)(h:0<a*b):0<a:=by
 rcases Int.lt_trichotomy a 0 with c | c | c
 . have:=Int.mul_neg_of_neg_of_pos c d;omega
 . subst c;simp at h
 . exact c
theorem dO(d:0<b)(h:a*b<0):a<0:=by
 rcases Int.lt_trichotomy a 0 with c | c | c
 . exact c
 . subst c;simp at h
 . have:=Int.mul_pos c d;omega
theorem Dy(c:0<b)(h:a*b=0):a=0:=by
 rcases Int.mul_eq_zero.1 h with h | h
 . exact h
 . omega
theorem oU(d:0<a)(c:b<0):a*b<0:=Int.mul_neg_of_pos_of_neg d c
theorem jR(d:a<0)(c:0<b):a*b<0:=Int.mul_neg_of_neg_of_pos d c
theorem vF{a b p:Pt}(h:turn a b p=0)(k:a.y<b.y)(m:a.y<=p.y)(l:p.y<=b.y):on a b p:=by
 refine⟨h,?_,.inl ⟨m,l⟩⟩;have e:(b.x-a.x)*(p.y-a.y)=(p.x-a.x)*(b.y-a.y):=by
  have:turn a b p=(b.x-a.x)*(p.y-a.y)-(p.x-a.x)*(b.y-a.y):=by unfold turn;grind
  omega
 have n:(b.x-a.x)*(b.y-p.y)=(b.x-p.x)*(b.y-a.y):=by grind
 have hd:0<b.y-a.y:=by omega
 have g:0<=p.y-a.y:=by omega
 have f:0<=b.y-p.y:=by omega
 by_cases o:a.x<=b.x
 . left;have d:0<=(p.x-a.x)*(b.y-a.y):=by rw[<- e];exact Int.mul_nonneg (by omega) g
   have c:0<=(b.x-p.x)*(b.y-a.y):=by rw[<- n];exact Int.mul_nonneg (by omega) f
   have j:0<=p.x-a.x:=Int.nonneg_of_mul_nonneg_left d hd;have i:0<=b.x-p.x:=Int.nonneg_of_mul_nonneg_left c hd;omega
 . right;have d:0<=(a.x-p.x)*(b.y-a.y):=by
    have:(a.x-p.x)*(b.y-a.y)=(a.x-b.x)*(p.y-a.y):=by grind
    rw[this];exact Int.mul_nonneg (by omega) g
   have c:0<=(p.x-b.x)*(b.y-a.y):=by
    have:(p.x-b.x)*(b.y-a.y)=(a.x-b.x)*(b.y-p.y):=by grind
    rw[this];exact Int.mul_nonneg (by omega) f
   have j:0<=a.x-p.x:=Int.nonneg_of_mul_nonneg_left d hd;have i:0<=p.x-b.x:=Int.nonneg_of_mul_nonneg_left c hd;omega
theorem Ku{c:Int}:btw a b c↔btw b a c:=by unfold btw;omega
theorem rU{a b p:Pt}:on a b p↔on b a p:=by
 unfold on;rw[iD a b p,Ku (a:=a.x),Ku (a:=a.y)];have:-turn a b p=0↔turn a b p=0:=by omega
 rw[this]
theorem meet_comm{a b c d:Pt}:meet a b c d↔meet a b d c:=by
 unfold meet;rw[rU (a:=c) (b:=d),rU (a:=c) (b:=d) (p:=b),iD c d a,iD c d b];have f:turn a b c*turn a b d=turn a b d*turn a b c:=Int.mul_comm _ _;have e:-turn c d a*-turn c d b=turn c d a*turn c d b:=by grind
 rw[f,e];constructor<;>(rintro (h | h | h | h | h)<;>simp[h])
def hit(x z v:Pt):Int:=if x.y<v.y/\v.y<=z.y/\turn x z v<0 then 1 else 0
theorem NP{x z a b:Pt}(r:x.y<z.y)(u:a.y<b.y)(s:¬ meet x z a b):cr x a b-cr z a b=hit x z b-hit x z a:=by
 have K:¬ on a b x:=λh=>s (.inr (.inr (.inl h)));have nz:¬ on a b z:=λh=>s (.inr (.inr (.inr (.inl h))));have M:¬ on x z a:=λh=>s (.inl h);have L:¬ on x z b:=λh=>s (.inr (.inl h));have m:¬(turn x z a*turn x z b<0/\turn a b x*turn a b z<0):=λh=>s (.inr (.inr (.inr (.inr h))));have B:=Hw a b x z;have A:=zJ a b x z;have hd:0<b.y-a.y:=by omega
 have g:0<z.y-x.y:=by omega
 have w:=Hw x z a b;have v:=zJ x z a b;have E:a.y<=x.y->x.y<=b.y->turn a b x≠0:=λf e h=>K (vF h u f e);have o:a.y<=z.y->z.y<=b.y->turn a b z≠0:=λf e h=>nz (vF h u f e);have F:x.y<=a.y->a.y<=z.y->turn x z a≠0:=λf e h=>M (vF h r f e);have t:x.y<=b.y->b.y<=z.y->turn x z b≠0:=λf e h=>L (vF h r f e);unfold cr hit;generalize turn a b x=Tx at *;generalize turn a b z=Tz at *;generalize turn x z a=Ua at *;generalize turn x z b=Ub at *;have c1:0<Tx->Tz<0->Ua<0->0<Ub->False:=λf e G h4=>m ⟨jR G h4,oU f e⟩;have c2:Tx<0->0<Tz->0<Ua->Ub<0->False:=λf e G h4=>m ⟨oU G h4,jR f e⟩;have O:∀{p q:Prop},((p->q)/\(q->p))->(p↔q):=λh=>⟨h.1,h.2⟩;by_cases N:a.y<=x.y
 . by_cases P:b.y<=x.y
   . -- both low
     repeat' split
     all_goals omega
   . have l:=E N (by omega);by_cases C:b.y<=z.y
     . -- low,between
       have J:=t (by omega) C;have j:0<Tx->0<Ub->False:=λh k=>by
        have n:Tz<0:=by
         by_cases q:Tz<0
         . exact q
         . have D:=Int.mul_pos k hd;have d:Tx*(b.y-z.y)<=0:=Int.mul_nonpos_of_nonneg_of_nonpos (by omega) (by omega);have c:0<=Tz*(b.y-x.y):=Int.mul_nonneg (by omega) (by omega);omega
        refine c1 h n (dO hd ?_) k;have d:Tx*(a.y-z.y)<0:=oU h (by omega);have c:0<=Tz*(a.y-x.y):=Int.mul_nonneg_of_nonpos_of_nonpos (by omega) (by omega);omega
       have i:Tx<0->Ub<0->False:=λh k=>by
        have n:0<Tz:=by
         by_cases q:0<Tz
         . exact q
         . have D:=jR k hd;have d:0<=Tx*(b.y-z.y):=Int.mul_nonneg_of_nonpos_of_nonpos (by omega) (by omega);have c:Tz*(b.y-x.y)<=0:=Int.mul_nonpos_of_nonpos_of_nonneg (by omega) (by omega);omega
        refine c2 h n (iH hd ?_) k;have d:0<Tx*(a.y-z.y):=Int.mul_pos_of_neg_of_neg h (by omega);have c:Tz*(a.y-x.y)<=0:=Int.mul_nonpos_of_nonneg_of_nonpos (by omega) (by omega);omega
       clear B A w v m;by_cases h:0<Tx<;>by_cases k:Ub<0
       . repeat' split
         all_goals omega
       . exact(j h (by omega)).elim
       . exact(i (by omega) k).elim
       . repeat' split
         all_goals omega
     . -- low,high
       have n:=o (by omega) (by omega);have j:0<Tx->Tz<0->False:=λh k=>by
        refine c1 h k (dO hd ?_) (iH hd ?_)
        . have d:Tx*(a.y-z.y)<0:=oU h (by omega);have c:0<=Tz*(a.y-x.y):=Int.mul_nonneg_of_nonpos_of_nonpos (by omega) (by omega);omega
        . have d:0<Tx*(b.y-z.y):=Int.mul_pos h (by omega);have c:Tz*(b.y-x.y)<0:=jR k (by omega);omega
       have i:Tx<0->0<Tz->False:=λh k=>by
        refine c2 h k (iH hd ?_) (dO hd ?_)
        . have d:0<Tx*(a.y-z.y):=Int.mul_pos_of_neg_of_neg h (by omega);have c:Tz*(a.y-x.y)<=0:=Int.mul_nonpos_of_nonneg_of_nonpos (by omega) (by omega);omega
        . have d:Tx*(b.y-z.y)<0:=jR h (by omega);have c:0<Tz*(b.y-x.y):=Int.mul_pos k (by omega);omega
       clear B A w v m;by_cases h:0<Tx<;>by_cases k:0<Tz
       . repeat' split
         all_goals omega
       . exact(j h (by omega)).elim
       . exact(i (by omega) k).elim
       . repeat' split
         all_goals omega
 . have H:a.y<=z.y->Ua≠0:=λh=>F (by omega) h;by_cases I:a.y<=z.y
   . have H:=H I;by_cases C:b.y<=z.y
     . -- both between
       have J:=t (by omega) C;have j:Ua<0->0<Ub->False:=λh k=>by
        refine c1 (iH g ?_) (dO g ?_) h k
        . have d:0<Ua*(x.y-b.y):=Int.mul_pos_of_neg_of_neg h (by omega);have c:Ub*(x.y-a.y)<0:=oU k (by omega);omega
        . have d:Ua*(z.y-b.y)<=0:=Int.mul_nonpos_of_nonpos_of_nonneg (by omega) (by omega);have c:0<Ub*(z.y-a.y):=Int.mul_pos k (by omega);omega
       have i:0<Ua->Ub<0->False:=λh k=>by
        refine c2 (dO g ?_) (iH g ?_) h k
        . have d:Ua*(x.y-b.y)<0:=oU h (by omega);have c:0<Ub*(x.y-a.y):=Int.mul_pos_of_neg_of_neg k (by omega);omega
        . have d:0<=Ua*(z.y-b.y):=Int.mul_nonneg (by omega) (by omega);have c:Ub*(z.y-a.y)<0:=jR k (by omega);omega
       clear B A w v m;by_cases h:Ua<0<;>by_cases k:Ub<0
       . repeat' split
         all_goals omega
       . exact(j h (by omega)).elim
       . exact(i (by omega) k).elim
       . repeat' split
         all_goals omega
     . -- between,high
       have n:=o I (by omega);have j:0<Tz->0<Ua->False:=λh k=>by
        have l:Tx<0:=by
         by_cases q:Tx<0
         . exact q
         . have D:=Int.mul_pos k hd;have d:Tx*(a.y-z.y)<=0:=Int.mul_nonpos_of_nonneg_of_nonpos (by omega) (by omega);have c:0<Tz*(a.y-x.y):=Int.mul_pos h (by omega);omega
        refine c2 l h k (dO hd ?_);have d:Tx*(b.y-z.y)<0:=jR l (by omega);have c:0<Tz*(b.y-x.y):=Int.mul_pos h (by omega);omega
       have i:Tz<0->Ua<0->False:=λh k=>by
        have l:0<Tx:=by
         by_cases q:0<Tx
         . exact q
         . have D:=jR k hd;have d:0<=Tx*(a.y-z.y):=Int.mul_nonneg_of_nonpos_of_nonpos (by omega) (by omega);have c:Tz*(a.y-x.y)<0:=jR h (by omega);omega
        refine c1 l h k (iH hd ?_);have d:0<Tx*(b.y-z.y):=Int.mul_pos l (by omega);have c:Tz*(b.y-x.y)<0:=jR h (by omega);omega
       clear B A w v m;by_cases h:0<Tz<;>by_cases k:Ua<0
       . repeat' split
         all_goals omega
       . exact(j h (by omega)).elim
       . exact(i (by omega) k).elim
       . repeat' split
         all_goals omega
   . -- both high
     repeat' split
     all_goals omega
theorem Bq{x z a b:Pt}(c:x.y<z.y)(d:a.y≠b.y)(e:¬ meet x z a b):cr x a b-cr z a b=hit x z b-hit x z a:=by
 rcases Int.lt_or_gt_of_ne d with h | h
 . exact NP c h e
 . have:=NP c h λh=>e (meet_comm.1 h);rw[NM x a b,NM z a b]at this;omega
end
section
variable {n:Nat}{t u v z:Pt}{p:Nat->Pt}
def sg(f:Nat->Int)(k:Nat):Nat->Int
 | 0=>0
 | n+1=>sg f k n+f (k+n)
theorem Bv(f:Nat->Int)(k:Nat):∀ n,sg f k (n+1)=f k+sg f (k+1) n
 | 0=>by simp[sg]
 | n+1=>by rw[sg,Bv f k n,sg,show k+1+n=k+(n+1) by omega];omega
theorem QJ(f:Nat->Int)(hp:∀ i,f (i+n)=f i)(k:Nat):sg f (k+1) n=sg f k n:=by have b:=Bv f k n;have a:sg f k (n+1)=sg f k n+f (k+n):=rfl;rw[hp k]at a;omega
theorem QK(f:Nat->Int){n:Nat}(hp:∀ i,f (i+n)=f i):∀ k,sg f k n=sg f 0 n
 | 0=>rfl
 | k+1=>by rw[QJ f hp k,QK f hp k]
theorem IZ(h:Nat->Int)(k:Nat):∀ n,sg (λi=>h (i+1)-h i) k n=h (k+n)-h k
 | 0=>by simp[sg]
 | n+1=>by rw[sg,IZ h k n];show h (k+n)-h k+(h (k+n+1)-h (k+n))=_;rw[show k+(n+1)=k+n+1 by omega];omega
theorem vH{f g:Nat->Int}{k:Nat}:∀{n},(∀ i,k<=i->i<k+n->f i=g i)->sg f k n=sg g k n
 | 0,_=>rfl
 | n+1,h=>by rw[sg,sg,vH λi a b=>h i a (by omega),h (k+n) (by omega) (by omega)]
theorem LU(f g:Nat->Int)(k:Nat):∀ n,sg (λi=>f i-g i) k n=sg f k n-sg g k n
 | 0=>by simp[sg]
 | n+1=>by rw[sg,sg,sg,LU f g k n];omega
def lD(p:Nat->Pt)(n:Nat)(x:Pt):Int:=sg (λi=>cr x (p i) (p (i+1))) 0 n
structure Simp (p:Nat->Pt) (n:Nat):Prop where
 n3:3<=n
 per:∀ i,p (i+n)=p i
 far:∀ i m,2<=m->m+1<n->¬ meet (p i) (p (i+1)) (p (i+m)) (p (i+m+1))
 FK:∀ i,¬ on (p i) (p (i+1)) (p (i+2))
 FM:∀ i,¬ on (p (i+1)) (p (i+2)) (p i)
 hts:∀ i m,0<m->m<n->(p i).y≠(p (i+m)).y
def lam(t u v:Pt):Int:=if t.y<u.y/\u.y<v.y then 0 else if u.y<t.y/\v.y<u.y then -1 else if turn t u v<0 then -1 else 0
theorem QL(h:u.y<v.y)(b:t.y≠u.y)(c:u.y<t.y->turn t u v≠0):cr v t u-hit u v t=lam t u v:=by
 have a:turn u v t=turn t u v:=by rw[<- lU t u v]
 unfold cr hit lam;rw[a];generalize turn t u v=T at *
 repeat' split
 all_goals omega
theorem Tf(h:u.y<v.y)(_:z.y≠v.y):cr u v z-hit u v z=lam u v z:=by
 have a:turn v z u=turn u v z:=lU u v z;unfold cr hit lam;rw[a];generalize turn u v z=T at *
 repeat' split
 all_goals omega
theorem Kv(h:v.y<u.y)(b:t.y≠u.y)(c:t.y<u.y->turn t u v≠0):cr v t u+hit v u t=lam t u v+1:=by
 have a:turn v u t=- turn t u v:=by rw[iD u v t,<- lU t u v]
 unfold cr hit lam;rw[a];generalize turn t u v=T at *
 repeat' split
 all_goals omega
theorem OY(h:v.y<u.y)(c:z.y≠v.y)(d:v.y<z.y->turn u v z≠0):cr u v z+hit v u z=lam u v z+1:=by
 have b:turn v u z=- turn u v z:=iD u v z;have a:turn v z u=turn u v z:=lU u v z;unfold cr hit lam;rw[b,a];generalize turn u v z=T at *
 repeat' split
 all_goals omega
theorem QM(hp:∀ i,p (i+n)=p i)(x:Pt)(k:Nat):sg (λi=>cr x (p i) (p (i+1))) k n=lD p n x:=
 QK _ (λi=>by show cr x (p (i+n)) (p (i+n+1))=cr x (p i) (p (i+1));rw[hp i,show i+n+1=i+1+n by omega,hp (i+1)]) k
theorem wO(h:Simp p n)(x:Pt)(k:Nat):lD p n x=cr x (p k) (p (k+1))+cr x (p (k+1)) (p (k+2))+cr x (p (k+2)) (p (k+3))+sg (λi=>cr x (p i) (p (i+1))) (k+3) (n-3):=by rw[<- QM h.per x k];obtain⟨m,a⟩:∃ m,n=m+3:=⟨n-3,by have:=h.n3;omega⟩;subst a;rw[show m+3-3=m by omega,Bv,Bv,Bv];show cr x (p k) (p (k+1))+(cr x (p (k+1)) (p (k+2))+(cr x (p (k+2)) (p (k+3))+sg (λi=>cr x (p i) (p (i+1))) (k+3) m))=_;omega
theorem LV(a b:Pt):cr a a b=0:=by unfold cr;rw[FV];simp
theorem I4(a b:Pt):cr b a b=0:=by unfold cr;rw[Kt];simp
theorem yN{a b c d:Pt}:meet a b c d↔meet b a c d:=by
 unfold meet;rw[rU (a:=a) (b:=b),rU (a:=a) (b:=b) (p:=d),iD a b c,iD a b d];have f:-turn a b c*-turn a b d=turn a b c*turn a b d:=by grind
 have e:turn c d b*turn c d a=turn c d a*turn c d b:=Int.mul_comm _ _;rw[f,e];constructor<;>(rintro (h | h | h | h | h)<;>simp[h])
theorem Eb(h:Simp p n)(k:Nat){x:Pt}(a:x.y<z.y)(b:∀ i,k+3<=i->i<k+n->¬ meet x z (p i) (p (i+1))) :
    sg (λi=>cr x (p i) (p (i+1))) (k+3) (n-3)-sg (λi=>cr z (p i) (p (i+1))) (k+3) (n-3)=hit x z (p k)-hit x z (p (k+3)):=by
  have d:=h.n3;rw[<- LU];have:sg (λi=>cr x (p i) (p (i+1))-cr z (p i) (p (i+1))) (k+3) (n-3)=sg (λi=>hit x z (p (i+1))-hit x z (p i)) (k+3) (n-3):=by refine vH λi c e=>Bq a (h.hts i 1 (by omega) (by omega)) (b i c (by omega))
  rw[this,IZ (λi=>hit x z (p i)),show k+3+(n-3)=k+n by omega,h.per k]
theorem FX(h:Simp p n){k i:Nat}(b:k+3<=i)(a:i<k+n):¬ meet (p (k+1)) (p (k+2)) (p i) (p (i+1)):=by have:=h.far (k+1) (i-(k+1)) (by omega) (by omega);rw[show k+1+(i-(k+1))=i by omega]at this;exact this
theorem Bz(h:Simp p n)(k:Nat)(f:((p k).y<(p (k+1)).y/\(p (k+2)).y<(p (k+1)).y)\/((p (k+1)).y<(p k).y/\(p (k+1)).y<(p (k+2)).y)):turn (p k) (p (k+1)) (p (k+2))≠0:=by
 intro d;have g:=h.n3;have e:turn (p (k+1)) (p (k+2)) (p k)=0:=by rw[lU,d]
 have i:=h.hts k 2 (by omega) (by omega);rcases f with⟨a,b⟩ |⟨a,b⟩
 . by_cases c:(p k).y<(p (k+2)).y
   . exact h.FK k (vF d a (by omega) (by omega))
   . exact h.FM k (rU.1 (vF (by rw[iD,e];rfl) b (by omega) (by omega)))
 . by_cases c:(p k).y<(p (k+2)).y
   . exact h.FM k (vF e b (by omega) (by omega))
   . exact h.FK k (rU.1 (vF (by rw[iD,d];rfl) a (by omega) (by omega)))
def QN(p:Nat->Pt)(n k:Nat):Int:=lD p n (p (k+1))+lam (p k) (p (k+1)) (p (k+2))
theorem QO(h:Simp p n)(k:Nat):QN p n k=QN p n (k+1):=by
 have l:=h.n3;unfold QN;show lD p n (p (k+1))+lam (p k) (p (k+1)) (p (k+2))=lD p n (p (k+2))+lam (p (k+1)) (p (k+2)) (p (k+3));rw[wO h (p (k+1)) k,wO h (p (k+2)) k,I4,LV,I4,LV];have y1:=h.hts k 1 (by omega) (by omega);have y2:=h.hts (k+1) 1 (by omega) (by omega);have y3:=h.hts (k+2) 1 (by omega) (by omega);rcases Int.lt_or_gt_of_ne y2 with b | hd
 . have s:=Eb h k b λi d c=>FX h d c;have g:=QL b y1 (λa=>Bz h k (.inr ⟨a,b⟩));have f:=Tf b (z:=p (k+3)) (λe=>y3 e.symm);simp only[show k+1+1=k+2 by omega]at *;omega
 . have s:=Eb h k hd λi d c j=>FX h d c (yN.1 j);have g:=Kv hd y1 (λa=>Bz h k (.inl ⟨a,hd⟩));have f:=OY hd (z:=p (k+3)) (λe=>y3 e.symm) (λa=>Bz h (k+1) (.inr ⟨hd,a⟩));simp only[show k+1+1=k+2 by omega]at *;omega
theorem CQ{p:Nat->Pt}{n:Nat}(h:Simp p n):∀ k,QN p n k=QN p n 0
 | 0=>rfl
 | k+1=>by rw[<- QO h k,CQ h k]
theorem highest(p:Nat->Pt):∀ n,∃ i,i<=n/\∀ j,j<=n->(p j).y<=(p i).y
 | 0=>⟨0,Nat.le_refl _,λj a=>by rw[show j=0 by omega];exact Int.le_refl _⟩
 | n+1=>by
  obtain⟨i,c,b⟩:=highest p n;by_cases h:(p i).y<=(p (n+1)).y
  . refine⟨n+1,Nat.le_refl _,λj a=>?_⟩;by_cases e:j=n+1
    . rw[e];exact Int.le_refl _
    . have:=b j (by omega);omega
  . refine⟨i,by omega,λj a=>?_⟩;by_cases e:j=n+1
    . rw[e];omega
    . exact b j (by omega)
theorem I5(h:∀ i,p (i+n)=p i):∀ i,p i=p (i%n):=by
 intro i;have:∀ q r,p (r+n*q)=p r:=λq r=>by
  induction q with
  | zero=>rfl
  | succ q a=>rw[show r+n*(q+1)=r+n*q+n by rw[Nat.mul_succ];omega,h,a]
 have e:=this (i / n) (i%n);rw[Nat.mod_add_div]at e;exact e
theorem Ti(h:Simp p n):QN p n 0=0\/QN p n 0=-1:=by
 have l:=h.n3;obtain⟨i,o,g⟩:=highest p (n-1);have a:∀ j,(p j).y<=(p i).y:=λj=>by rw[I5 h.per j];exact g _ (by have:=Nat.mod_lt j (show 0<n by omega);omega)
 obtain⟨k,d⟩:∃ k,p (k+1)=p i:=⟨i+n-1,by rw[show i+n-1+1=i+n by omega,h.per]⟩;rw[<- CQ h k];have f:lD p n (p (k+1))=0:=by
  unfold lD;have:∀ m,sg (λj=>cr (p (k+1)) (p j) (p (j+1))) 0 m=0:=λm=>by
   induction m with
   | zero=>rfl
   | succ m e =>
    rw[sg,e];have c:=a m;have b:=a (m+1);rw[<- d]at c b;have:cr (p (k+1)) (p (0+m)) (p (0+m+1))=0:=by rw[Nat.zero_add];unfold cr;rw[if_neg (by omega),if_neg (by omega)]
    show 0+cr (p (k+1)) (p (0+m)) (p (0+m+1))=0;rw[this];rfl
  exact this n
 unfold QN;rw[f];have c:=a k;have b:=a (k+2);rw[<- d]at c b;have y1:=h.hts k 1 (by omega) (by omega);have y2:=h.hts (k+1) 1 (by omega) (by omega);simp only[show k+1+1=k+2 by omega]at y2;unfold lam;rw[if_neg (by omega),if_neg (by omega)];split<;>omega
end
section
variable {a b p q u v:Pt}
theorem vI(c:turn u v q=0):turn u v a*(q.y-u.y)=turn u q a*(v.y-u.y):=by
 have e:turn u v a*(q.y-u.y)=turn u q a*(v.y-u.y)+turn u v q*(a.y-u.y):=by unfold turn;grind
 rw[e,c];grind
theorem rV(a b u v q:Pt)(c:turn u v q=0):(q.y-u.y)*turn a b v=(v.y-u.y)*turn a b q-(v.y-q.y)*turn a b u:=by
 have e:(q.y-u.y)*turn a b v=(v.y-u.y)*turn a b q-(v.y-q.y)*turn a b u-turn u v q*(b.y-a.y):=by unfold turn;grind
 rw[e,c,Int.zero_mul,Int.sub_zero]
theorem Tj(c:turn u v q=0)(h:u.y<q.y/\q.y<v.y)(d:on u q a):on u v a:=by obtain⟨g,_,f⟩:=d;have e:=vI (a:=a) c;rw[g]at e;have:turn u v a=0:=Dy (b:=q.y-u.y) (by omega) (by rw[e];simp);unfold btw at f;exact vF this (by omega) (by omega) (by omega)
theorem QS(c:turn u v q=0)(h:v.y<q.y/\q.y<u.y)(d:on u q a):on u v a:=by
 obtain⟨g,_,f⟩:=d;have e:=vI (a:=a) c;rw[g]at e;have:turn u v a=0:=by
  have:=Dy (a:=turn u v a) (b:=u.y-q.y) (by omega) (by
   have:turn u v a*(u.y-q.y)=-(turn u v a*(q.y-u.y)):=by grind
   rw[this,e];simp)
  exact this
 unfold btw at f;exact rU.1 (vF (by rw[iD,this];rfl) (by omega) (by omega) (by omega))
def mid(u v q:Pt):Prop:=(u.y<q.y/\q.y<v.y)\/(v.y<q.y/\q.y<u.y)
theorem CS(c:turn u v q=0)(h:mid u v q)(d:on u q a):on u v a:=by
 rcases h with h | h
 . exact Tj c h d
 . exact QS c h d
theorem mG(h:turn a b p=0)(c:a.y≠b.y)(d:btw a.y b.y p.y):on a b p:=by
 unfold btw at d;rcases Int.lt_or_gt_of_ne c with k | k
 . exact vF h k (by omega) (by omega)
 . exact rU.1 (vF (by rw[iD,h];rfl) k (by omega) (by omega))
theorem NQ(d:a.y≠b.y)(h:turn a b p=0)(c:p.y=a.y):p=a:=by
 have e:(b.y-a.y)*(p.x-a.x)=0:=by have:turn a b p=(b.x-a.x)*(p.y-a.y)-(b.y-a.y)*(p.x-a.x):=rfl;rw[c]at this;simp at this;rw[h]at this;omega
 have:p.x=a.x:=by rcases Int.mul_eq_zero.1 e with e | e<;>omega
 cases p;cases a;simp_all
theorem FY(D:turn u v q=0)(i:mid u v q)(C:turn a b q=0)(n:mid a b q):meet u v a b:=by
 have g:u.y≠v.y:=by unfold mid at i;omega
 have l:a.y≠b.y:=by unfold mid at n;omega
 have j:=rV u v a b q C;have d:=rV a b u v q D;rw[D,Int.mul_zero,Int.zero_sub]at j;rw[C,Int.mul_zero,Int.zero_sub]at d;have f:∀{A B s t:Int},(0<s/\0<t)\/(s<0/\t<0)->s*B=-(t*A)->A≠0->A*B<0:=λ{A B s t} r F hA=>by
  rcases r with⟨w,o⟩ |⟨w,o⟩
  . rcases Int.lt_or_gt_of_ne hA with k | k
    . have m:=oU o k;exact jR k (iH w (by rw[Int.mul_comm];omega))
    . have m:=Int.mul_pos o k;exact oU k (dO w (by rw[Int.mul_comm];omega))
  . have E:(-s)*B=-((-t)*A):=by grind
    rcases Int.lt_or_gt_of_ne hA with k | k
    . have m:=oU (show 0 < -t by omega) k;exact jR k (iH (show 0 < -s by omega) (by rw[Int.mul_comm];omega))
    . have m:=Int.mul_pos (show 0 < -t by omega) k;exact oU k (dO (show 0 < -s by omega) (by rw[Int.mul_comm];omega))
 by_cases h:turn u v a=0
 . -- all on one line
   have z:turn u v b=0:=by
    rw[h,Int.mul_zero,Int.neg_zero]at j;rcases Int.mul_eq_zero.1 j with e | e
    . unfold mid at n;omega
    . exact e
   have c:turn a b u=0:=by
    have:(v.y-u.y)*turn a b u=turn u v a*(u.y-b.y)-turn u v b*(u.y-a.y):=OX u v a b;rw[h,z,Int.zero_mul,Int.zero_mul,Int.sub_zero]at this;rcases Int.mul_eq_zero.1 this with e | e
    . omega
    . exact e
   have x:turn a b v=0:=by
    rw[c,Int.mul_zero,Int.neg_zero]at d;rcases Int.mul_eq_zero.1 d with e | e
    . unfold mid at i;omega
    . exact e
   by_cases c1:btw u.y v.y a.y
   . exact .inl (mG h g c1)
   by_cases c2:btw u.y v.y b.y
   . exact .inr (.inl (mG z g c2))
   . refine .inr (.inr (.inl (mG c l ?_)));unfold btw mid at *;omega
 . by_cases c:turn a b u=0
   . exfalso;have x:turn a b v=0:=by
      rw[c,Int.mul_zero,Int.neg_zero]at d;rcases Int.mul_eq_zero.1 d with e | e
      . unfold mid at i;omega
      . exact e
     have:turn u v a*(b.y-a.y)=turn a b u*(a.y-v.y)-turn a b v*(a.y-u.y):=zJ a b u v;rw[c,x,Int.zero_mul,Int.zero_mul,Int.sub_zero]at this;rcases Int.mul_eq_zero.1 this with e | e
     . exact h e
     . omega
   . refine .inr (.inr (.inr (.inr ⟨f ?_ j h,f ?_ d c⟩)))
     . unfold mid at n;omega
     . unfold mid at i;omega
theorem OZ(d:turn u v q=0)(c:mid u v q)(f:a.y≠b.y)(h:meet u q a b):meet u v a b:=by
 rcases h with h | h | h | h |⟨s,i⟩
 . exact .inl (CS d c h)
 . exact .inr (.inl (CS d c h))
 . exact .inr (.inr (.inl h))
 . -- q is on the other edge
   by_cases l:q.y=a.y
   . have:=NQ f h.1 l;subst this;exact .inl (mG d (by unfold mid at c;omega) (by unfold mid at c;unfold btw;omega))
   by_cases j:q.y=b.y
   . have:=NQ (a:=b) (b:=a) (λe=>f e.symm) (by rw[iD,h.1];rfl) j;subst this;exact .inr (.inl (mG d (by unfold mid at c;omega) (by unfold mid at c;unfold btw;omega)))
   . refine FY d c h.1 ?_;have:=h.2.2;unfold btw at this;unfold mid;omega
 . have x:=vI (a:=a) d;have w:=vI (a:=b) d;have t:=rV a b u v q d;refine .inr (.inr (.inr (.inr ⟨?_,?_⟩)))
   . have k:(turn u v a*turn u v b)*((q.y-u.y)*(q.y-u.y))=(turn u q a*turn u q b)*((v.y-u.y)*(v.y-u.y)):=by grind
     have g:0<(q.y-u.y)*(q.y-u.y):=by
      rcases c with h | h
      . exact Int.mul_pos (by omega) (by omega)
      . exact Int.mul_pos_of_neg_of_neg (by omega) (by omega)
     have m:0<(v.y-u.y)*(v.y-u.y):=by
      rcases c with h | h
      . exact Int.mul_pos (by omega) (by omega)
      . exact Int.mul_pos_of_neg_of_neg (by omega) (by omega)
     exact dO g (by rw[k];exact jR s m)
   . -- (q-u)*(U*V)=(v-u)*(U*Q)-(v-q)*U*U
     have k:(turn a b u*turn a b v)*(q.y-u.y)=(v.y-u.y)*(turn a b u*turn a b q)-(v.y-q.y)*(turn a b u*turn a b u):=by grind
     have r:turn a b u≠0:=λe=>by rw[e]at i;simp at i
     have g:0<turn a b u*turn a b u:=by
      rcases Int.lt_or_gt_of_ne r with h | h
      . exact Int.mul_pos_of_neg_of_neg h h
      . exact Int.mul_pos h h
     rcases c with h | h
     . have o:=oU (show 0<v.y-u.y by omega) i;have n:=Int.mul_pos (show 0<v.y-q.y by omega) g;exact dO (show 0<q.y-u.y by omega) (by omega)
     . have o:=Int.mul_pos_of_neg_of_neg (show v.y-u.y<0 by omega) i;have n:=jR (show v.y-q.y<0 by omega) g;refine dO (show 0<u.y-q.y by omega) ?_;have:turn a b u*turn a b v*(u.y-q.y)=-(turn a b u*turn a b v*(q.y-u.y)):=by grind
       omega
end
section
variable {p:Nat->Pt}{n:Nat}{q t u v:Pt}
theorem FZ(h:Simp p n)(k:Nat)(a:turn (p k) (p (k+1)) q=0)(d:mid (p k) (p (k+1)) q):¬ meet (p k) q (p (k+1)) (p (k+2)):=by
 have j:=h.n3;have y1:=h.hts k 1 (by omega) (by omega);have y2:=h.hts (k+1) 1 (by omega) (by omega);have y3:=h.hts k 2 (by omega) (by omega);simp only[show k+1+1=k+2 by omega]at y2;have g:=h.FK k;have f:=h.FM k;generalize p k=u at *;generalize p (k+1)=v at *;generalize p (k+2)=z at *;rintro (c | c | c | c |⟨c,_⟩)
 . obtain⟨_,_,c⟩:=c;unfold mid at d;unfold btw at c;omega
 . exact g (CS a d c)
 . exact f c
 . -- q on the next edge
   have e:=rV u v v z q c.1;rw[Kt,Int.mul_zero,Int.sub_zero,a,Int.mul_zero]at e;have i:turn u v z=0:=by
    rcases Int.mul_eq_zero.1 e with e | e
    . unfold mid at d;omega
    . exact e
   have c2:=c.2.2;by_cases b:btw u.y v.y z.y
   . exact g (mG i y1 b)
   . refine f (mG (by rw[lU,i]) y2 ?_);unfold btw mid at *;omega
 . have:turn u q v=0:=by rw[FU,a];rfl
   rw[this,Int.zero_mul]at c;omega
theorem QT{x z b:Pt}(h:turn x z v=0):hit x z v=0:=by have _:=b;unfold hit;rw[if_neg (by omega)]
theorem QU(i:turn u v q=0)(c:mid u v q):lam t u q=lam t u v:=by
 have e:=vI (a:=t) i;have l:turn t u q=turn u q t:=by rw[<- lU t u q]
 have j:turn t u v=turn u v t:=by rw[<- lU t u v]
 unfold lam;rw[l,j];have b:turn u q t<0↔turn u v t<0:=by
  rcases c with h | h
  . constructor
    . intro k;exact dO (show 0<q.y-u.y by omega) (by rw[e];exact jR k (by omega))
    . intro k;exact dO (show 0<v.y-u.y by omega) (by rw[<- e];exact jR k (by omega))
  . have d:turn u v t*(u.y-q.y)=turn u q t*(u.y-v.y):=by grind
    constructor
    . intro k;exact dO (show 0<u.y-q.y by omega) (by rw[d];exact jR k (by omega))
    . intro k;exact dO (show 0<u.y-v.y by omega) (by rw[<- d];exact jR k (by omega))
 have g:(u.y<q.y)↔(u.y<v.y):=by unfold mid at c;omega
 have f:(q.y<u.y)↔(v.y<u.y):=by unfold mid at c;omega
 simp only[b,g,f]
theorem O1(b:turn u v q=0)(c:mid u v q)(h:turn t u v≠0):turn t u q≠0:=by
 intro k;have e:=vI (a:=t) b;have f:turn t u q=turn u q t:=by rw[<- lU t u q]
 have d:turn t u v=turn u v t:=by rw[<- lU t u v]
 rw[<- f,<- d,k,Int.zero_mul]at e;rcases Int.mul_eq_zero.1 e with e | e
 . exact h e
 . unfold mid at c;omega
theorem O3(h:Simp p n)(k:Nat)(c:turn (p (k+1)) (p (k+2)) q=0)(d:mid (p (k+1)) (p (k+2)) q) :
    lD p n q=QN p n 0+if(p (k+1)).y<(p (k+2)).y then 0 else 1:=by
  have B:=h.n3;rw[<- CQ h k];unfold QN;rw[wO h (p (k+1)) k,wO h q k,I4,LV];have y1:=h.hts k 1 (by omega) (by omega);have y2:=h.hts (k+1) 1 (by omega) (by omega);have y3:=h.hts (k+2) 1 (by omega) (by omega);have o:∀ x z,turn x z (p (k+2))=0->hit x z (p (k+2))=0:=λx z e=>QT (b:=x) e;have C:cr q (p (k+1)) (p (k+2))=0:=by unfold cr;rw[c];simp
  have A:=QU (t:=p k) c d;have l:((p k).y<(p (k+1)).y/\(p (k+2)).y<(p (k+1)).y)\/((p (k+1)).y<(p k).y/\(p (k+1)).y<(p (k+2)).y)->turn (p k) (p (k+1)) q≠0:=λa=>O1 c d (Bz h k a);have r:∀ i,k+3<=i->i<k+n->¬ meet (p (k+1)) q (p i) (p (i+1)):=λi j g a=>FX h j g (OZ c d (h.hts i 1 (by omega) (by omega)) a);have m:=FZ h (k+1) (q:=q) c d;simp only[show k+1+1=k+2 by omega,show k+1+2=k+3 by omega]at *;rcases d with f | hd
  . rw[if_pos (show(p (k+1)).y<(p (k+2)).y by omega)];have s:=Eb h k f.1 r;have s2:=Bq f.1 y3 m;have w:=QL f.1 y1 (λa=>l (.inr ⟨a,by omega⟩));have z:=o (p (k+1)) q (by rw[FU,c];rfl);omega
  . rw[if_neg (show ¬(p (k+1)).y<(p (k+2)).y by omega)];have s:=Eb h k hd.2 λi j g a=>r i j g (yN.1 a);have s2:=Bq hd.2 y3 λa=>m (yN.1 a);have w:=Kv hd.2 y1 (λa=>l (.inl ⟨a,by omega⟩));have z:=o q (p (k+1)) (by rw[<- lU q,c]);omega
end
end Go.Skm.Fen
