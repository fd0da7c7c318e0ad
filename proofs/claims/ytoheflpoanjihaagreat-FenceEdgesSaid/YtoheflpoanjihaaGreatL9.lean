import Derived.Test.YtoheflpoanjihaaGreatJ7
import Derived.Test.YtoheflpoanjihaaGreatG19
import Derived.Test.YtoheflpoanjihaaGreatL5
set_option linter.all false
namespace Go.Skm.Fen
open Go Go.Skm
section
open Go.Skm.Dig
variable {l:List V3}{k:Nat}
def pq(l:List V3)(k:Nat):List V3:=gt l 0::(l.drop (k+1)).reverse
theorem OV(l:List V3):pq l 0=Dq l:=by unfold pq Dq;rw[List.drop_one]
theorem Hu:(pq l k).length=1+(l.length-(k+1)):=by unfold pq;simp;omega
theorem LQ(h:k+1<l.length):pq l k=pq l (k+1)++[gt l (k+1)]:=by unfold pq;simp_all
def Bh:Nat->List (List V3)->List kX
 | _,[]=>[]
 | i,l::r=>dL (orient (decide (i=0)) l)++Bh (i+1) r
theorem Dx:∀(a:List (List V3)) (i:Nat),Bh (i+1) a=zD a
 |[],_=>rfl
 | h::r,i=>by show _=dL (orient false h)++zD r;rw[Bh,Dx r (i+1),decide_eq_false (by omega)]
abbrev w30:List Wy:=[.lp [1,1,1,0,1,0]]
abbrev U0:List Wy:=[.lp [1,1,1,0,1,0],.lp [1,0,0,1,0,1,0,1,0,1,0]]
section
variable (X:Ext) (hX:Mine X)
include hX
theorem l30b(l:List V3)(n:l.length<=64)(o b a g:Nat)(i:Int)(c h:List PV)(x:List AV × List Blk)(m:L tab (run tab X) 30 [] U0 (fB o b a g i (encL l) 0 (pq l 0).length 0 c h (encL (pq l 0)))=some x):∀ k:Nat,k<l.length ->
    L tab (run tab X) 30 [] U0 (fB o b a g i (encL l) 0 (pq l k).length (k:Int) c h (encL (pq l k)))=some x:=by
  have _:=hX;intro k;induction k with
  | zero=>intro _;exact m
  | succ k j =>
   intro f;have d:=j (by omega);have q:=@Hu l (k+1);have p:=@Hu l k;refine L_of ?_;show R tab _ _ _ [.lp [1,1,1,0,1,0],.lp [1,0,0,1,0,1,0,1,0,1,0]] _=_;rw[oQ,show gtI ((k+1:Nat):Int) 0=true from decide_eq_true (by omega),qCt,encL_length,rng f,qCt,show leN ((pq l (k+1)).length+1) 2147483648=true from decide_eq_true (by omega),qCt,wrap_eq (by omega) (by omega),show((k+1:Nat):Int)-1=(k:Int) by omega,qIt,encL_x,encL_y,encL_z,qLy,List.take_of_length_le (by rw[encL_length];exact qNr _),show(pq l (k+1)).length+1=(pq l k).length by omega];have e:encL (pq l k)=encL (pq l (k+1))++[encV (gt l (k+1))]:=by rw[LQ f];simp[encL]
   rw[e]at d;exact d
theorem l30(P:List (List V3))(A:∀ l∈P,dM l=true)(C:P.length<=17):∀(r:List (List V3)) (i:Nat) (acc:List kX),P.drop i=r->i<=P.length->acc.length<=64*i ->
    L tab (run tab X) 30 [] w30 (pK 0 acc.length 0 P.length (i:Int) (acc.map J8) (bI P))=some ([.fresh true kE ((acc++Bh i r).map J8)],[]):=by
  intro r;induction r with
  | nil =>intro i acc hd c _;have m:i=P.length:=Nat.le_antisymm c (List.drop_eq_nil_iff.1 hd);subst m;refine L_of ?_;rw[EN,y8 (by omega),qCf,qLy,List.take_of_length_le (by rw[qLm];exact qNr _),Bh,List.append_nil]
  | cons l r w =>
   intro i acc hd _ t;have n:P[i]?=some l:=by have:=congrArg (·[0]?) hd;grind
   have c:=(qLa.1 n).1;have y:gh P i=l:=by simp[gh,List.getD,n]
   have s:=A l (qLe n);obtain⟨B,u,_⟩:=gI s;have f:∀ b,(orient b l).length=l.length:=λb=>Fg (by omega);have a:∀ b,(dL (orient b l)).length=l.length:=λb=>by rw[jg,f]
   have o:=w (i+1) (acc++dL (orient (decide (i=0)) l)) (by rw[<- List.drop_drop,hd];rfl) c (by rw[qLp,a];omega);rw[qLp,a,List.map_append,List.append_assoc]at o;have j:=UZ X hX s;have d:=c44 X hX (orient (decide (i=0)) l) (by rw[f];omega);rw[wL]at d;have g:(run tab X 44 [.p (.list true kV3 (encL (orient (decide (i=0)) l)))] []).bind (λh=>bif leN (acc.length+(h.1.headD .undef).freshList.length) 2147483648 then L tab (run tab X) 30 [] w30 (pK 0 (acc.length+(h.1.headD .undef).freshList.length) 0 P.length ((i+1:Nat):Int) ((((acc.map J8).drop 0).take acc.length)++((((h.1.headD .undef).freshList).drop 0).take (h.1.headD .undef).freshList.length)) (bI P))else none)=some ([.fresh true kE ((acc++Bh i (l::r)).map J8)],[]):=by rw[d,qOb];simp only[qLh,AV.freshList,qLm,a];rw[show leN (acc.length+l.length) 2147483648=true from decide_eq_true (by omega),qCt,qLy,qLy,List.take_of_length_le (by rw[qLm];exact qNr _),List.take_of_length_le (by rw[qLm,a];exact qNr _),o,Bh]
   have x:((i:Int)==0)=decide (i=0):=by grind
   have e:orient (decide (i=0)) l=if gtI (kG l) 0==((i:Int)==0)then l else Dq l:=by rw[x];rfl
   refine L_of ?_;rw[EN,rM c,qCt];simp only[rng c,qCt,qIt,qNz,gJ P c,y,dZ (show i<=9000000000000000000 by omega)];show(run tab X 54 [.p (.list true kV3 (encL l))] []).bind _=_;rw[j,qOb];simp only[qLh,pv_p,toInt_int];cases z:(gtI (kG l) 0==((i:Int)==0))with
   | true=>simp_all
   | false =>
    rw[z,if_neg Bool.false_ne_true]at e;rw[e]at g;have v:pq l (l.length-1)=[gt l 0]:=by unfold pq;rw[List.drop_eq_nil_iff.2 (by omega)];rfl
    have q:=l30b X hX l u 0 acc.length 0 P.length (i:Int) (acc.map J8) (bI P) _ (L_of (show R tab (run tab X) 30 [] [.lp [1,1,1,0,1,0],.lp [1,0,0,1,0,1,0,1,0,1,0]] _=_ by rw[oQ,show gtI 0 0=false from rfl,qCf,qLy,List.take_of_length_le (by rw[encL_length];exact qNr _),OV,dZ (show i<=9000000000000000000 by omega)];exact g)) (l.length-1) (by omega);rw[v]at q;rw[qBf,qCt];show(bif ltI 0 (((encL l).length:Nat):Int)then L tab (run tab X) 30 [] U0 (fB 0 acc.length 0 P.length (i:Int) (encL l) 0 1 (IntKind.i64.wrap ((((encL l).length:Nat):Int)-1)) (acc.map J8) (bI P) [.agg [.int .i64 ((((encL l).getD 0 .nil).cell 0).toInt),.int .i64 ((((encL l).getD 0 .nil).cell 1).toInt),.int .i64 ((((encL l).getD 0 .nil).cell 2).toInt)]])else none)=_;rw[encL_length,show ltI 0 ((l.length:Nat):Int)=true from decide_eq_true (by omega),qCt,wrap_eq (by omega) (by omega),show((l.length:Nat):Int)-1=((l.length-1:Nat):Int) by omega,encL_x,encL_y,encL_z];exact q
theorem c30(f:Fen)(h:validP f=true):run tab X 30 [.p (encF f)] []=some ([.fresh true kE ((iP f).map J8)],[]):=
 run_of (hX _ rfl) (by
  obtain⟨c,b⟩:=kD h;have d:=(ou h).2.1;have k:=l30 X hX (f.outer::f.holes) (λl a=>(List.mem_cons.1 a).elim (λe=>e▸c) (b l)) (by rw[qLl];omega) _ 0 [] rfl (Nat.zero_le _) (Nat.zero_le _);have e:Bh 0 (f.outer::f.holes)=iP f:=by show _++Bh (0+1) f.holes=_;rw[Dx];rfl
  rw[List.nil_append,qLy,e]at k;rw[encF,e30,bG,show leN (1+f.holes.length) 2147483648=true from decide_eq_true (by omega),qCt,Nat.add_comm];exact k)
end
end
section
abbrev w8:List Wy:=[.lp [1,1,1,1,1,1,0,1,0]]
abbrev Zk(ys:List PV):List Wy:=[.lp [1,1,1,1,1,1,0,1,0],.rg [1,0,0,1,0,1,0] [(true,kV3),(true,kV3)] ys]
abbrev S8(f:Fen)(many:Int)(es:List kX)(t:Int):St:=gK (encL f.outer) (bI f.holes) f.low f.high many false 0 es.length (es.map J8) t
abbrev S8r(f:Fen)(many:Int)(es:List kX)(t k:Int):St:=gG (encL f.outer) (bI f.holes) f.low f.high (encL f.outer) (bI f.holes) f.low f.high many false 0 es.length (es.map J8) t k
section
variable (X:Ext) (hX:Mine X)
include hX
theorem l8a(f:Fen)(a:Int)(es:List kX)(d:es.length<=2000)(x:List AV × List Blk)(h:L tab (run tab X) 8 [] w8 (S8 f a es 1)=some x):∀(r:List kX) (k:Nat),es.drop k=r->k<=es.length->(k=0\/(k:Int)<a) ->
    L tab (run tab X) 8 [] (Zk (r.map eY)) (S8r f a es 0 (k:Int))=some x:=by
  have _:=hX;intro r;induction r with
  | nil =>
   intro k hd n l;have m:k=es.length:=Nat.le_antisymm n (List.drop_eq_nil_iff.1 hd);rw[List.map_nil,nC];have e:((k:Int) != goMin (es.length:Int) (goMax 1 a))=false:=by
    have:(k:Int)=goMin (es.length:Int) (goMax 1 a):=by unfold goMin goMax;split<;>split<;>omega
    rw[<- this];exact bne_self_eq_false _
   rw[e];exact h
  | cons e r j =>
   intro k hd _ l;obtain⟨o,g,b,_⟩:=Bg hd;have i:=j (k+1) b g;rw[List.map_cons];show L tab (run tab X) 8 [] (Zk (.agg [.agg [.int .i64 e.1.x,.int .i64 e.1.y,.int .i64 e.1.z],.agg [.int .i64 e.2.x,.int .i64 e.2.y,.int .i64 e.2.z]]::r.map eY)) _=_;rw[mP,show geI (k:Int) ((es.length:Nat):Int)=false from decide_eq_false (by omega),qCf];simp only[rng g,qCt,qIt,qNz,o,AY,AZ,A8,Ba,Bc,Bf,beq_self_eq_true,qBs,qBt,qCf,dZ (show k<=9000000000000000000 by omega)];by_cases c:a<=((k+1:Nat):Int)
   . have p:(((k+1:Nat):Int) != goMin (es.length:Int) (goMax 1 a))=false:=by
       have:((k+1:Nat):Int)=goMin (es.length:Int) (goMax 1 a):=by unfold goMin goMax;split<;>split<;>omega
       rw[<- this];exact bne_self_eq_false _
     rw[show geI ((k+1:Nat):Int) a=true from decide_eq_true c,qCt,p];exact h
   . rw[show geI ((k+1:Nat):Int) a=false from decide_eq_false c,qCf];exact i (.inr (by omega))
theorem l8b(f:Fen)(a:Int)(es:List kX)(d:es.length<=2000)(x:List AV × List Blk)(m:L tab (run tab X) 8 [] w8 (S8 f a es 2)=some x):∀(r:List kX) (k:Nat),es.drop k=r->k<=es.length ->
    L tab (run tab X) 8 [] (Zk (r.map eY)) (S8r f a es 1 (k:Int))=some x:=by
  have _:=hX;intro r;induction r with
  | nil =>intro k hd j;have b:k=es.length:=Nat.le_antisymm j (List.drop_eq_nil_iff.1 hd);rw[List.map_nil,nC,b,bne_self_eq_false];exact m
  | cons e r i =>intro k hd _;obtain⟨l,g,c,_⟩:=Bg hd;have h:=i (k+1) c g;rw[List.map_cons];show L tab (run tab X) 8 [] (Zk (.agg [.agg [.int .i64 e.1.x,.int .i64 e.1.y,.int .i64 e.1.z],.agg [.int .i64 e.2.x,.int .i64 e.2.y,.int .i64 e.2.z]]::r.map eY)) _=_;rw[mP,show geI (k:Int) ((es.length:Nat):Int)=false from decide_eq_false (by omega),qCf];simp only[rng g,qCt,qIt,qNz,l,AY,AZ,A8,Ba,Bc,Bf,beq_self_eq_true,qBs,qBt,qCf,dZ (show k<=9000000000000000000 by omega)];exact h
variable (hB:Bits X) (hE:zl X) (hS:Sorts X)
include hB hE hS
theorem l8(f:Fen)(h:nO f)(d:validP f=true)(a:Int):L tab (run tab X) 8 [] w8 (S8 f a (iP f) 0)=some ([.p (.bool true)],[]):=by have b:=hE.e f h;have c:=c11 X hX hB hE hS;have g:=Fh d;unfold lG at b;rw[if_pos d]at b;have i:L tab (run tab X) 8 [] w8 (S8 f a (iP f) 2)=some ([.p (.bool true)],[]):=L_of (by rw[wz,show ltI 2 2=false from rfl,qCf,c];rfl);have j:L tab (run tab X) 8 [] w8 (S8 f a (iP f) 1)=some ([.p (.bool true)],[]):=L_of (by rw[wz,show ltI 1 2=true from rfl,qCt,b,qOb];exact l8b X hX f a _ g _ i _ 0 rfl (Nat.zero_le _));refine L_of ?_;rw[wz,show ltI 0 2=true from rfl,qCt,b,qOb];exact l8a X hX f a _ g _ j _ 0 rfl (Nat.zero_le _) (.inl rfl)
abbrev T8(f:Fen)(many t:Int):St:=iG (encL f.outer) (bI f.holes) f.low f.high many false t
theorem l8n(f:Fen)(d:nO f)(g:validP f=false)(a:Int):L tab (run tab X) 8 [] w8 (T8 f a 0)=some ([.p (.bool true)],[]):=by
 have b:=hE.e f d;have c:=c11 X hX hB hE hS;unfold lG at b;rw[g,if_neg Bool.false_ne_true,List.map_nil]at b;have h:L tab (run tab X) 8 [] w8 (T8 f a 2)=some ([.p (.bool true)],[]):=L_of (by rw[qO,show ltI 2 2=false from rfl,qCf,c];rfl);have i:L tab (run tab X) 8 [] w8 (T8 f a 1)=some ([.p (.bool true)],[]):=L_of (by rw[qO,show ltI 1 2=true from rfl,qCt,b,qOb];show L tab (run tab X) 8 [] [.lp [1,1,1,1,1,1,0,1,0],.rg [1,0,0,1,0,1,0] [(true,kV3),(true,kV3)] []] _=_;rw[kZ];exact h);refine L_of ?_;rw[qO,show ltI 0 2=true from rfl,qCt,b,qOb];show L tab (run tab X) 8 [] [.lp [1,1,1,1,1,1,0,1,0],.rg [1,0,0,1,0,1,0] [(true,kV3),(true,kV3)] []] _=_;have e:((0:Int) != goMin 0 (goMax 1 a))=false:=by
  have:(0:Int)=goMin 0 (goMax 1 a):=by unfold goMin goMax;split<;>split<;>omega
  rw[<- this];rfl
 rw[kZ,e];exact i
theorem aax(f:Fen)(k:Oa f)(a:Int):run tab X 8 [.p (encF f),.p (.int .i64 a)] []=some ([.p (.bool true)],[]):=
 run_of (hX _ rfl) (by
  have j:=c11 X hX hB hE hS;have h:=c15 X hX f k;have e:=c31 X hX f;rw[encF]at h e ⊢;rw[e8,h,qOb];simp only[qLh,pv_p,toBool_bool];cases i:zI f with
  | false=>rw[qBf,qCt,j];rfl
  | true =>
   obtain⟨c,_⟩:=uG i;have g:=c17 X hX f c;rw[vG]at g;rw[encF]at g;rw[qBt,qCf,g,qOb];simp only[qLh,pv_p,toBool_bool];cases d:validP f with
   | false =>rw[qCf,e,qOb];exact l8n X hX hB hE hS f c d a
   | true =>have b:=c30 X hX f d;rw[encF]at b;rw[qCt,b,qOb,e,qOb];simp only[qLh,AV.freshList,qLm];exact l8 X hX hB hE hS f c d a)
end
end
end Go.Skm.Fen
