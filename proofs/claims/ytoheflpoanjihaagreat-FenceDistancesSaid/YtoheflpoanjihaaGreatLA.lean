import Derived.Test.YtoheflpoanjihaaGreatG24
import Derived.Test.YtoheflpoanjihaaGreatK4
import Derived.Test.YtoheflpoanjihaaGreatEqv4
import Derived.Test.YtoheflpoanjihaaGreatG15
import Derived.Test.YtoheflpoanjihaaGreatSkmE
import Derived.Test.YtoheflpoanjihaaGreatJ7
set_option linter.all false
namespace Go.Skm.Fen
open Go Go.Skm
section
def Bv:List Int->List V3
 | x::y::r=>⟨x,y,0⟩::Bv r
 | _=>[]
def encI(l:List Int):List PV:=l.map λn=>.int .i64 n
theorem I9(l:List Int){i:Nat}(h:i<l.length):(encI l).getD i .nil=.int .i64 (l.getD i 0):=by rw[encI,qLb,List.getElem?_map,qLd h];simp[qLb,qLd h]
theorem yD(l:List V3):((encL l).drop 0).take (encL l).length=encL l:=by rw[qLy,List.take_length]
def L6(p:V3):Rt->List ku->Rt
 | b,[]=>b
 | b,e::r=>L6 p (if(dist e.1 e.2 p).n*b.d-b.n*(dist e.1 e.2 p).d<0 then dist e.1 e.2 p else b) r
theorem G8{p:V3}(hp:je p):∀{c:List ku} {b:Rt},b.ok->(∀ e∈c,je e.1/\je e.2)->jB p b c=L6 p b c
 |[],_,_,_=>rfl
 | e::r,b,hb,he=>by
  have hd:=zq (he e (by simp)).1 (he e (by simp)).2 hp;unfold jB L6;by_cases h:(dist e.1 e.2 p).n*b.d-b.n*(dist e.1 e.2 p).d<0
  . rw[if_pos (.inr h),if_pos h];exact G8 hp hd λf a=>he f (by simp[a])
  . rw[if_neg (by rintro (h' | h')<;>contradiction),if_neg h];exact G8 hp hb λf a=>he f (by simp[a])
def FN(p:V3):List ku->Rt
 |[]=>⟨0,0⟩
 | e::r=>L6 p (dist e.1 e.2 p) r
theorem J6{p:V3}(hp:je p){a:List ku}(c:∀ e∈a,je e.1/\je e.2):jB p ⟨0,0⟩ a=FN p a:=by
 cases a with
 | nil=>rfl
 | cons e r =>unfold jB FN;have d:¬(⟨0,0⟩:Rt).ok:=λh=>absurd h.2.2 (by decide);rw[if_pos (.inl d)];exact G8 hp (zq (c e (by simp)).1 (c e (by simp)).2 hp) λf b=>c f (by simp[b])
section
variable (X:Ext) (hX:Mine X)
include hX
theorem c14(x y z:Int):run tab X 14 [.p (.int .i64 x),.p (.int .i64 y),.p (.int .i64 z)] []=some ([.p (encV ⟨x,y,z⟩)],[]):=run_of (hX _ rfl) (by rw[e14];rfl)
theorem l37(n:List Int)(h:n.length<=1000000):∀(r:List Int) (i:Nat) (a:List V3),n.drop i=r->i<=n.length->a.length<=i ->
    L tab (run tab X) 37 [] [.lp [1,1,0,1,0]] (S37_11010 (encI n) 0 a.length (i:Int) (encL a))=some ([.fresh true kV3 (encL (a++Bv r))],[])
  |[],i,a,hr,hi,ho=>by
   have _:=hX;have d:n.length<=i:=List.drop_eq_nil_iff.1 hr;have b:(encI n).length=n.length:=by simp[encI]
   refine L_of ?_;rw[e37_11010,fH (by omega),b,yL (by omega),qCf,show Bv []=[] from rfl,List.append_nil,show a.length=(encL a).length by simp[encL],yD]
  |[x],i,a,hr,hi,ho=>by
   have d:n.length=i+1:=by have:=congrArg List.length hr;simp at this;omega
   have b:(encI n).length=n.length:=by simp[encI]
   refine L_of ?_;rw[e37_11010,fH (by omega),b,yL (by omega),qCf,show Bv [x]=[] from rfl,List.append_nil,show a.length=(encL a).length by simp[encL],yD]
  | x::y::r,i,a,hr,hi,ho=>by
   have d:i+2<=n.length:=by have:=congrArg List.length hr;simp at this;omega
   have b:(encI n).length=n.length:=by simp[encI]
   have k:n.getD i 0=x:=by rw[qLb,<- List.head?_drop,hr];rfl
   have e:n.drop (i+1)=y::r:=by rw[<- List.tail_drop,hr];rfl
   have f:n.drop (i+2)=r:=by rw[show i+2=i+1+1 from rfl,<- List.tail_drop,e];rfl
   have j:n.getD (i+1) 0=y:=by rw[qLb,<- List.head?_drop,e];rfl
   have g:IntKind.i64.wrap ((i:Int)+2)=((i+2:Nat):Int):=by rw[wrap_eq (by omega) (by omega)];omega
   refine L_of ?_;rw[e37_11010,fH (by omega),b,sG (by omega),qCt,rng (by omega),qCt,le0,qBs,qCt,show leN (a.length+1) 2147483648=true from decide_eq_true (by omega),qCt,g];rw[qIt,qIt,I9 n (show i<n.length by omega),I9 n (show i+1<n.length by omega),k,j];have c:=l37 n h r (i+2) (a++[⟨x,y,0⟩]) f (by omega) (by simp;omega);rw[qLp,List.length_singleton]at c;have m:((encL a).drop 0).take a.length=encL a:=by rw[show a.length=(encL a).length by simp[encL],yD]
   rw[m,Bv,show a++⟨x,y,0⟩::Bv r=a++[⟨x,y,0⟩]++Bv r by simp];have l:encL (a++[⟨x,y,0⟩])=encL a++[.agg [.int .i64 x,.int .i64 y,.int .i64 0]]:=by simp[encL,encV]
   rw[l]at c;exact c
theorem c37(n:List Int)(a:n.length<=1000000):run tab X 37 [.p (.list false [.int .i64] (encI n))] []=some ([.fresh true kV3 (encL (Bv n))],[]):=
 run_of (hX _ rfl) (by rw[e37];exact l37 X hX n a n 0 [] rfl (by omega) (by simp))
variable (hB:Bits X)
include hB
theorem c27(n d:Int)(c:-9223372036854775808<=n/\n<=9223372036854775807)(a:-9223372036854775808<=d/\d<=9223372036854775807):run tab X 27 [.p (.int .i64 n),.p (.int .i64 d)] []=some ([.p (eR n d)],[]):=
 run_of (hX _ rfl) (by
  have _:=hB;have e:∀ z:Int,-9223372036854775808<=z/\z<=9223372036854775807->fQ z 1000000:=λz f=>by unfold fQ;exact Nat.le_trans (Dig.kG (b:=B9) (k:=3) (by decide) (Nat.lt_of_lt_of_le (show _<1000000000000000000000000000 by omega) (by decide))) (by decide)
  rw[e27,c71 X hX n c.1 c.2,qOb];simp only[qLh,pv_p,dF];rw[c70 X hX n (e n c),qOb,c71 X hX d a.1 a.2,qOb];simp only[qLh,pv_p,dF];rw[c70 X hX d (e d a),qOb];rfl)
end
end
section
def kO:List V3:=[⟨0,0,0⟩,⟨10,0,0⟩,⟨10,10,0⟩,⟨0,10,0⟩]
def kH:List V3:=[⟨4,4,0⟩,⟨4,6,0⟩,⟨6,6,0⟩,⟨6,4,0⟩]
def kF:Fen:=⟨kO,[kH],1,5⟩
theorem kn1:dG [⟨0,0,0⟩,⟨2,0,0⟩,⟨0,2,0⟩,⟨2,2,0⟩]=false:=by decide +kernel
theorem kn2:dG [⟨0,0,0⟩,⟨1,0,0⟩,⟨2,0,0⟩]=false:=by decide +kernel
theorem kn3:dG [⟨0,0,0⟩,⟨1,0,0⟩,⟨2,0,0⟩,⟨0,2,0⟩]=true:=by decide +kernel
theorem UQ:validP kF=true:=by decide +kernel
theorem knA:GV kF=(192,0):=by decide +kernel
theorem aau:JY kF ⟨4,5,3⟩=(true,0):=by decide +kernel
theorem aav:JY kF ⟨10,10,5⟩=(true,0):=by decide +kernel
theorem aaw:JY kF ⟨5,5,3⟩=(false,0):=by decide +kernel
theorem aax:JY kF ⟨2,2,6⟩=(false,0):=by decide +kernel
theorem aay:IU kF ⟨9,2⟩ ⟨9,2⟩ ⟨3,1⟩=false:=by decide +kernel
theorem aaz:IU kF ⟨9,2⟩ ⟨4,1⟩ ⟨3,1⟩=true:=by decide +kernel
theorem aaA:Aw kF ⟨1,1,2⟩ ⟨9,1,4⟩=(true,0):=by decide +kernel
theorem aaB:Aw kF ⟨1,5,2⟩ ⟨9,5,2⟩=(false,0):=by decide +kernel
theorem aaC:Aw kF ⟨4,0,1⟩ ⟨4,10,1⟩=(true,0):=by decide +kernel
theorem aaD:Aw kF ⟨3,3,3⟩ ⟨7,7,3⟩=(false,0):=by decide +kernel
theorem knE:dS kF=[(⟨0,0,0⟩,⟨10,0,0⟩),(⟨10,0,0⟩,⟨10,10,0⟩),(⟨10,10,0⟩,⟨0,10,0⟩),(⟨0,10,0⟩,⟨0,0,0⟩),(⟨4,4,0⟩,⟨4,6,0⟩),(⟨4,6,0⟩,⟨6,6,0⟩),(⟨6,6,0⟩,⟨6,4,0⟩),(⟨6,4,0⟩,⟨4,4,0⟩)]:=by decide +kernel
theorem aaE:FN ⟨3,3,0⟩ (dS kF)=⟨2,1⟩:=by decide +kernel
theorem aaF:FN ⟨20,5,0⟩ (dS kF)=⟨100,1⟩:=by decide +kernel
theorem aaG:FN ⟨5,5,0⟩ (dS kF)=⟨1,1⟩:=by decide +kernel
end
section
variable {d n:Int}
theorem lH:qW kF:=⟨by decide,by decide,by decide⟩
theorem FP(a:n.natAbs<aX)(hd:d.natAbs<aX)(h:0<d):(⟨n,d⟩:Rt).ok:=⟨o9 a,o9 hd,h⟩
theorem wK(a:n.natAbs<aX)(hd:d.natAbs<aX):qp ⟨n,d⟩=false:=by have c:bl n.natAbs<=64:=zk a;have b:bl d.natAbs<=64:=zk hd;exact decide_eq_false (by show ¬(8192<bl n.natAbs\/8192<bl d.natAbs);omega)
theorem aaH:UO kF ⟨9,2⟩ ⟨9,2⟩ ⟨3,1⟩=(false,0):=by unfold UO;rw[if_pos ⟨FP (by decide) (by decide) (by decide),FP (by decide) (by decide) (by decide),FP (by decide) (by decide) (by decide)⟩,if_pos UQ,wK (by decide) (by decide),wK (by decide) (by decide),aay];rfl
theorem aaI:UO kF ⟨9,2⟩ ⟨4,1⟩ ⟨3,1⟩=(true,0):=by unfold UO;rw[if_pos ⟨FP (by decide) (by decide) (by decide),FP (by decide) (by decide) (by decide),FP (by decide) (by decide) (by decide)⟩,if_pos UQ,wK (by decide) (by decide),wK (by decide) (by decide),wK (by decide) (by decide),aaz];rfl
theorem Em(p:V3)(h:inM 1048576 p=true):Au kF p=(FN p (dS kF),0):=by unfold Au;rw[if_pos UQ,if_pos h,J6 (rO.1 h) (xC UQ)]
abbrev YM:List Wy:=[.lp [1,1,1,1,1,0,1,0]]
abbrev v11(ys:List PV):List Wy:=[.rg [1,1,1,1,1,1,1,1,1,1,1,1,1,1,1,1,0,1,0] [(true,kV3),(true,kV3)] ys]
abbrev YN(i:Int):St:=qK (encL kO) (bI [kH]) 1 5 0 4 4 i false (encL [⟨4,5,3⟩,⟨10,10,5⟩,⟨5,5,3⟩,⟨2,2,6⟩])
abbrev B11(n:Int):St:=cO (encL kO) (bI [kH]) 1 5 (encL kO) (bI [kH]) 1 5 false n
section
variable (X:Ext) (hX:Mine X)
include hX
variable (hB:Bits X) (hE:Df X) (hS:Sorts X)
include hB hE
theorem n11:L tab (run tab X) 11 [] (v11 []) (B11 8)=some ([.p (.bool true)],[]):=by have c:=c32 X hX hB hE kF lH ⟨3,3,0⟩;have b:=c32 X hX hB hE kF lH ⟨20,5,0⟩;have a:=c32 X hX hB hE kF lH ⟨5,5,0⟩;rw[Em _ (by decide),aaE]at c;rw[Em _ (by decide),aaF]at b;rw[Em _ (by decide),aaG]at a;have g:=c27 X hX hB 2 1 (by decide) (by decide);have f:=c27 X hX hB 100 1 (by decide) (by decide);have e:=c27 X hX hB 1 1 (by decide) (by decide);rw[qL,c14 X hX,qOb];show(run tab X 32 [.p (encF kF),.p (encV ⟨3,3,0⟩)] []).bind _=_;rw[c,qOb,c14 X hX,qOb];show(run tab X 32 [.p (encF kF),.p (encV ⟨20,5,0⟩)] []).bind _=_;rw[b,qOb,c14 X hX,qOb];show(run tab X 32 [.p (encF kF),.p (encV ⟨5,5,0⟩)] []).bind _=_;rw[a,qOb,show((8:Int)==8)=true from rfl,qCt,g,qOb];simp only[qLh,List.tail_cons,pv_p,toInt_int];rw[show eR 2 1=lM ⟨2,1⟩ from rfl,Gl,decide_eq_true rfl,qCt,show((0:Int)==0)=true from rfl,qCt,f,qOb];simp only[qLh,List.tail_cons,pv_p,toInt_int];rw[show eR 100 1=lM ⟨100,1⟩ from rfl,Gl,decide_eq_true rfl,qCt,qCt,e,qOb];simp only[qLh,List.tail_cons,pv_p,toInt_int];rw[show eR 1 1=lM ⟨1,1⟩ from rfl,Gl,decide_eq_true rfl,qCt]
theorem s11(n:Int)(a b:V3)(ys:List PV)(c:Option (List AV × List Blk))(j:0<=n/\n<=7)(i:n=0->a=⟨0,0,0⟩/\b=⟨10,0,0⟩)(h4:n=4->a=⟨4,4,0⟩/\b=⟨4,6,0⟩)
    (h:L tab (run tab X) 11 [] (v11 ys) (B11 (n+1))=c):L tab (run tab X) 11 [] (v11 (eY (a,b)::ys)) (B11 n)=c:=by
  have _:=hB;have _:=hE;have f:IntKind.i64.wrap (n+1)=n+1:=wrap_eq (by omega) (by omega);show L tab (run tab X) 11 [] (v11 (.agg [.agg [.int .i64 a.x,.int .i64 a.y,.int .i64 a.z],.agg [.int .i64 b.x,.int .i64 b.y,.int .i64 b.z]]::ys)) (B11 n)=c;have g:gtI n 7=false:=decide_eq_false (by omega);rw[qA];by_cases e:n=0
  . obtain⟨rfl,rfl⟩:=i e;subst e;rw[show((0:Int)==0)=true from rfl,qCt,c14 X hX,qOb,c14 X hX,qOb,f];exact h
  . rw[show(n==0)=false from beq_eq_false_iff_ne.2 e,qCf];by_cases c4:n=4
    . obtain⟨rfl,rfl⟩:=h4 c4;subst c4;rw[show((4:Int)==4)=true from rfl,qCt,c14 X hX,qOb,c14 X hX,qOb,f];exact h
    grind
theorem m11:L tab (run tab X) 11 [] (v11 ((mJ kF).map eY)) (B11 0)=some ([.p (.bool true)],[]):=by
 have e:mJ kF=dS kF:=by unfold mJ;rw[if_pos UQ]
 rw[e,knE];simp only[List.map_cons,List.map_nil];refine s11 X hX hB hE 0 _ _ _ _ (by omega) (λ_=>⟨rfl,rfl⟩) (λh=>by omega) ?_;refine s11 X hX hB hE 1 _ _ _ _ (by omega) (λh=>by omega) (λh=>by omega) ?_;refine s11 X hX hB hE 2 _ _ _ _ (by omega) (λh=>by omega) (λh=>by omega) ?_;refine s11 X hX hB hE 3 _ _ _ _ (by omega) (λh=>by omega) (λh=>by omega) ?_;refine s11 X hX hB hE 4 _ _ _ _ (by omega) (λh=>by omega) (λ_=>⟨rfl,rfl⟩) ?_;refine s11 X hX hB hE 5 _ _ _ _ (by omega) (λh=>by omega) (λh=>by omega) ?_;refine s11 X hX hB hE 6 _ _ _ _ (by omega) (λh=>by omega) (λh=>by omega) ?_;refine s11 X hX hB hE 7 _ _ _ _ (by omega) (λh=>by omega) (λh=>by omega) ?_;exact n11 X hX hB hE
include hS
theorem z11:L tab (run tab X) 11 [] YM (YN 4)=some ([.p (.bool true)],[]):=by have k:=c24 X hX hB kF lH ⟨9,2⟩ ⟨9,2⟩ ⟨3,1⟩;have j:=c24 X hX hB kF lH ⟨9,2⟩ ⟨4,1⟩ ⟨3,1⟩;rw[aaH]at k;rw[aaI]at j;have b1:=c28 X hX hB hE hS kF lH ⟨1,1,2⟩ ⟨9,1,4⟩;have i:=c28 X hX hB hE hS kF lH ⟨1,5,2⟩ ⟨9,5,2⟩;have h:=c28 X hX hB hE hS kF lH ⟨4,0,1⟩ ⟨4,10,1⟩;have g:=c28 X hX hB hE hS kF lH ⟨3,3,3⟩ ⟨7,7,3⟩;rw[aaA]at b1;rw[aaB]at i;rw[aaC]at h;rw[aaD]at g;have f:=c31 X hX kF;have c:=hE.e kF lH;have l:=c27 X hX hB 9 2 (by decide) (by decide);have a:=c27 X hX hB 4 1 (by decide) (by decide);have b:=c27 X hX hB 3 1 (by decide) (by decide);refine L_of ?_;rw[y9,show ltI (4:Int) 4=false from rfl,qCf];rw[l,qOb,qOb,b,qOb];show(run tab X 24 [.p (encF kF),.p (lM ⟨9,2⟩),.p (lM ⟨9,2⟩),.p (lM ⟨3,1⟩)] []).bind _=_;rw[k,qOb,a,qOb,qOb,qOb];show(run tab X 24 [.p (encF kF),.p (lM ⟨9,2⟩),.p (lM ⟨4,1⟩),.p (lM ⟨3,1⟩)] []).bind _=_;rw[j,qOb,c14 X hX,qOb,c14 X hX,qOb];show(run tab X 28 [.p (encF kF),.p (encV ⟨1,1,2⟩),.p (encV ⟨9,1,4⟩)] []).bind _=_;rw[b1,qOb,c14 X hX,qOb,c14 X hX,qOb];show(run tab X 28 [.p (encF kF),.p (encV ⟨1,5,2⟩),.p (encV ⟨9,5,2⟩)] []).bind _=_;rw[i,qOb,c14 X hX,qOb,c14 X hX,qOb];show(run tab X 28 [.p (encF kF),.p (encV ⟨4,0,1⟩),.p (encV ⟨4,10,1⟩)] []).bind _=_;rw[h,qOb,c14 X hX,qOb,c14 X hX,qOb];show(run tab X 28 [.p (encF kF),.p (encV ⟨3,3,3⟩),.p (encV ⟨7,7,3⟩)] []).bind _=_;rw[g,qOb];show(run tab X 31 [.p (encF kF)] []).bind _=_;rw[f,qOb];show(run tab X 87 [.yld,.p (.ref (vT kF))] [.log true []]).bind _=_;rw[c,qOb];exact m11 X hX hB hE
theorem p11(i:Nat)(f:i<4)(p:V3)(hp:(encL [⟨4,5,3⟩,⟨10,10,5⟩,⟨5,5,3⟩,⟨2,2,6⟩]).getD i .nil=encV p)(b:JY kF p=(decide (i<2),0))(h:L tab (run tab X) 11 [] YM (YN ((i+1:Nat):Int))=some ([.p (.bool true)],[])):L tab (run tab X) 11 [] YM (YN (i:Int))=some ([.p (.bool true)],[]):=by have _:=hB;have _:=hE;have _:=hS;have a:=c20 X hX kF lH p;rw[b]at a;have e:ltI (i:Int) 4=true:=decide_eq_true (by omega);have c:ltI (i:Int) ((4:Nat):Int)=true:=decide_eq_true (by omega);have g:ltI (i:Int) 2=decide (i<2):=decide_eq_decide.2 (by omega);refine L_of ?_;rw[y9,e,qCt,le0,c];simp only[qBs,qCt,qIt,qNz,hp,fH (show i<=9000000000000000000 by omega)];show(run tab X 20 [.p (encF kF),.p (encV p)] []).bind _=_;rw[a,qOb];unfold BU;simp only[qLh,List.tail_cons,pv_p,toInt_int,toBool_bool];grind
theorem c11:run tab X 11 [] []=some ([.p (.bool true)],[]):=
 run_of (hX _ rfl) (by have i:=c37 X hX [0,0,2,0,0,2,2,2] (by decide);have h:=c37 X hX [0,0,1,0,2,0] (by decide);have g:=c37 X hX [0,0,1,0,2,0,0,2] (by decide);have f:=c37 X hX [0,0,10,0,10,10,0,10] (by decide);have e:=c37 X hX [4,4,4,6,6,6,6,4] (by decide);have c:=c12 X hX [⟨0,0,0⟩,⟨2,0,0⟩,⟨0,2,0⟩,⟨2,2,0⟩] (by decide);have s2:=c12 X hX [⟨0,0,0⟩,⟨1,0,0⟩,⟨2,0,0⟩] (by decide);have b:=c12 X hX [⟨0,0,0⟩,⟨1,0,0⟩,⟨2,0,0⟩,⟨0,2,0⟩] (by decide);rw[kn1]at c;rw[kn2]at s2;rw[kn3]at b;have a:=c16 X hX kF lH;rw[knA]at a;have v:=c18 X hX kF lH;rw[UQ]at v;rw[e11];show(run tab X 37 [.p (.list false [.int .i64] (encI [0,0,2,0,0,2,2,2]))] []).bind _=_;rw[i,qOb];show(run tab X 12 [.p (.list true kV3 (encL [⟨0,0,0⟩,⟨2,0,0⟩,⟨0,2,0⟩,⟨2,2,0⟩]))] []).bind _=_;rw[c,qOb];simp only[qLh,pv_p,toBool_bool,qCf];show(run tab X 37 [.p (.list false [.int .i64] (encI [0,0,1,0,2,0]))] []).bind _=_;rw[h,qOb];show(run tab X 12 [.p (.list true kV3 (encL [⟨0,0,0⟩,⟨1,0,0⟩,⟨2,0,0⟩]))] []).bind _=_;rw[s2,qOb];simp only[qLh,pv_p,toBool_bool,qCf];show(run tab X 37 [.p (.list false [.int .i64] (encI [0,0,1,0,2,0,0,2]))] []).bind _=_;rw[g,qOb];show(run tab X 12 [.p (.list true kV3 (encL [⟨0,0,0⟩,⟨1,0,0⟩,⟨2,0,0⟩,⟨0,2,0⟩]))] []).bind _=_;rw[b,qOb];simp only[qLh,pv_p,toBool_bool,qBt,qCf];show(run tab X 37 [.p (.list false [.int .i64] (encI [0,0,10,0,10,10,0,10]))] []).bind _=_;rw[f,qOb];show(run tab X 37 [.p (.list false [.int .i64] (encI [4,4,4,6,6,6,6,4]))] []).bind _=_;rw[e,qOb];show(run tab X 16 [.p (encF kF)] []).bind _=_;rw[a,qOb];simp only[qLh,List.tail_cons,pv_p,toInt_int];rw[show((192:Int) != 192)=false from rfl,qCf,show((0:Int) != 0)=false from rfl,qCf];show(run tab X 18 [.p (encF kF)] []).bind _=_;rw[v,qOb];simp only[qLh,pv_p,toBool_bool,qBt,qCf];rw[c14 X hX,qOb,c14 X hX,qOb,c14 X hX,qOb,c14 X hX,qOb];show L tab (run tab X) 11 [] YM (YN ((0:Nat):Int))=_;refine p11 X hX hB hE hS 0 (by decide) ⟨4,5,3⟩ rfl aau ?_;refine p11 X hX hB hE hS 1 (by decide) ⟨10,10,5⟩ rfl aav ?_;refine p11 X hX hB hE hS 2 (by decide) ⟨5,5,3⟩ rfl aaw ?_;refine p11 X hX hB hE hS 3 (by decide) ⟨2,2,6⟩ rfl aax ?_;exact z11 X hX hB hE hS)
end
end
section
variable {x:PV}{v:Value}
section
variable {P:Program} {w:World} {M:Nat->Prop}
theorem list_of{a:Bool}{ks:List Kd}(h:VR w M x v)(g:kindOk (.slice a ks) x=true)(d:x.wf):∃ xs,x=.list a ks xs/\(∀ y∈xs,shapeOk a ks y=true)/\xs.length<=9223372036854775807/\PV.wfs xs/\∀ y∈xs,∀(j:Nat) (c:PV),y.cells[j]?=some c->∃ u,VR w M c u:=by
 cases x<;>simp only[kindOk,Bool.false_eq_true]at g
 . rename_i a' k xs;simp only[qBa,beq_iff_eq]at g;obtain⟨rfl,e⟩:=g;have e:=Kd.beqs_eq _ _ e;subst e;simp only[PV.wf]at d;refine⟨xs,rfl,?_,d.1,d.2,?_⟩
   . cases h with
     | list _ _ _ b o cap f _ _ _ _ n=>exact n
     | listE _ _ base cap=>simp
   . cases h with
     | list _ _ _ b o cap f _ _ _ m _ =>intro y l j c q;obtain⟨i,p⟩:=List.getElem?_of_mem l;exact⟨_,m i y j c p q⟩
     | listE _ _ base cap=>simp
 . exact d.elim
theorem int_of(h:kindOk (.int .i64) x=true):∃ n:Int,x=.int .i64 n:=by cases x<;>simp[kindOk]at h;subst h;exact⟨_,rfl⟩
structure Tc (f:Fen):Prop where
 low:-9223372036854775808<=f.low/\f.low<=9223372036854775807
 high:-9223372036854775808<=f.high/\f.high<=9223372036854775807
 holes:f.holes.length<=9223372036854775807
 each:∀ h∈f.holes,h.length<=9223372036854775807
 outer:f.outer.length<=9223372036854775807
theorem Ig:∀{xs:List PV},(∀ x∈xs,shapeOk false [.slice true kV3] x=true)->PV.wfs xs->(∀ x∈xs,∀(j:Nat) (c:PV),x.cells[j]?=some c->∃ u,VR w M c u)->∃ b:List (List V3),xs=bI b/\∀ h∈b,h.length<=9223372036854775807
 |[],_,_,_=>⟨[],rfl,by simp⟩
 | x::xs,h,hw,hv=>by
  have d:kindOk (.slice true kV3) x=true:=by simpa[shapeOk] using h x (by simp)
  have g:x.cells[0]?=some x:=by cases x<;>first | rfl | simp[kindOk]at d
  obtain⟨u,e⟩:=hv x (by simp) 0 x g;obtain⟨ys,rfl,m,k,i,_⟩:=list_of e d hw.1;obtain⟨l,rfl,_⟩:=vecs_of m i;obtain⟨b,rfl,f⟩:=Ig (λy a=>h y (by simp[a])) hw.2 (λy a=>hv y (by simp[a]));refine⟨l::b,rfl,λy a=>?_⟩;rcases List.mem_cons.1 a with rfl | a
  . simpa using k
  . exact f y a
theorem MZ{t:TypeId}(B:shapeP P 8 t=(true,[.slice true kV3,.slice false [.slice true kV3],.int .i64,.int .i64]))(h:VR w M x v)(e:shapeOk (shapeP P 8 t).1 (shapeP P 8 t).2 x=true)(i:x.wf):∃ f:Fen,x=encF f/\Tc f:=by
 rw[B]at e;cases x<;>simp only[shapeOk,Bool.false_eq_true]at e;rename_i cs;have g:∀(j:Nat) (c:PV),cs[j]?=some c->∃ u,VR w M c u:=λj c o=>by
  cases h with
  | agg _ vs O r n=>exact⟨_,n j c o⟩
 match cs,e,i,g with
 |[a,b,c,d],e,i,g =>simp only[kindsOk,Bool.and_true,qBa]at e;obtain⟨E,D,o,hd⟩:=e;simp only[PV.wf,PV.wfs,and_true]at i;obtain⟨A,z,y,s⟩:=i;obtain⟨N,m⟩:=g 0 a rfl;obtain⟨L,k⟩:=g 1 b rfl;obtain⟨xs,rfl,K,J,I,_⟩:=list_of m E A;obtain⟨ys,rfl,b1,H,G,F⟩:=list_of k D z;obtain⟨p,rfl⟩:=int_of o;obtain⟨q,rfl⟩:=int_of hd;obtain⟨l,rfl,_⟩:=vecs_of K I;obtain⟨C,rfl,r⟩:=Ig b1 G F;exact⟨⟨l,C,p,q⟩,rfl,wf_i64.1 y,wf_i64.1 s,by simpa[bH] using H,r,by simpa using J⟩
 |[],h,_,_=>simp[kindsOk]at h
 |[_],h,_,_=>simp[kindsOk]at h
 |[_,_],h,_,_=>simp[kindsOk]at h
 |[_,_,_],h,_,_=>simp[kindsOk]at h
 | _::_::_::_::_::_,h,_,_=>simp[kindsOk]at h
end
end
section
def Hr(f:Fen):Bool:=(f.holes.all λh=>decide (h.length<=10))&&(decide (f.outer.length<=10)&&(decide (f.holes.length<=4)||decide (f.holes.length=17)))
theorem Jl{f:Fen}(h:Hr f=true):qW f/\f.holes.length<=17:=by unfold Hr at h;simp only[qBa,Bool.or_eq_true,qDa,List.all_eq_true]at h;obtain⟨b,d,c⟩:=h;exact⟨⟨by omega,λx a=>by have:=b x a;omega,by omega⟩,by omega⟩
section
variable (X:Ext) (hX:Mine X)
include hX
theorem l15(d:List V3)(l k:Int)(a:List (List V3))(q:a.length<=9223372036854775807):∀(r:List (List V3)) (i:Nat),a.drop i=r->i<=a.length ->
    L tab (run tab X) 15 [] [.lp [1,0,1,0]] (zf (bI a) (a.length:Int) (i:Int) (encL d) (bI a) l k)=some ([.p (.bool ((r.all λh=>decide (h.length<=10))&&(decide (d.length<=10)&&(decide (a.length<=4)||decide (a.length=17)))))],[]):=by
  have _:=hX;intro r;induction r with
  | nil =>
   intro i hd b;have e:i=a.length:=Nat.le_antisymm b (List.drop_eq_nil_iff.1 hd);subst e;refine L_of ?_;rw[IE,yL (by omega),qCf,encL_length,bH];have o:leI ((d.length:Nat):Int) 10=decide (d.length<=10):=decide_eq_decide.2 (by omega);have n:leI ((a.length:Nat):Int) 4=decide (a.length<=4):=decide_eq_decide.2 (by omega);have m:(((a.length:Nat):Int)==17)=decide (a.length=17):=by
    by_cases c:a.length=17
    . rw[decide_eq_true c,c];rfl
    . rw[decide_eq_false c];exact beq_eq_false_iff_ne.2 (by omega)
   rw[o,n,m];cases decide (d.length<=10)<;>cases decide (a.length<=4)<;>cases decide (a.length=17)<;>rfl
  | cons h r g =>
   intro i hd _;have f:a[i]?=some h:=by have:=congrArg (·[0]?) hd;simpa using this
   have b:=(qLa.1 f).1;have j:gh a i=h:=by simp[gh,List.getD,f]
   refine L_of ?_;rw[IE,sG b,qCt,bH];simp only[rng b,qCt,qIt,gJ a b,j];show(bif gtI ((((encL h).length:Nat)):Int) 10 then _ else _)=_;rw[encL_length,List.all_cons];by_cases c:h.length<=10
   . rw[show gtI ((h.length:Nat):Int) 10=false from decide_eq_false (by omega),qCf,decide_eq_true c,Bool.true_and,wrap_eq (by omega) (by omega)];exact g (i+1) (by rw[<- List.drop_drop,hd];rfl) b
   . rw[show gtI ((h.length:Nat):Int) 10=true from decide_eq_true (by omega),qCt,decide_eq_false c];rfl
theorem c15(f:Fen)(a:Tc f):run tab X 15 [.p (encF f)] []=some ([.p (.bool (Hr f))],[]):=
 run_of (hX _ rfl) (by rw[encF,e15,bH];exact l15 X hX f.outer f.low f.high f.holes a.holes f.holes 0 qLy (Nat.zero_le _))
variable (hB:Bits X) (hE:Df X) (hS:Sorts X)
include hB hE hS
end
end
section
open Go.Skm.Dig
theorem Rw(a:ByteArray):(a==a)=true:=(Ph a a).2 rfl
section
variable (X:Ext) (hX:Mine X)
include hX
variable (hB:Bits X) (hE:Df X) (hS:Sorts X)
include hB hE hS
theorem law9(f:Fen)(n:Tc f)(p:V3):run tab X 9 [.p (encF f),.p (encV p)] []=some ([.p (.bool true)],[]):=
 run_of (hX _ rfl) (by
  have h:=c11 X hX hB hE hS;have g:=c15 X hX f n;rw[encF]at g ⊢;rw[encV,e9,g,qOb];simp only[qLh,pv_p,toBool_bool];cases l:Hr f with
  | false=>rw[qBf,qCt,h];rfl
  | true =>
   obtain⟨j,_⟩:=Jl l;have c:=c17 X hX f j;have a:=c32 X hX hB hE f j p;have e:=c21 X hX p;rw[NV]at c;rw[encF]at c a;rw[encV]at a e;rw[qBt,qCf,a,qOb,c,qOb];simp only[qLh,List.tail_cons,pv_p,toBool_bool,toInt_int];unfold Au;cases k:validP f with
   | false =>rw[qBf,qCt,if_neg Bool.false_ne_true,show lM ⟨0,0⟩=_ from zu,h];rfl
   | true =>
    rw[qBt,qCf,if_pos rfl,e,qOb];simp only[qLh,pv_p,toBool_bool];cases m:inM 1048576 p with
    | false =>rw[qBf,qCt,if_neg Bool.false_ne_true,show lM ⟨0,0⟩=_ from zu,h];rfl
    | true =>obtain⟨d,b1,o⟩:=c34 X hX f k p (rO.1 m);have i:=c33 X hX _ _ (bF b1 (by decide)) (bF o (by decide));rw[encF,encV]at d;rw[qBt,qCf,if_pos rfl,d,qOb];simp only[qLh,pv_p,jV];rw[i,qOb];generalize jB p ⟨0,0⟩ (dS f)=b;simp only[qLh,pv_p,lM,Rw,beq_self_eq_true,qBs,qCt];rw[h];rfl)
end
end
end Go.Skm.Fen
