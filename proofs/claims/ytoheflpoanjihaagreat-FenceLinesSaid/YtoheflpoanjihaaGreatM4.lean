import Derived.Test.YtoheflpoanjihaaGreatG24
import Derived.Test.YtoheflpoanjihaaGreatM1
import Derived.Test.YtoheflpoanjihaaGreatEqv4
import Derived.Test.YtoheflpoanjihaaGreatG15
import Derived.Test.YtoheflpoanjihaaGreatSkmE
import Derived.Test.YtoheflpoanjihaaGreatJ7
import Derived.Test.YtoheflpoanjihaaGreatM3
set_option linter.all false
namespace Go.Skm.Fen
open Go Go.Skm
section
def Dz:List Int->List V3
 | x::y::r=>⟨x,y,0⟩::Dz r
 | _=>[]
def encI(l:List Int):List PV:=l.map λn=>Av n
theorem KG(l:List Int){i:Nat}(h:i<l.length):(encI l).getD i .nil=Av (l.getD i 0):=by grind[encI]
theorem zT(l:List V3):((encL l).drop 0).take (encL l).length=encL l:=by rw[qLy,List.take_length]
def Oz(p:V3):Rt->List jW->Rt
 | b,[]=>b
 | b,e::r=>Oz p (if(dist e.1 e.2 p).n*b.d-b.n*(dist e.1 e.2 p).d<0 then dist e.1 e.2 p else b) r
theorem Ja{p:V3}(hp:iy p):∀{c:List jW} {b:Rt},b.ok->(∀ e∈c,iy e.1/\iy e.2)->Dy p b c=Oz p b c
 |[],_,_,_=>rfl
 | e::r,b,hb,he=>by
  have hd:=I5 (he e (by simp)).1 (he e (by simp)).2 hp;unfold Dy Oz;by_cases h:(dist e.1 e.2 p).n*b.d-b.n*(dist e.1 e.2 p).d<0
  . rw[if_pos (.inr h),if_pos h];exact Ja hp hd λf a=>he f (by simp[a])
  . rw[if_neg (by rintro (h' | h')<;>contradiction),if_neg h];exact Ja hp hb λf a=>he f (by simp[a])
def H6(p:V3):List jW->Rt
 |[]=>⟨0,0⟩
 | e::r=>Oz p (dist e.1 e.2 p) r
theorem MQ{p:V3}(hp:iy p){a:List jW}(c:∀ e∈a,iy e.1/\iy e.2):Dy p ⟨0,0⟩ a=H6 p a:=by
 cases a with
 | nil=>rfl
 | cons e r =>unfold Dy H6;have d:¬(⟨0,0⟩:Rt).ok:=λh=>absurd h.2.2 (by decide);rw[if_pos (.inl d)];exact Ja hp (I5 (c e (by simp)).1 (c e (by simp)).2 hp) λf b=>c f (by simp[b])
section
variable (X:Ext) (hX:Mine X)
include hX
theorem c14(x y z:Int):run tab X 14 [Ab x,Ab y,Ab z] []=some ([.p (encV ⟨x,y,z⟩)],[]):=run_of (hX _ rfl) (by rw[e14];rfl)
theorem l37(n:List Int)(h:n.length<=1000000):∀(r:List Int) (i:Nat) (a:List V3),n.drop i=r->i<=n.length->a.length<=i ->
    L tab (run tab X) 37 [] [.lp [1,1,0,1,0]] (S37_11010 (encI n) 0 a.length (i:Int) (encL a))=some ([.fresh true kV3 (encL (a++Dz r))],[])
  |[],i,a,hr,hi,ho=>by
   have _:=hX;have c:n.length<=i:=List.drop_eq_nil_iff.1 hr;have b:(encI n).length=n.length:=by simp[encI]
   refine L_of ?_;rw[e37_11010,dL (by omega),b,xO (by omega),qCf,show Dz []=[] from rfl,List.append_nil,show a.length=(encL a).length by simp[encL],zT]
  |[x],i,a,hr,hi,ho=>by
   have c:n.length=i+1:=by have:=congrArg List.length hr;grind
   have b:(encI n).length=n.length:=by simp[encI]
   refine L_of ?_;rw[e37_11010,dL (by omega),b,xO (by omega),qCf,show Dz [x]=[] from rfl,List.append_nil,show a.length=(encL a).length by simp[encL],zT]
  | x::y::r,i,a,hr,hi,ho=>by
   have c:i+2<=n.length:=by have:=congrArg List.length hr;grind
   have b:(encI n).length=n.length:=by simp[encI]
   have k:n.getD i 0=x:=by rw[qLb,<- List.head?_drop,hr];rfl
   have d:n.drop (i+1)=y::r:=by rw[<- List.tail_drop,hr];rfl
   have f:n.drop (i+2)=r:=by rw[show i+2=i+1+1 from rfl,<- List.tail_drop,d];rfl
   have j:n.getD (i+1) 0=y:=by rw[qLb,<- List.head?_drop,d];rfl
   have g:IntKind.i64.wrap ((i:Int)+2)=((i+2:Nat):Int):=by rw[wrap_eq (by omega) (by omega)];omega
   refine L_of ?_;rw[e37_11010,dL (by omega),b,rZ (by omega),qCt,rng (by omega),qCt,le0,qBs,qCt,show leN (a.length+1) 2147483648=true from decide_eq_true (by omega),qCt,g];rw[qIt,qIt,KG n (show i<n.length by omega),KG n (show i+1<n.length by omega),k,j];have e:=l37 n h r (i+2) (a++[⟨x,y,0⟩]) f (by omega) (by simp;omega);rw[qLp,List.length_singleton]at e;have l:((encL a).drop 0).take a.length=encL a:=by rw[show a.length=(encL a).length by simp[encL],zT]
   rw[l,Dz,show a++⟨x,y,0⟩::Dz r=a++[⟨x,y,0⟩]++Dz r by simp];simp_all[encL,encV]
theorem c37(n:List Int)(a:n.length<=1000000):run tab X 37 [.p (.list false [.int .i64] (encI n))] []=some ([.fresh true kV3 (encL (Dz n))],[]):=
 run_of (hX _ rfl) (by rw[e37];exact l37 X hX n a n 0 [] rfl (by omega) (by simp))
variable (hB:Bits X)
include hB
theorem c27(n d:Int)(c:-9223372036854775808<=n/\n<=9223372036854775807)(a:-9223372036854775808<=d/\d<=9223372036854775807):run tab X 27 [Ab n,Ab d] []=some ([.p (eR n d)],[]):=
 run_of (hX _ rfl) (by
  have _:=hB;have e:∀ z:Int,-9223372036854775808<=z/\z<=9223372036854775807->jd z 1000000:=λz f=>by unfold jd;exact Nat.le_trans (Dig.lI (b:=B9) (k:=3) (by decide) (Nat.lt_of_lt_of_le (show _<1000000000000000000000000000 by omega) (by decide))) (by decide)
  rw[e27,c71 X hX n c.1 c.2,qOb];simp only[qLh,pv_p,dI];rw[c70 X hX n (e n c),qOb,c71 X hX d a.1 a.2,qOb];simp only[qLh,pv_p,dI];rw[c70 X hX d (e d a),qOb];rfl)
end
end
section
def kO:List V3:=[⟨0,0,0⟩,⟨10,0,0⟩,⟨10,10,0⟩,⟨0,10,0⟩]
def kH:List V3:=[⟨4,4,0⟩,⟨4,6,0⟩,⟨6,6,0⟩,⟨6,4,0⟩]
def kF:Fen:=⟨kO,[kH],1,5⟩
theorem kn1:dO [⟨0,0,0⟩,⟨2,0,0⟩,⟨0,2,0⟩,⟨2,2,0⟩]=false:=by decide +kernel
theorem kn2:dO [⟨0,0,0⟩,⟨1,0,0⟩,⟨2,0,0⟩]=false:=by decide +kernel
theorem kn3:dO [⟨0,0,0⟩,⟨1,0,0⟩,⟨2,0,0⟩,⟨0,2,0⟩]=true:=by decide +kernel
theorem Xb:validP kF=true:=by decide +kernel
theorem knA:IY kF=(192,0):=by decide +kernel
theorem ab4:ML kF ⟨4,5,3⟩=(true,0):=by decide +kernel
theorem ab5:ML kF ⟨10,10,5⟩=(true,0):=by decide +kernel
theorem ab6:ML kF ⟨5,5,3⟩=(false,0):=by decide +kernel
theorem ab7:ML kF ⟨2,2,6⟩=(false,0):=by decide +kernel
theorem ab8:Kq kF ⟨9,2⟩ ⟨9,2⟩ ⟨3,1⟩=false:=by decide +kernel
theorem ab9:Kq kF ⟨9,2⟩ ⟨4,1⟩ ⟨3,1⟩=true:=by decide +kernel
theorem acd:pK kF ⟨1,1,2⟩ ⟨9,1,4⟩=(true,0):=by decide +kernel
theorem ace:pK kF ⟨1,5,2⟩ ⟨9,5,2⟩=(false,0):=by decide +kernel
theorem acf:pK kF ⟨4,0,1⟩ ⟨4,10,1⟩=(true,0):=by decide +kernel
theorem acg:pK kF ⟨3,3,3⟩ ⟨7,7,3⟩=(false,0):=by decide +kernel
theorem knE:dS kF=[(⟨0,0,0⟩,⟨10,0,0⟩),(⟨10,0,0⟩,⟨10,10,0⟩),(⟨10,10,0⟩,⟨0,10,0⟩),(⟨0,10,0⟩,⟨0,0,0⟩),(⟨4,4,0⟩,⟨4,6,0⟩),(⟨4,6,0⟩,⟨6,6,0⟩),(⟨6,6,0⟩,⟨6,4,0⟩),(⟨6,4,0⟩,⟨4,4,0⟩)]:=by decide +kernel
theorem ach:H6 ⟨3,3,0⟩ (dS kF)=⟨2,1⟩:=by decide +kernel
theorem aci:H6 ⟨20,5,0⟩ (dS kF)=⟨100,1⟩:=by decide +kernel
theorem acj:H6 ⟨5,5,0⟩ (dS kF)=⟨1,1⟩:=by decide +kernel
end
section
variable {d n:Int}
theorem mF:tY kF:=⟨by decide,by decide,by decide⟩
theorem H7(a:n.natAbs<aX)(hd:d.natAbs<aX)(h:0<d):(⟨n,d⟩:Rt).ok:=⟨qw a,qw hd,h⟩
theorem yC(a:n.natAbs<aX)(hd:d.natAbs<aX):ru ⟨n,d⟩=false:=by have c:bl n.natAbs<=64:=AQ a;have b:bl d.natAbs<=64:=AQ hd;exact decide_eq_false (by show ¬(8192<bl n.natAbs\/8192<bl d.natAbs);omega)
theorem acn:Xa kF ⟨9,2⟩ ⟨9,2⟩ ⟨3,1⟩=(false,0):=by unfold Xa;rw[if_pos ⟨H7 (by decide) (by decide) (by decide),H7 (by decide) (by decide) (by decide),H7 (by decide) (by decide) (by decide)⟩,if_pos Xb,yC (by decide) (by decide),yC (by decide) (by decide),ab8];rfl
theorem aco:Xa kF ⟨9,2⟩ ⟨4,1⟩ ⟨3,1⟩=(true,0):=by unfold Xa;rw[if_pos ⟨H7 (by decide) (by decide) (by decide),H7 (by decide) (by decide) (by decide),H7 (by decide) (by decide) (by decide)⟩,if_pos Xb,yC (by decide) (by decide),yC (by decide) (by decide),yC (by decide) (by decide),ab9];rfl
theorem FX(p:V3)(h:inM 1048576 p=true):FQ kF p=(H6 p (dS kF),0):=by unfold FQ;rw[if_pos Xb,if_pos h,MQ (pJ.1 h) (tK Xb)]
abbrev w11:List Wy:=[.lp [1,1,1,1,1,0,1,0]]
abbrev v11(ys:List PV):List Wy:=[.rg [1,1,1,1,1,1,1,1,1,1,1,1,1,1,1,1,0,1,0] [(true,kV3),(true,kV3)] ys]
abbrev A11(i:Int):St:=sS (encL kO) (bK [kH]) 1 5 0 4 4 i false (encL [⟨4,5,3⟩,⟨10,10,5⟩,⟨5,5,3⟩,⟨2,2,6⟩])
abbrev B11(n:Int):St:=dG (encL kO) (bK [kH]) 1 5 (encL kO) (bK [kH]) 1 5 false n
section
variable (X:Ext) (hX:Mine X)
include hX
variable (hB:Bits X) (hE:EH X) (hS:Sorts X)
include hB hE
theorem n11:L tab (run tab X) 11 [] (v11 []) (B11 8)=some ([Ac true],[]):=by have c:=c32 X hX hB hE kF mF ⟨3,3,0⟩;have b:=c32 X hX hB hE kF mF ⟨20,5,0⟩;have a:=c32 X hX hB hE kF mF ⟨5,5,0⟩;rw[FX _ (by decide),ach]at c;rw[FX _ (by decide),aci]at b;rw[FX _ (by decide),acj]at a;have g:=c27 X hX hB 2 1 (by decide) (by decide);have f:=c27 X hX hB 100 1 (by decide) (by decide);have e:=c27 X hX hB 1 1 (by decide) (by decide);rw[sU,c14 X hX,qOb];show(run tab X 32 [.p (encF kF),.p (encV ⟨3,3,0⟩)] []).bind _=_;rw[c,qOb,c14 X hX,qOb];show(run tab X 32 [.p (encF kF),.p (encV ⟨20,5,0⟩)] []).bind _=_;rw[b,qOb,c14 X hX,qOb];show(run tab X 32 [.p (encF kF),.p (encV ⟨5,5,0⟩)] []).bind _=_;rw[a,qOb,show((8:Int)==8)=true from rfl,qCt,g,qOb];simp only[qLh,List.tail_cons,pv_p,toInt_int];rw[show eR 2 1=mX ⟨2,1⟩ from rfl,Iy,decide_eq_true rfl,qCt,show((0:Int)==0)=true from rfl,qCt,f,qOb];simp only[qLh,List.tail_cons,pv_p,toInt_int];rw[show eR 100 1=mX ⟨100,1⟩ from rfl,Iy,decide_eq_true rfl,qCt,qCt,e,qOb];simp only[qLh,List.tail_cons,pv_p,toInt_int];rw[show eR 1 1=mX ⟨1,1⟩ from rfl,Iy,decide_eq_true rfl,qCt]
theorem s11(n:Int)(a b:V3)(ys:List PV)(c:Option (List AV × List Blk))(j:0<=n/\n<=7)(i:n=0->a=⟨0,0,0⟩/\b=⟨10,0,0⟩)(h4:n=4->a=⟨4,4,0⟩/\b=⟨4,6,0⟩)
    (h:L tab (run tab X) 11 [] (v11 ys) (B11 (n+1))=c):L tab (run tab X) 11 [] (v11 (eY (a,b)::ys)) (B11 n)=c:=by
  have _:=hB;have _:=hE;have f:IntKind.i64.wrap (n+1)=n+1:=wrap_eq (by omega) (by omega);show L tab (run tab X) 11 [] (v11 (.agg [.agg [Av a.x,Av a.y,Av a.z],.agg [Av b.x,Av b.y,Av b.z]]::ys)) (B11 n)=c;have g:gtI n 7=false:=decide_eq_false (by omega);rw[rM];by_cases e:n=0
  . obtain⟨rfl,rfl⟩:=i e;subst e;rw[show((0:Int)==0)=true from rfl,qCt,c14 X hX,qOb,c14 X hX,qOb,f];exact h
  . rw[show(n==0)=false from beq_eq_false_iff_ne.2 e,qCf];by_cases c4:n=4
    . obtain⟨rfl,rfl⟩:=h4 c4;subst c4;rw[show((4:Int)==4)=true from rfl,qCt,c14 X hX,qOb,c14 X hX,qOb,f];exact h
    grind
theorem m11:L tab (run tab X) 11 [] (v11 ((nO kF).map eY)) (B11 0)=some ([Ac true],[]):=by
 have e:nO kF=dS kF:=by unfold nO;rw[if_pos Xb]
 rw[e,knE];simp only[List.map_cons,List.map_nil];refine s11 X hX hB hE 0 _ _ _ _ (by omega) (λ_=>⟨rfl,rfl⟩) (λh=>by omega) ?_;refine s11 X hX hB hE 1 _ _ _ _ (by omega) (λh=>by omega) (λh=>by omega) ?_;refine s11 X hX hB hE 2 _ _ _ _ (by omega) (λh=>by omega) (λh=>by omega) ?_;refine s11 X hX hB hE 3 _ _ _ _ (by omega) (λh=>by omega) (λh=>by omega) ?_;refine s11 X hX hB hE 4 _ _ _ _ (by omega) (λh=>by omega) (λ_=>⟨rfl,rfl⟩) ?_;refine s11 X hX hB hE 5 _ _ _ _ (by omega) (λh=>by omega) (λh=>by omega) ?_;refine s11 X hX hB hE 6 _ _ _ _ (by omega) (λh=>by omega) (λh=>by omega) ?_;refine s11 X hX hB hE 7 _ _ _ _ (by omega) (λh=>by omega) (λh=>by omega) ?_;exact n11 X hX hB hE
include hS
theorem z11:L tab (run tab X) 11 [] w11 (A11 4)=some ([Ac true],[]):=by have l:=c24 X hX hB kF mF ⟨9,2⟩ ⟨9,2⟩ ⟨3,1⟩;have k:=c24 X hX hB kF mF ⟨9,2⟩ ⟨4,1⟩ ⟨3,1⟩;rw[acn]at l;rw[aco]at k;have b1:=c28 X hX hB hE hS kF mF ⟨1,1,2⟩ ⟨9,1,4⟩;have j:=c28 X hX hB hE hS kF mF ⟨1,5,2⟩ ⟨9,5,2⟩;have i:=c28 X hX hB hE hS kF mF ⟨4,0,1⟩ ⟨4,10,1⟩;have h:=c28 X hX hB hE hS kF mF ⟨3,3,3⟩ ⟨7,7,3⟩;rw[acd]at b1;rw[ace]at j;rw[acf]at i;rw[acg]at h;have g:=c31 X hX kF;have f:=hE.e kF mF;have a:=c27 X hX hB 9 2 (by decide) (by decide);have b:=c27 X hX hB 4 1 (by decide) (by decide);have c:=c27 X hX hB 3 1 (by decide) (by decide);refine L_of ?_;rw[AB,show ltI (4:Int) 4=false from rfl,qCf];rw[a,qOb,qOb,c,qOb];show(run tab X 24 [.p (encF kF),.p (mX ⟨9,2⟩),.p (mX ⟨9,2⟩),.p (mX ⟨3,1⟩)] []).bind _=_;rw[l,qOb,b,qOb,qOb,qOb];show(run tab X 24 [.p (encF kF),.p (mX ⟨9,2⟩),.p (mX ⟨4,1⟩),.p (mX ⟨3,1⟩)] []).bind _=_;rw[k,qOb,c14 X hX,qOb,c14 X hX,qOb];show(run tab X 28 [.p (encF kF),.p (encV ⟨1,1,2⟩),.p (encV ⟨9,1,4⟩)] []).bind _=_;rw[b1,qOb,c14 X hX,qOb,c14 X hX,qOb];show(run tab X 28 [.p (encF kF),.p (encV ⟨1,5,2⟩),.p (encV ⟨9,5,2⟩)] []).bind _=_;rw[j,qOb,c14 X hX,qOb,c14 X hX,qOb];show(run tab X 28 [.p (encF kF),.p (encV ⟨4,0,1⟩),.p (encV ⟨4,10,1⟩)] []).bind _=_;rw[i,qOb,c14 X hX,qOb,c14 X hX,qOb];show(run tab X 28 [.p (encF kF),.p (encV ⟨3,3,3⟩),.p (encV ⟨7,7,3⟩)] []).bind _=_;rw[h,qOb];show(run tab X 31 [.p (encF kF)] []).bind _=_;rw[g,qOb];show(run tab X 87 [.yld,.p (.ref (xX kF))] [.log true []]).bind _=_;rw[f,qOb];exact m11 X hX hB hE
theorem p11(i:Nat)(f:i<4)(p:V3)(hp:(encL [⟨4,5,3⟩,⟨10,10,5⟩,⟨5,5,3⟩,⟨2,2,6⟩]).getD i .nil=encV p)(b:ML kF p=(decide (i<2),0))(h:L tab (run tab X) 11 [] w11 (A11 ((i+1:Nat):Int))=some ([Ac true],[])):L tab (run tab X) 11 [] w11 (A11 (i:Int))=some ([Ac true],[]):=by have _:=hB;have _:=hE;have _:=hS;have a:=c20 X hX kF mF p;rw[b]at a;have e:ltI (i:Int) 4=true:=decide_eq_true (by omega);have c:ltI (i:Int) ((4:Nat):Int)=true:=decide_eq_true (by omega);have g:ltI (i:Int) 2=decide (i<2):=decide_eq_decide.2 (by omega);refine L_of ?_;rw[AB,e,qCt,le0,c];simp only[qBs,qCt,qIt,qNz,hp,dL (show i<=9000000000000000000 by omega)];show(run tab X 20 [.p (encF kF),.p (encV p)] []).bind _=_;rw[a,qOb];unfold Cm;simp only[qLh,List.tail_cons,pv_p,toInt_int,toBool_bool];grind
theorem c11:run tab X 11 [] []=some ([Ac true],[]):=
 run_of (hX _ rfl) (by have i:=c37 X hX [0,0,2,0,0,2,2,2] (by decide);have h:=c37 X hX [0,0,1,0,2,0] (by decide);have g:=c37 X hX [0,0,1,0,2,0,0,2] (by decide);have f:=c37 X hX [0,0,10,0,10,10,0,10] (by decide);have e:=c37 X hX [4,4,4,6,6,6,6,4] (by decide);have c:=c12 X hX [⟨0,0,0⟩,⟨2,0,0⟩,⟨0,2,0⟩,⟨2,2,0⟩] (by decide);have s2:=c12 X hX [⟨0,0,0⟩,⟨1,0,0⟩,⟨2,0,0⟩] (by decide);have b:=c12 X hX [⟨0,0,0⟩,⟨1,0,0⟩,⟨2,0,0⟩,⟨0,2,0⟩] (by decide);rw[kn1]at c;rw[kn2]at s2;rw[kn3]at b;have a:=c16 X hX kF mF;rw[knA]at a;have v:=c18 X hX kF mF;rw[Xb]at v;rw[e11];show(run tab X 37 [.p (.list false [.int .i64] (encI [0,0,2,0,0,2,2,2]))] []).bind _=_;rw[i,qOb];show(run tab X 12 [Al (encL [⟨0,0,0⟩,⟨2,0,0⟩,⟨0,2,0⟩,⟨2,2,0⟩])] []).bind _=_;rw[c,qOb];simp only[qLh,pv_p,toBool_bool,qCf];show(run tab X 37 [.p (.list false [.int .i64] (encI [0,0,1,0,2,0]))] []).bind _=_;rw[h,qOb];show(run tab X 12 [Al (encL [⟨0,0,0⟩,⟨1,0,0⟩,⟨2,0,0⟩])] []).bind _=_;rw[s2,qOb];simp only[qLh,pv_p,toBool_bool,qCf];show(run tab X 37 [.p (.list false [.int .i64] (encI [0,0,1,0,2,0,0,2]))] []).bind _=_;rw[g,qOb];show(run tab X 12 [Al (encL [⟨0,0,0⟩,⟨1,0,0⟩,⟨2,0,0⟩,⟨0,2,0⟩])] []).bind _=_;rw[b,qOb];simp only[qLh,pv_p,toBool_bool,qBt,qCf];show(run tab X 37 [.p (.list false [.int .i64] (encI [0,0,10,0,10,10,0,10]))] []).bind _=_;rw[f,qOb];show(run tab X 37 [.p (.list false [.int .i64] (encI [4,4,4,6,6,6,6,4]))] []).bind _=_;rw[e,qOb];show(run tab X 16 [.p (encF kF)] []).bind _=_;rw[a,qOb];simp only[qLh,List.tail_cons,pv_p,toInt_int];rw[show((192:Int) != 192)=false from rfl,qCf,show((0:Int) != 0)=false from rfl,qCf];show(run tab X 18 [.p (encF kF)] []).bind _=_;rw[v,qOb];simp only[qLh,pv_p,toBool_bool,qBt,qCf];rw[c14 X hX,qOb,c14 X hX,qOb,c14 X hX,qOb,c14 X hX,qOb];show L tab (run tab X) 11 [] w11 (A11 ((0:Nat):Int))=_;refine p11 X hX hB hE hS 0 (by decide) ⟨4,5,3⟩ rfl ab4 ?_;refine p11 X hX hB hE hS 1 (by decide) ⟨10,10,5⟩ rfl ab5 ?_;refine p11 X hX hB hE hS 2 (by decide) ⟨5,5,3⟩ rfl ab6 ?_;refine p11 X hX hB hE hS 3 (by decide) ⟨2,2,6⟩ rfl ab7 ?_;exact z11 X hX hB hE hS)
end
end
section
variable {x:PV}{v:Value}
section
variable {P:Program} {w:World} {M:Nat->Prop}
theorem list_of{a:Bool}{ks:List Kd}(h:VR w M x v)(g:kindOk (.slice a ks) x=true)(d:x.wf):∃ xs,x=.list a ks xs/\(∀ y∈xs,shapeOk a ks y=true)/\xs.length<=9223372036854775807/\PV.wfs xs/\∀ y∈xs,∀(j:Nat) (c:PV),y.cells[j]?=some c->∃ u,VR w M c u:=by
 cases x<;>simp only[kindOk,Bool.false_eq_true]at g
 . rename_i a' k xs;simp only[qBa,beq_iff_eq]at g;obtain⟨rfl,e⟩:=g;have e:=Kd.beqs_eq _ _ e;subst e;simp only[PV.wf]at d;refine⟨xs,rfl,?_,d.1,d.2,?_⟩
   . cases h with
     | list _ _ _ b o cap f _ _ _ _ m=>exact m
     | listE _ _ base cap=>simp
   . cases h with
     | list _ _ _ b o cap f _ _ _ n _ =>intro y l j c q;obtain⟨i,p⟩:=List.getElem?_of_mem l;grind
     | listE _ _ base cap=>simp
 . exact d.elim
theorem int_of(h:kindOk (.int .i64) x=true):∃ n:Int,x=Av n:=by cases x<;>simp[kindOk]at h;simp_all
structure Vw (f:Fen):Prop where
 low:-9223372036854775808<=f.low/\f.low<=9223372036854775807
 high:-9223372036854775808<=f.high/\f.high<=9223372036854775807
 holes:f.holes.length<=9223372036854775807
 each:∀ h∈f.holes,h.length<=9223372036854775807
 outer:f.outer.length<=9223372036854775807
theorem JG:∀{xs:List PV},(∀ x∈xs,shapeOk false [.slice true kV3] x=true)->PV.wfs xs->(∀ x∈xs,∀(j:Nat) (c:PV),x.cells[j]?=some c->∃ u,VR w M c u)->∃ b:List (List V3),xs=bK b/\∀ h∈b,h.length<=9223372036854775807
 |[],_,_,_=>⟨[],rfl,by simp⟩
 | x::xs,h,hw,hv=>by
  have d:kindOk (.slice true kV3) x=true:=by simpa[shapeOk] using h x (by simp)
  have f:x.cells[0]?=some x:=by cases x<;>first | rfl | simp[kindOk]at d
  obtain⟨u,e⟩:=hv x (by simp) 0 x f;obtain⟨ys,rfl,i,m,g,_⟩:=list_of e d hw.1;obtain⟨l,rfl,_⟩:=vecs_of i g;obtain⟨b,rfl,k⟩:=JG (λy a=>h y (by simp[a])) hw.2 (λy a=>hv y (by simp[a]));refine⟨l::b,rfl,λy a=>?_⟩;rcases List.mem_cons.1 a with rfl | a;all_goals simp_all
theorem O6{t:TypeId}(B:shapeP P 8 t=(true,[.slice true kV3,.slice false [.slice true kV3],.int .i64,.int .i64]))(h:VR w M x v)(e:shapeOk (shapeP P 8 t).1 (shapeP P 8 t).2 x=true)(i:x.wf):∃ f:Fen,x=encF f/\Vw f:=by
 rw[B]at e;cases x<;>simp only[shapeOk,Bool.false_eq_true]at e;rename_i cs;have g:∀(j:Nat) (c:PV),cs[j]?=some c->∃ u,VR w M c u:=λj c o=>by
  cases h with
  | agg _ vs O r n=>exact⟨_,n j c o⟩
 match cs,e,i,g with
 |[a,b,c,d],e,i,g =>simp only[kindsOk,Bool.and_true,qBa]at e;obtain⟨E,D,o,hd⟩:=e;simp only[PV.wf,PV.wfs,and_true]at i;obtain⟨A,z,y,s⟩:=i;obtain⟨N,m⟩:=g 0 a rfl;obtain⟨L,k⟩:=g 1 b rfl;obtain⟨xs,rfl,K,J,I,_⟩:=list_of m E A;obtain⟨ys,rfl,b1,H,G,F⟩:=list_of k D z;obtain⟨p,rfl⟩:=int_of o;obtain⟨q,rfl⟩:=int_of hd;obtain⟨l,rfl,_⟩:=vecs_of K I;obtain⟨C,rfl,r⟩:=JG b1 G F;exact⟨⟨l,C,p,q⟩,rfl,wf_i64.1 y,wf_i64.1 s,by simpa[bM] using H,r,by simpa using J⟩
 |[],h,_,_=>simp[kindsOk]at h
 |[_],h,_,_=>simp[kindsOk]at h
 |[_,_],h,_,_=>simp[kindsOk]at h
 |[_,_,_],h,_,_=>simp[kindsOk]at h
 | _::_::_::_::_::_,h,_,_=>simp[kindsOk]at h
end
end
section
def Ji(f:Fen):Bool:=(f.holes.all λh=>decide (h.length<=10))&&(decide (f.outer.length<=10)&&(decide (f.holes.length<=4)||decide (f.holes.length=17)))
theorem KY{f:Fen}(h:Ji f=true):tY f/\f.holes.length<=17:=by unfold Ji at h;simp only[qBa,Bool.or_eq_true,qDa,List.all_eq_true]at h;obtain⟨b,d,c⟩:=h;exact⟨⟨by omega,λx a=>by have:=b x a;omega,by omega⟩,by omega⟩
section
variable (X:Ext) (hX:Mine X)
include hX
theorem l15(d:List V3)(l k:Int)(a:List (List V3))(m:a.length<=9223372036854775807):∀(r:List (List V3)) (i:Nat),a.drop i=r->i<=a.length ->
    L tab (run tab X) 15 [] [.lp [1,0,1,0]] (AL (bK a) (a.length:Int) (i:Int) (encL d) (bK a) l k)=some ([Ac ((r.all λh=>decide (h.length<=10))&&(decide (d.length<=10)&&(decide (a.length<=4)||decide (a.length=17))))],[]):=by
  have _:=hX;intro r;induction r with
  | nil =>
   intro i hd b;have e:i=a.length:=Nat.le_antisymm b (List.drop_eq_nil_iff.1 hd);subst e;refine L_of ?_;rw[J3,xO (by omega),qCf,encL_length,bM];have p:leI ((d.length:Nat):Int) 10=decide (d.length<=10):=decide_eq_decide.2 (by omega);have o:leI ((a.length:Nat):Int) 4=decide (a.length<=4):=decide_eq_decide.2 (by omega);have n:(((a.length:Nat):Int)==17)=decide (a.length=17):=by grind
   grind
  | cons h r g =>
   intro i hd _;have f:a[i]?=some h:=by have:=congrArg (·[0]?) hd;grind
   have b:=(qLa.1 f).1;have j:gh a i=h:=by simp[gh,List.getD,f]
   refine L_of ?_;rw[J3,rZ b,qCt,bM];simp only[rng b,qCt,qIt,gY a b,j];show(bif gtI ((((encL h).length:Nat)):Int) 10 then _ else _)=_;rw[encL_length,List.all_cons];by_cases c:h.length<=10
   . rw[show gtI ((h.length:Nat):Int) 10=false from decide_eq_false (by omega),qCf,decide_eq_true c,Bool.true_and,wrap_eq (by omega) (by omega)];exact g (i+1) (by rw[<- List.drop_drop,hd];rfl) b
   grind
theorem c15(f:Fen)(a:Vw f):run tab X 15 [.p (encF f)] []=some ([Ac (Ji f)],[]):=
 run_of (hX _ rfl) (by rw[encF,e15,bM];exact l15 X hX f.outer f.low f.high f.holes a.holes f.holes 0 qLy (Nat.zero_le _))
variable (hB:Bits X) (hE:EH X) (hS:Sorts X)
include hB hE hS
end
end
section
open Go.Skm.Dig
def Jp(f:Fen)(a b:V3):Bool:=kJ f a&&(kJ f b&&(decide (a.x=b.x/\a.y=b.y)||Jm f a b (numsD a b [⟨0,1⟩,⟨1,1⟩] (dS f))))
abbrev acR:List Wy:=[.lp [1,1,1,1,1,0,1,0]]
abbrev Wp:List Wy:=[.lp [1,1,1,1,0,1,0]]
section
variable (X:Ext) (hX:Mine X)
include hX
theorem Yu(f:Fen)(m:validP f=true)(a b:V3)(z:iy a)(v:iy b){n d u w:Int}{k:Nat}(h:y8 (eQ n d) u w k)(i:0<w)(A:3<=k)(D:k<=1000){t:Rt}(o:0<t.d)(e:u*t.d=t.n*w) :
    ∃ r s g c,run tab X 84 [.p (encV a),.p (encV b),.p (eQ n d)] []=some ([.p (Em r s g c)],[])/\run tab X 68 [.p (encF f),.p (Em r s g c)] []=some ([Ac (En f a b t)],[]):=by
  obtain⟨r,s,g,c,q,l,j⟩:=c84 X hX a b z v h i A (by omega);refine⟨r,s,g,c,q,?_⟩;have C:=c68 X hX f m (show Vk r s g c _ _ w _ from⟨l,j⟩) i (by omega) (by omega);rw[C];have B:GR f (a.x*w+(b.x-a.x)*u) (a.y*w+(b.y-a.y)*u) w=En f a b ⟨u,w⟩:=by unfold En fD;rw[Int.mul_comm a.x w,Int.mul_comm a.y w,Int.add_comm,Int.add_comm (w*a.y),Int.mul_comm w a.x,Int.mul_comm w a.y]
  rw[B,RZ (r:=⟨u,w⟩) i o e]
theorem Yv(f:Fen)(w:validP f=true)(a b:V3)(B:iy a)(A:iy b)(D:List Rt)(C:∀ x∈D,Num x)(hn:D.length<=1000000):∀(r:List Rt) (i:Nat),D.drop i=r->i<=D.length ->
    L tab (run tab X) 29 [] acR (l9 0 D.length (i:Int) (encL f.outer) (bK f.holes) f.low f.high a.x a.y a.z b.x b.y b.z (gU D))=some ([Ac (if i=0 then Jm f a b r else Xd f a b (gr D (i-1)) r)],[]):=by
  intro r;induction r with
  | nil =>intro i hd S;have k:i=D.length:=Nat.le_antisymm S (List.drop_eq_nil_iff.1 hd);subst k;refine L_of ?_;rw[AA,xO (by omega),qCf];split<;>rfl
  | cons t r R =>
   intro i hd _;obtain⟨W,F,V,U⟩:=rH hd;have e:=C t U;have l:gr D i=t:=by
    have T:D[i]?=some t:=by have:=congrArg (·[0]?) hd;simpa using this
    simp[gr,List.getD,T]
   have h:=R (i+1) V F;rw[if_neg (by omega),Nat.add_sub_cancel,l]at h;obtain⟨r1,s1,M,J,q,v⟩:=Yu X hX f w a b B A (Jo e) e.cn.1 (by decide) (by decide) e.cn.1 rfl;rw[encV,encV]at q;rw[encF]at v;refine L_of ?_;rw[AA,rZ F,qCt,le0,qBs,qCt];simp only[qIt,qNz,W,iC];rw[q,qOb];simp only[qLh,pv_p,Jg];rw[v,qOb];simp only[qLh,pv_p,toBool_bool];by_cases E:i=0
   . subst E;rw[if_pos rfl,Jm];cases En f a b t with
     | false=>rfl
     | true =>rw[qBt,qCf,show gtI ((0:Nat):Int) 0=false from rfl,qCf,dL (by omega),Bool.true_and];exact h
   . rw[if_neg E,Xd];cases En f a b t with
     | false=>rfl
     | true =>
      have c:i-1<D.length:=by omega
      have n:D.drop (i-1)=gr D (i-1)::t::r:=by rw[List.drop_eq_getElem_cons c,show i-1+1=i by omega,hd];simp[gr,List.getD,qLd c]
      obtain⟨O,_,_,N⟩:=rH n;have j:=C _ N;generalize gr D (i-1)=s at *;have H:IntKind.i64.wrap ((i:Int)-1)=((i-1:Nat):Int):=by rw[wrap_eq (by omega) (by omega)];omega
      obtain⟨G,y1,Z,Q⟩:=V9 X hX (Jo j) (Jo e) (by decide);have g:y8 (eQ 1 2) 1 2 7:=⟨1,2,rfl,by decide,rfl,bJ (jS (by decide) (by decide)) (by decide),bJ (jS (by decide) (by decide)) (by decide)⟩;obtain⟨x2,y2,Y,P⟩:=RJ X hX Q g (by decide);have m:=BA j.cn.1 e.cn.1;obtain⟨r2,s2,K,I,o,u⟩:=Yu X hX f w a b B A P (Int.mul_pos (Int.mul_pos j.cn.1 e.cn.1) (by decide)) (by decide) (by decide) m.1 (by have:=m.2;rw[Int.mul_one,Int.mul_comm (s.d*t.d) 2];exact this.symm);rw[encV,encV]at o;rw[encF]at u;rw[qBt,qCf,show gtI ((i:Nat):Int) 0=true from decide_eq_true (by omega),qCt,H,rng c,qCt,qCt];simp only[qIt,O,iC];rw[Z,qOb,c71 X hX 1 (by decide) (by decide),qOb,c71 X hX 2 (by decide) (by decide),qOb];simp only[qLh,pv_p,iC];show(run tab X 85 [.p (eQ G y1),.p (eQ 1 2)] []).bind _=_;rw[Y,qOb];simp only[qLh,pv_p,iC];rw[o,qOb];simp only[qLh,pv_p,Jg];rw[u,qOb];simp only[qLh,pv_p,toBool_bool];cases En f a b (iq s t)with
      | false=>rfl
      | true =>rw[qBt,qCf,dL (by omega),Bool.true_and,Bool.true_and];exact h
theorem l29b(f:Fen)(w:validP f=true)(a b:V3)(m:iy a)(j:iy b)(d:¬(a.x=b.x/\a.y=b.y))(E:List jW)(hE:∀ e∈E,iy e.1/\iy e.2)(B:E.length<=2000):∀(r:List jW) (k:Nat) (l:List Rt),E.drop k=r->k<=E.length->DL l->l.length+2*r.length<=700000 ->
    L tab (run tab X) 29 [] Wp (jm 0 l.length 0 E.length (E.length:Int) (k:Int) (encL f.outer) (bK f.holes) f.low f.high a.x a.y a.z b.x b.y b.z (E.map H9) (gU l))=some ([Ac (Jm f a b (numsD a b l r))],[]):=by
  intro r;induction r with
  | nil =>intro k l hd A g h;have i:k=E.length:=Nat.le_antisymm A (List.drop_eq_nil_iff.1 hd);subst i;refine L_of ?_;rw[yc,xO (by omega),qCf];exact Yv X hX f w a b m j l g.num (by simp at h;omega) l 0 rfl (Nat.zero_le _)
  | cons e r u =>intro k l hd _ g h;obtain⟨F,p,D,C⟩:=Bv hd;obtain⟨o,c⟩:=hE e C;obtain⟨s,n⟩:=CV m j o c d;obtain⟨v,G,_,_⟩:=BD (uY a b e.1 e.2) g n;rw[qLl]at h;have t:=u (k+1) _ D p v (by omega);have q:=c83 X hX a b e.1 e.2 m j o c d;rw[encV,encV,CS]at q;refine L_of ?_;rw[yc,rZ p,qCt,le0,qBs,qCt];simp only[qIt,qNz,F,Bf,Bg,Bh,Bj,Bo,Bq];rw[q,qOb];simp only[qLh,AV.freshList,rG];exact acQ X hX f a b 0 E.length (E.length:Int) (E.map H9) n s k (by omega) _ (uY a b e.1 e.2) 0 l rfl (Nat.zero_le _) g (by omega) t
theorem l29a(f:Fen)(s:validP f=true)(a b:V3)(i:iy a)(h:iy b)(c:¬(a.x=b.x/\a.y=b.y))(E:List jW)(hE:∀ e∈E,iy e.1/\iy e.2)(n:E.length<=2000):∀(r:List jW) (k:Nat) (l:List Rt),E.drop k=r->k<=E.length->DL l->l.length+2*r.length<=700000 ->
    L tab (run tab X) 29 [] Wp (lT 0 l.length 0 E.length (E.length:Int) (k:Int) (encL f.outer) (bK f.holes) f.low f.high a.x a.y a.z b.x b.y b.z (gU l) (E.map H9))=some ([Ac (Jm f a b (numsD a b l r))],[]):=by
  intro r;induction r with
  | nil =>intro k l hd D g j;have m:k=E.length:=Nat.le_antisymm D (List.drop_eq_nil_iff.1 hd);subst m;refine L_of ?_;rw[Du,xO (by omega),qCf];exact Yv X hX f s a b i h l g.num (by simp at j;omega) l 0 rfl (Nat.zero_le _)
  | cons e r C =>intro k l hd _ g j;obtain⟨G,o,u,F⟩:=Bv hd;obtain⟨t,d⟩:=hE e F;obtain⟨w,p⟩:=CV i h t d c;obtain⟨q,H,_,_⟩:=BD (uY a b e.1 e.2) g p;rw[qLl]at j;have A:=C (k+1) _ u o q (by omega);have B:=l29b X hX f s a b i h c E hE n r (k+1) _ u o q (by omega);have v:=c83 X hX a b e.1 e.2 i h t d c;rw[encV,encV,CS]at v;refine L_of ?_;rw[Du,rZ o,qCt,le0,qBs,qCt];simp only[qIt,qNz,G,Bf,Bg,Bh,Bj,Bo,Bq];rw[v,qOb];simp only[qLh,AV.freshList,rG];exact acP X hX f a b 0 E.length (E.length:Int) (E.map H9) p w k (by omega) _ (uY a b e.1 e.2) 0 l rfl (Nat.zero_le _) g (by omega) B A
theorem c29(f:Fen)(e:validP f=true)(a b:V3)(q:iy a)(o:iy b):run tab X 29 [.p (encF f),.p (encV a),.p (encV b)] []=some ([Ac (Jp f a b)],[]):=by
 have l:=c22 X hX f e a q.up;have k:=c22 X hX f e b o.up;have d:=c30 X hX f e;have n:=c57 X hX 0 (by decide) (by decide);have m:=c57 X hX 1 (by decide) (by decide);refine run_of (hX _ rfl) ?_;rw[encF]at l k d;rw[encV]at l k;rw[encF,encV,encV,e29,l,qOb];simp only[qLh,pv_p,toBool_bool];unfold Jp;cases kJ f a with
 | false=>rfl
 | true =>
  rw[qBt,qCf,k,qOb,Bool.true_and];simp only[qLh,pv_p,toBool_bool];cases kJ f b with
  | false=>rfl
  | true =>
   rw[qBt,qCf,Bool.true_and];have g:¬(a.x=b.x/\a.y=b.y)->L tab (run tab X) 29 [] Wp (lT 0 2 0 (dS f).length ((dS f).length:Int) 0 (encL f.outer) (bK f.holes) f.low f.high a.x a.y a.z b.x b.y b.z [eQ 0 1,eQ 1 1] ((dS f).map H9))=some ([Ac (Jm f a b (numsD a b [⟨0,1⟩,⟨1,1⟩] (dS f)))],[]):=λc=>by have r:=FP e;exact l29a X hX f e a b q o c (dS f) (tK e) r (dS f) 0 [⟨0,1⟩,⟨1,1⟩] rfl (Nat.zero_le _) Vm (by simp;omega)
   by_cases j:a.x=b.x
   . rw[show(a.x==b.x)=true from beq_iff_eq.2 j,qCt];by_cases i:a.y=b.y
     . rw[show(a.y==b.y)=true from beq_iff_eq.2 i,qCt,decide_eq_true ⟨j,i⟩];rfl
     . have c:¬(a.x=b.x/\a.y=b.y):=λh=>i h.2;rw[show(a.y==b.y)=false from beq_eq_false_iff_ne.2 i,qCf,n,qOb,m,qOb,d,qOb,decide_eq_false c,Bool.false_or];simp only[qLh,AV.freshList,qLm,pv_p,iC];exact g c
   . have c:¬(a.x=b.x/\a.y=b.y):=λh=>j h.1;rw[show(a.x==b.x)=false from beq_eq_false_iff_ne.2 j,qCf,n,qOb,m,qOb,d,qOb,decide_eq_false c,Bool.false_or];simp only[qLh,AV.freshList,qLm,pv_p,iC];exact g c
theorem Qi{f:Fen}(d:validP f=true){a b:V3}(g:inM 1048576 a=true)(e:inM 1048576 b=true):pK f a b=(Jp f a b,0):=by
 have _:=hX;unfold pK Jp;rw[if_pos d,if_pos g,if_pos e];cases kJ f a with
 | false=>rfl
 | true =>
  cases kJ f b with
  | false=>rfl
  | true =>
   rw[if_pos rfl,if_pos rfl,Bool.true_and,Bool.true_and];by_cases c:a.x=b.x/\a.y=b.y
   . rw[if_pos c,decide_eq_true c];rfl
   . rw[if_neg c,decide_eq_false c,Bool.false_or,Nr d (pJ.1 g) (pJ.1 e) c]
variable (hB:Bits X) (hE:EH X) (hS:Sorts X)
include hB hE hS
theorem law7(f:Fen)(r:Vw f)(a b:V3):run tab X 7 [.p (encF f),.p (encV a),.p (encV b)] []=some ([Ac true],[]):=
 run_of (hX _ rfl) (by
  have j:=c11 X hX hB hE hS;have h:=c15 X hX f r;rw[encF]at h;rw[encF,encV,encV,e7,h,qOb];simp only[qLh,pv_p,toBool_bool];cases q:Ji f with
  | false=>rw[Bool.not_false,qCt,j];rfl
  | true =>
   obtain⟨o,_⟩:=KY q;have d:=c17 X hX f o;have c:=c28 X hX hB hE hS f o a b;have n:=c21 X hX a;have m:=c21 X hX b;rw[Qa]at d;rw[encF]at d c;rw[encV,encV]at c;rw[encV]at n m;rw[qBt,qCf,c,qOb,d,qOb];simp only[Cm,qLh,List.tail_cons,pv_p,toBool_bool,toInt_int];cases i:validP f with
   | false =>
    have e:pK f a b=(false,2):=by unfold pK;rw[if_neg (by rw[i];decide)]
    rw[e,j];rfl
   | true =>
    rw[qBt,qCf,n,qOb];simp only[qLh,pv_p,toBool_bool];cases k:inM 1048576 a with
    | false =>
     have e:pK f a b=(false,2):=by unfold pK;rw[if_pos i,if_neg (by rw[k];decide)]
     rw[e,j];rfl
    | true =>
     rw[qBt,qCf,m,qOb];simp only[qLh,pv_p,toBool_bool];cases l:inM 1048576 b with
     | false =>
      have e:pK f a b=(false,2):=by unfold pK;rw[if_pos i,if_pos k,if_neg (by rw[l];decide)]
      rw[e,j];rfl
     | true =>have g:=c29 X hX f i a b (pJ.1 k) (pJ.1 l);rw[encF,encV,encV]at g;rw[qBt,qCf,g,qOb,Qi X hX i k l];simp only[qLh,pv_p,toBool_bool];rw[beq_self_eq_true,qCt,show((0:Int)==0)=true from rfl,qCt,j];rfl)
end
end
end Go.Skm.Fen
