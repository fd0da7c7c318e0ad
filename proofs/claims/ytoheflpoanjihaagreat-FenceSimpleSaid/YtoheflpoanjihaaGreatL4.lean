import Derived.Test.YtoheflpoanjihaaGreatG24
import Derived.Test.YtoheflpoanjihaaGreatH1
import Derived.Test.YtoheflpoanjihaaGreatEqv4
namespace Go.Skm.Fen
open Go Go.Skm
def NM:List Int→List V3
 | x::y::r=>⟨x,y,0⟩::NM r
 | _=>[]
def encI (l:List Int):List PV:=l.map fun n=>.int .i64 n
theorem XL (l:List Int) {i:Nat} (h:i<l.length):(encI l).getD i .nil=.int .i64 (l.getD i 0):=by rw[encI,qLb,List.getElem?_map,qLd h];simp[qLb,qLd h]
theorem Aj (l:List V3):((dh l).drop 0).take (dh l).length=dh l:=by rw[List.drop_zero,List.take_length]
def aa0 (p:V3):Rt→List AX→Rt
 | b,[]=>b
 | b,e::r=>aa0 p (if(dist e.1 e.2 p).n*b.d-b.n*(dist e.1 e.2 p).d<0 then dist e.1 e.2 p else b) r
theorem VA {p:V3} (hp:qR p):∀ {es:List AX} {b:Rt},b.ok→(∀ e∈es,qR e.1∧qR e.2)→NK p b es=aa0 p b es
 | [],_,_,_=>rfl
 | e::r,b,hb,he=>by
  have hd:=Vw (he e (by simp)).1 (he e (by simp)).2 hp;unfold NK aa0;by_cases h:(dist e.1 e.2 p).n*b.d-b.n*(dist e.1 e.2 p).d<0
  · rw[if_pos (.inr h),if_pos h];exact VA hp hd fun e' he'=>he e' (by simp[he'])
  · rw[if_neg (by rintro (h' | h')<;>contradiction),if_neg h];exact VA hp hb fun e' he'=>he e' (by simp[he'])
def Ud (p:V3):List AX→Rt
 | []=>⟨0,0⟩
 | e::r=>aa0 p (dist e.1 e.2 p) r
theorem Zr {p:V3} (hp:qR p) {es:List AX} (he:∀ e∈es,qR e.1∧qR e.2):NK p ⟨0,0⟩ es=Ud p es:=by
 cases es with
 | nil=>rfl
 | cons e r =>unfold NK Ud;have h0:¬ (⟨0,0⟩:Rt).ok:=fun h=>absurd h.2.2 (by decide);rw[if_pos (.inl h0)];exact VA hp (Vw (he e (by simp)).1 (he e (by simp)).2 hp) fun e' he'=>he e' (by simp[he'])
section
variable (X:Ext) (hX:Mine X)
include hX
theorem c14 (x y z:Int):run tab X 14 [.p (.int .i64 x),.p (.int .i64 y),.p (.int .i64 z)] []=some ([.p (dn ⟨x,y,z⟩)],[]):=bF (hX _ rfl) (by rw[e14];rfl)
theorem l37 (n : List Int) (hn : n.length ≤ 1000000) : ∀ (r : List Int) (i : Nat) (out : List V3),n.drop i = r → i ≤ n.length → out.length ≤ i →
    L tab (run tab X) 37 [] [.lp [1,1,0,1,0]] (Hr (encI n) 0 out.length (i:Int) (dh out))=some ([.fresh true aW (dh (out++NM r))],[])
  | [],i,out,hr,hi,ho=>by
   have _:=hX;have hil:n.length≤i:=List.drop_eq_nil_iff.1 hr;have hlen:(encI n).length=n.length:=by simp[encI]
   refine dW ?_;rw[L8,lW (by omega),hlen,SQ (by omega),cond_false,show NM []=[] from rfl,List.append_nil,show out.length=(dh out).length by simp[dh],Aj]
  | [x],i,out,hr,hi,ho=>by
   have hil:n.length=i+1:=by have:=congrArg List.length hr;simp at this;omega
   have hlen:(encI n).length=n.length:=by simp[encI]
   refine dW ?_;rw[L8,lW (by omega),hlen,SQ (by omega),cond_false,show NM [x]=[] from rfl,List.append_nil,show out.length=(dh out).length by simp[dh],Aj]
  | x::y::r,i,out,hr,hi,ho=>by
   have hil:i+2≤n.length:=by have:=congrArg List.length hr;simp at this;omega
   have hlen:(encI n).length=n.length:=by simp[encI]
   have h0:n.getD i 0=x:=by rw[qLb,← List.head?_drop,hr];rfl
   have hd1:n.drop (i+1)=y::r:=by rw[← List.tail_drop,hr];rfl
   have hd2:n.drop (i+2)=r:=by rw[show i+2=i+1+1 from rfl,← List.tail_drop,hd1];rfl
   have h1:n.getD (i+1) 0=y:=by rw[qLb,← List.head?_drop,hd1];rfl
   have w2:IntKind.i64.wrap ((i:Int)+2)=((i+2:Nat):Int):=by rw[wrap_eq (by omega) (by omega)];omega
   refine dW ?_;rw[L8,lW (by omega),hlen,Hw (by omega),cond_true,rng (by omega),cond_true,le0,Bool.and_self,cond_true,show Fe (out.length+1) 2147483648=true from decide_eq_true (by omega),cond_true,w2];rw[Int.toNat_natCast,Int.toNat_natCast,XL n (show i<n.length by omega),XL n (show i+1<n.length by omega),h0,h1];have key:=l37 n hn r (i+2) (out++[⟨x,y,0⟩]) hd2 (by omega) (by simp;omega);rw[List.length_append,List.length_singleton]at key;have e0:((dh out).drop 0).take out.length=dh out:=by rw[show out.length=(dh out).length by simp[dh],Aj]
   rw[e0,NM,show out++⟨x,y,0⟩::NM r=out++[⟨x,y,0⟩]++NM r by simp];have e1:dh (out++[⟨x,y,0⟩])=dh out++[.agg [.int .i64 x,.int .i64 y,.int .i64 0]]:=by simp[dh,dn]
   rw[e1]at key;exact key
theorem c37 (n:List Int) (hn:n.length≤1000000):run tab X 37 [.p (.list false [.int .i64] (encI n))] []=some ([.fresh true aW (dh (NM n))],[]) :=
 bF (hX _ rfl) (by rw[e37];exact l37 X hX n hn n 0 [] rfl (by omega) (by simp))
variable (hB:Bits X)
include hB
theorem c27 (n d:Int) (h1:-9223372036854775808≤n∧n≤9223372036854775807) (h2:-9223372036854775808≤d∧d≤9223372036854775807):run tab X 27 [.p (.int .i64 n),.p (.int .i64 d)] []=some ([.p (eR n d)],[]) :=
 bF (hX _ rfl) (by
  have _:=hB;have hl:∀ z:Int,-9223372036854775808≤z∧z≤9223372036854775807→SX z 1000000:=fun z hz=>by
   unfold SX
   exact Nat.le_trans (Dig.qp (b := B9) (k := 3) (by decide) (by have : B9 ^ 3 = 1000000000000000000000000000 := by decide
                                                                 omega)) (by decide)
  rw[e27,c71 X hX n h1.1 h1.2,Option.bind_some];simp only[List.headD_cons,dA,Ak];rw[c70 X hX n (hl n h1),Option.bind_some,c71 X hX d h2.1 h2.2,Option.bind_some];simp only[List.headD_cons,dA,Ak];rw[c70 X hX d (hl d h2),Option.bind_some];rfl)
end
end Go.Skm.Fen
namespace Go.Skm.Fen
open Go Go.Skm
def kO:List V3:=[⟨0,0,0⟩,⟨10,0,0⟩,⟨10,10,0⟩,⟨0,10,0⟩]
def kH:List V3:=[⟨4,4,0⟩,⟨4,6,0⟩,⟨6,6,0⟩,⟨6,4,0⟩]
def kF:Fen:=⟨kO,[kH],1,5⟩
theorem kn1:lG [⟨0,0,0⟩,⟨2,0,0⟩,⟨0,2,0⟩,⟨2,2,0⟩]=false:=by decide +kernel
theorem kn2:lG [⟨0,0,0⟩,⟨1,0,0⟩,⟨2,0,0⟩]=false:=by decide +kernel
theorem kn3:lG [⟨0,0,0⟩,⟨1,0,0⟩,⟨2,0,0⟩,⟨0,2,0⟩]=true:=by decide +kernel
theorem knV:lV kF=true:=by decide +kernel
theorem knA:Vq kF=(192,0):=by decide +kernel
theorem anP:Zk kF ⟨4,5,3⟩=(true,0):=by decide +kernel
theorem anQ:Zk kF ⟨10,10,5⟩=(true,0):=by decide +kernel
theorem anR:Zk kF ⟨5,5,3⟩=(false,0):=by decide +kernel
theorem anS:Zk kF ⟨2,2,6⟩=(false,0):=by decide +kernel
theorem anT:Xx kF ⟨9,2⟩ ⟨9,2⟩ ⟨3,1⟩=false:=by decide +kernel
theorem anU:Xx kF ⟨9,2⟩ ⟨4,1⟩ ⟨3,1⟩=true:=by decide +kernel
theorem anV:MB kF ⟨1,1,2⟩ ⟨9,1,4⟩=(true,0):=by decide +kernel
theorem anW:MB kF ⟨1,5,2⟩ ⟨9,5,2⟩=(false,0):=by decide +kernel
theorem anX:MB kF ⟨4,0,1⟩ ⟨4,10,1⟩=(true,0):=by decide +kernel
theorem anY:MB kF ⟨3,3,3⟩ ⟨7,7,3⟩=(false,0):=by decide +kernel
theorem knE:o7 kF=[(⟨0,0,0⟩,⟨10,0,0⟩),(⟨10,0,0⟩,⟨10,10,0⟩),(⟨10,10,0⟩,⟨0,10,0⟩),(⟨0,10,0⟩,⟨0,0,0⟩),(⟨4,4,0⟩,⟨4,6,0⟩),(⟨4,6,0⟩,⟨6,6,0⟩),(⟨6,6,0⟩,⟨6,4,0⟩),(⟨6,4,0⟩,⟨4,4,0⟩)]:=by decide +kernel
theorem anZ:Ud ⟨3,3,0⟩ (o7 kF)=⟨2,1⟩:=by decide +kernel
theorem an0:Ud ⟨20,5,0⟩ (o7 kF)=⟨100,1⟩:=by decide +kernel
theorem an1:Ud ⟨5,5,0⟩ (o7 kF)=⟨1,1⟩:=by decide +kernel
end Go.Skm.Fen
namespace Go.Skm.Fen
open Go Go.Skm
theorem rC:Dh kF:=⟨by decide,by decide,by decide⟩
theorem Ue {n d:Int} (hn:n.natAbs<aZ) (hd:d.natAbs<aZ) (h:0<d):(⟨n,d⟩:Rt).ok:=⟨wI hn,wI hd,h⟩
theorem F5 {n d:Int} (hn:n.natAbs<aZ) (hd:d.natAbs<aZ):qG ⟨n,d⟩=false:=by have h1:bl n.natAbs≤64:=Kr hn;have h2:bl d.natAbs≤64:=Kr hd;exact decide_eq_false (by show ¬ (8192<bl n.natAbs∨8192<bl d.natAbs);omega)
theorem an2:atP kF ⟨9,2⟩ ⟨9,2⟩ ⟨3,1⟩=(false,0):=by unfold atP;rw[if_pos ⟨Ue (by decide) (by decide) (by decide),Ue (by decide) (by decide) (by decide),Ue (by decide) (by decide) (by decide)⟩,if_pos knV,F5 (by decide) (by decide),F5 (by decide) (by decide),anT];rfl
theorem an3:atP kF ⟨9,2⟩ ⟨4,1⟩ ⟨3,1⟩=(true,0):=by unfold atP;rw[if_pos ⟨Ue (by decide) (by decide) (by decide),Ue (by decide) (by decide) (by decide),Ue (by decide) (by decide) (by decide)⟩,if_pos knV,F5 (by decide) (by decide),F5 (by decide) (by decide),F5 (by decide) (by decide),anU];rfl
theorem Qo (p:V3) (h:vO 1048576 p=true):Qi kF p=(Ud p (o7 kF),0):=by unfold Qi;rw[if_pos knV,if_pos h,Zr (Cc.1 h) (Me knV)]
abbrev w11:List Wy:=[.lp [1,1,1,1,1,0,1,0]]
abbrev v11 (ys:List PV):List Wy:=[.rg [1,1,1,1,1,1,1,1,1,1,1,1,1,1,1,1,0,1,0] [(true,aW),(true,aW)] ys]
abbrev A11 (i:Int):St:=zn (dh kO) (fB [kH]) 1 5 0 4 4 i false (dh [⟨4,5,3⟩,⟨10,10,5⟩,⟨5,5,3⟩,⟨2,2,6⟩])
abbrev B11 (n:Int):St:=fM (dh kO) (fB [kH]) 1 5 (dh kO) (fB [kH]) 1 5 false n
section
variable (X:Ext) (hX:Mine X)
include hX
variable (hB:Bits X) (hE:TJ X) (hS:Sorts X)
include hB hE
theorem n11:L tab (run tab X) 11 [] (v11 []) (B11 8)=some ([.p (.bool true)],[]):=by have d1:=c32 X hX hB hE kF rC ⟨3,3,0⟩;have d2:=c32 X hX hB hE kF rC ⟨20,5,0⟩;have d3:=c32 X hX hB hE kF rC ⟨5,5,0⟩;rw[Qo _ (by decide),anZ]at d1;rw[Qo _ (by decide),an0]at d2;rw[Qo _ (by decide),an1]at d3;have q1:=c27 X hX hB 2 1 (by decide) (by decide);have q2:=c27 X hX hB 100 1 (by decide) (by decide);have q3:=c27 X hX hB 1 1 (by decide) (by decide);rw[zo,c14 X hX,Option.bind_some];show (run tab X 32 [.p (mF kF),.p (dn ⟨3,3,0⟩)] []).bind _=_;rw[d1,Option.bind_some,c14 X hX,Option.bind_some];show (run tab X 32 [.p (mF kF),.p (dn ⟨20,5,0⟩)] []).bind _=_;rw[d2,Option.bind_some,c14 X hX,Option.bind_some];show (run tab X 32 [.p (mF kF),.p (dn ⟨5,5,0⟩)] []).bind _=_;rw[d3,Option.bind_some,show ((8:Int)==8)=true from rfl,cond_true,q1,Option.bind_some];simp only[List.headD_cons,List.tail_cons,dA,toInt_int];rw[show eR 2 1=sG ⟨2,1⟩ from rfl,U2,decide_eq_true rfl,cond_true,show ((0:Int)==0)=true from rfl,cond_true,q2,Option.bind_some];simp only[List.headD_cons,List.tail_cons,dA,toInt_int];rw[show eR 100 1=sG ⟨100,1⟩ from rfl,U2,decide_eq_true rfl,cond_true,cond_true,q3,Option.bind_some];simp only[List.headD_cons,List.tail_cons,dA,toInt_int];rw[show eR 1 1=sG ⟨1,1⟩ from rfl,U2,decide_eq_true rfl,cond_true]
theorem s11 (n : Int) (a b : V3) (ys : List PV) (res : Option (List AV × List cu)) (hn : 0 ≤ n ∧ n ≤ 7) (h0 : n = 0 → a = ⟨0,0,0⟩ ∧ b = ⟨10,0,0⟩) (h4 : n = 4 → a = ⟨4,4,0⟩ ∧ b = ⟨4,6,0⟩)
    (h:L tab (run tab X) 11 [] (v11 ys) (B11 (n+1))=res):L tab (run tab X) 11 [] (v11 (eY (a,b)::ys)) (B11 n)=res:=by
  have _:=hB;have _:=hE;have hw:IntKind.i64.wrap (n+1)=n+1:=wrap_eq (by omega) (by omega);show L tab (run tab X) 11 [] (v11 (.agg [.agg [.int .i64 a.x,.int .i64 a.y,.int .i64 a.z],.agg [.int .i64 b.x,.int .i64 b.y,.int .i64 b.z]]::ys)) (B11 n)=res;have g:kX n 7=false:=decide_eq_false (by omega);rw[yJ];by_cases c0:n=0
  · obtain⟨rfl,rfl⟩:=h0 c0;subst c0;rw[show ((0:Int)==0)=true from rfl,cond_true,c14 X hX,Option.bind_some,c14 X hX,Option.bind_some,hw];exact h
  · rw[show (n==0)=false from beq_eq_false_iff_ne.2 c0,cond_false];by_cases c4:n=4
    · obtain⟨rfl,rfl⟩:=h4 c4;subst c4;rw[show ((4:Int)==4)=true from rfl,cond_true,c14 X hX,Option.bind_some,c14 X hX,Option.bind_some,hw];exact h
    · rw[show (n==4)=false from beq_eq_false_iff_ne.2 c4,cond_false,g,cond_false,hw];exact h
theorem m11:L tab (run tab X) 11 [] (v11 ((uf kF).map eY)) (B11 0)=some ([.p (.bool true)],[]):=by
 have e:uf kF=o7 kF:=by unfold uf;rw[if_pos knV]
 rw[e,knE];simp only[List.map_cons,List.map_nil];refine s11 X hX hB hE 0 _ _ _ _ (by omega) (fun _=>⟨rfl,rfl⟩) (fun h=>by omega) ?_;refine s11 X hX hB hE 1 _ _ _ _ (by omega) (fun h=>by omega) (fun h=>by omega) ?_;refine s11 X hX hB hE 2 _ _ _ _ (by omega) (fun h=>by omega) (fun h=>by omega) ?_;refine s11 X hX hB hE 3 _ _ _ _ (by omega) (fun h=>by omega) (fun h=>by omega) ?_;refine s11 X hX hB hE 4 _ _ _ _ (by omega) (fun h=>by omega) (fun _=>⟨rfl,rfl⟩) ?_;refine s11 X hX hB hE 5 _ _ _ _ (by omega) (fun h=>by omega) (fun h=>by omega) ?_;refine s11 X hX hB hE 6 _ _ _ _ (by omega) (fun h=>by omega) (fun h=>by omega) ?_;refine s11 X hX hB hE 7 _ _ _ _ (by omega) (fun h=>by omega) (fun h=>by omega) ?_;exact n11 X hX hB hE
include hS
theorem z11:L tab (run tab X) 11 [] w11 (A11 4)=some ([.p (.bool true)],[]):=by have a1:=c24 X hX hB kF rC ⟨9,2⟩ ⟨9,2⟩ ⟨3,1⟩;have a2:=c24 X hX hB kF rC ⟨9,2⟩ ⟨4,1⟩ ⟨3,1⟩;rw[an2]at a1;rw[an3]at a2;have b1:=c28 X hX hB hE hS kF rC ⟨1,1,2⟩ ⟨9,1,4⟩;have b2:=c28 X hX hB hE hS kF rC ⟨1,5,2⟩ ⟨9,5,2⟩;have b3:=c28 X hX hB hE hS kF rC ⟨4,0,1⟩ ⟨4,10,1⟩;have b4:=c28 X hX hB hE hS kF rC ⟨3,3,3⟩ ⟨7,7,3⟩;rw[anV]at b1;rw[anW]at b2;rw[anX]at b3;rw[anY]at b4;have h31:=c31 X hX kF;have h87:=hE.e kF rC;have q92:=c27 X hX hB 9 2 (by decide) (by decide);have q41:=c27 X hX hB 4 1 (by decide) (by decide);have q31:=c27 X hX hB 3 1 (by decide) (by decide);refine dW ?_;rw[J9,show dG (4:Int) 4=false from rfl,cond_false];rw[q92,Option.bind_some,Option.bind_some,q31,Option.bind_some];show (run tab X 24 [.p (mF kF),.p (sG ⟨9,2⟩),.p (sG ⟨9,2⟩),.p (sG ⟨3,1⟩)] []).bind _=_;rw[a1,Option.bind_some,q41,Option.bind_some,Option.bind_some,Option.bind_some];show (run tab X 24 [.p (mF kF),.p (sG ⟨9,2⟩),.p (sG ⟨4,1⟩),.p (sG ⟨3,1⟩)] []).bind _=_;rw[a2,Option.bind_some,c14 X hX,Option.bind_some,c14 X hX,Option.bind_some];show (run tab X 28 [.p (mF kF),.p (dn ⟨1,1,2⟩),.p (dn ⟨9,1,4⟩)] []).bind _=_;rw[b1,Option.bind_some,c14 X hX,Option.bind_some,c14 X hX,Option.bind_some];show (run tab X 28 [.p (mF kF),.p (dn ⟨1,5,2⟩),.p (dn ⟨9,5,2⟩)] []).bind _=_;rw[b2,Option.bind_some,c14 X hX,Option.bind_some,c14 X hX,Option.bind_some];show (run tab X 28 [.p (mF kF),.p (dn ⟨4,0,1⟩),.p (dn ⟨4,10,1⟩)] []).bind _=_;rw[b3,Option.bind_some,c14 X hX,Option.bind_some,c14 X hX,Option.bind_some];show (run tab X 28 [.p (mF kF),.p (dn ⟨3,3,3⟩),.p (dn ⟨7,7,3⟩)] []).bind _=_;rw[b4,Option.bind_some];show (run tab X 31 [.p (mF kF)] []).bind _=_;rw[h31,Option.bind_some];show (run tab X 87 [.vN,.p (.ref (FH kF))] [.log true []]).bind _=_;rw[h87,Option.bind_some];exact m11 X hX hB hE
theorem p11 (i:Nat) (hi:i<4) (p:V3) (hp:(dh [⟨4,5,3⟩,⟨10,10,5⟩,⟨5,5,3⟩,⟨2,2,6⟩]).getD i .nil=dn p) (hv:Zk kF p=(decide (i<2),0)) (h:L tab (run tab X) 11 [] w11 (A11 ((i+1:Nat):Int))=some ([.p (.bool true)],[])):L tab (run tab X) 11 [] w11 (A11 (i:Int))=some ([.p (.bool true)],[]):=by have _:=hB;have _:=hE;have _:=hS;have h1:=c20 X hX kF rC p;rw[hv]at h1;have g1:dG (i:Int) 4=true:=decide_eq_true (by omega);have g2:dG (i:Int) ((4:Nat):Int)=true:=decide_eq_true (by omega);have g3:dG (i:Int) 2=decide (i<2):=decide_eq_decide.2 (by omega);refine dW ?_;rw[J9,g1,cond_true,le0,g2];simp only[Bool.and_self,cond_true,Int.toNat_natCast,Nat.zero_add,hp,lW (show i≤9000000000000000000 by omega)];show (run tab X 20 [.p (mF kF),.p (dn p)] []).bind _=_;rw[h1,Option.bind_some];unfold OC;simp only[List.headD_cons,List.tail_cons,dA,toInt_int,bD];rw[g3,beq_self_eq_true,Bool.not_true,cond_false,show ((0:Int) != 0)=false from rfl,cond_false];exact h
theorem c11:run tab X 11 [] []=some ([.p (.bool true)],[]) :=
 bF (hX _ rfl) (by have l1:=c37 X hX [0,0,2,0,0,2,2,2] (by decide);have l2:=c37 X hX [0,0,1,0,2,0] (by decide);have l3:=c37 X hX [0,0,1,0,2,0,0,2] (by decide);have l4:=c37 X hX [0,0,10,0,10,10,0,10] (by decide);have l5:=c37 X hX [4,4,4,6,6,6,6,4] (by decide);have s1:=c12 X hX [⟨0,0,0⟩,⟨2,0,0⟩,⟨0,2,0⟩,⟨2,2,0⟩] (by decide);have s2:=c12 X hX [⟨0,0,0⟩,⟨1,0,0⟩,⟨2,0,0⟩] (by decide);have s3:=c12 X hX [⟨0,0,0⟩,⟨1,0,0⟩,⟨2,0,0⟩,⟨0,2,0⟩] (by decide);rw[kn1]at s1;rw[kn2]at s2;rw[kn3]at s3;have a:=c16 X hX kF rC;rw[knA]at a;have v:=c18 X hX kF rC;rw[knV]at v;rw[e11];show (run tab X 37 [.p (.list false [.int .i64] (encI [0,0,2,0,0,2,2,2]))] []).bind _=_;rw[l1,Option.bind_some];show (run tab X 12 [.p (.list true aW (dh [⟨0,0,0⟩,⟨2,0,0⟩,⟨0,2,0⟩,⟨2,2,0⟩]))] []).bind _=_;rw[s1,Option.bind_some];simp only[List.headD_cons,dA,bD,cond_false];show (run tab X 37 [.p (.list false [.int .i64] (encI [0,0,1,0,2,0]))] []).bind _=_;rw[l2,Option.bind_some];show (run tab X 12 [.p (.list true aW (dh [⟨0,0,0⟩,⟨1,0,0⟩,⟨2,0,0⟩]))] []).bind _=_;rw[s2,Option.bind_some];simp only[List.headD_cons,dA,bD,cond_false];show (run tab X 37 [.p (.list false [.int .i64] (encI [0,0,1,0,2,0,0,2]))] []).bind _=_;rw[l3,Option.bind_some];show (run tab X 12 [.p (.list true aW (dh [⟨0,0,0⟩,⟨1,0,0⟩,⟨2,0,0⟩,⟨0,2,0⟩]))] []).bind _=_;rw[s3,Option.bind_some];simp only[List.headD_cons,dA,bD,Bool.not_true,cond_false];show (run tab X 37 [.p (.list false [.int .i64] (encI [0,0,10,0,10,10,0,10]))] []).bind _=_;rw[l4,Option.bind_some];show (run tab X 37 [.p (.list false [.int .i64] (encI [4,4,4,6,6,6,6,4]))] []).bind _=_;rw[l5,Option.bind_some];show (run tab X 16 [.p (mF kF)] []).bind _=_;rw[a,Option.bind_some];simp only[List.headD_cons,List.tail_cons,dA,toInt_int];rw[show ((192:Int) != 192)=false from rfl,cond_false,show ((0:Int) != 0)=false from rfl,cond_false];show (run tab X 18 [.p (mF kF)] []).bind _=_;rw[v,Option.bind_some];simp only[List.headD_cons,dA,bD,Bool.not_true,cond_false];rw[c14 X hX,Option.bind_some,c14 X hX,Option.bind_some,c14 X hX,Option.bind_some,c14 X hX,Option.bind_some];show L tab (run tab X) 11 [] w11 (A11 ((0:Nat):Int))=_;refine p11 X hX hB hE hS 0 (by decide) ⟨4,5,3⟩ rfl anP ?_;refine p11 X hX hB hE hS 1 (by decide) ⟨10,10,5⟩ rfl anQ ?_;refine p11 X hX hB hE hS 2 (by decide) ⟨5,5,3⟩ rfl anR ?_;refine p11 X hX hB hE hS 3 (by decide) ⟨2,2,6⟩ rfl anS ?_;exact z11 X hX hB hE hS)
end
end Go.Skm.Fen
namespace Go.Skm.Fen
open Go Go.Skm
def kG (n:Nat):List V3:=(List.range n).map fun i:Nat=>⟨10*i,(i:Int)%2,i⟩
def wM (m:Nat):List V3:=kG (m-1)++[⟨5*m,1000,0⟩]
def MC (lo n:Nat):Bool:=(List.range n).all fun k=>lG (wM (lo+k))
theorem tr1:MC 3 30=true:=by kernel_rfl
theorem tr2:MC 33 12=true:=by kernel_rfl
theorem tr3:MC 45 10=true:=by kernel_rfl
theorem tr4:MC 55 5=true:=by kernel_rfl
theorem tr5:MC 60 5=true:=by kernel_rfl
theorem Qq {lo n m:Nat} (h:MC lo n=true) (h1:lo≤m) (h2:m<lo+n):lG (wM m)=true:=by have:=List.all_eq_true.1 h (m-lo) (List.mem_range.2 (by omega));rwa[show lo+(m-lo)=m by omega]at this
theorem MF (m:Nat):(wM m).length=m-1+1:=by simp[wM,kG]
theorem Zx {m:Nat} (h3:3≤m):lG (wM m)=decide (m≤64):=by
 by_cases h:m≤64
 · rw[decide_eq_true h];rcases Nat.lt_or_ge m 33 with h1 | h1
   · exact Qq tr1 h3 h1
   · rcases Nat.lt_or_ge m 45 with h2 | h2
     · exact Qq tr2 h1 h2
     · rcases Nat.lt_or_ge m 55 with h4 | h4
       · exact Qq tr3 h2 h4
       · rcases Nat.lt_or_ge m 60 with h5 | h5
         · exact Qq tr4 h4 h5
         · exact Qq tr5 h5 (by omega)
 · rw[decide_eq_false h];cases hs:lG (wM m) with
   | false=>rfl
   | true =>have:=(mG hs).2.1;rw[MF]at this;omega
end Go.Skm.Fen
namespace Go.Skm.Fen
open Go Go.Skm
abbrev w3:List Wy:=[.lp [1,1,1,1,1,0,1,0]]
section
variable (X:Ext) (hX:Mine X)
include hX
variable (hB:Bits X) (hE:TJ X) (hS:Sorts X)
include hB hE hS
theorem l3 (m : Nat) (h3 : 3 ≤ m) (h70 : m ≤ 70) : ∀ (k i : Nat),i + k = m - 1 →
    L tab (run tab X) 3 [] w3 (Bq (m:Int) 0 (kG i).length (i:Int) (dh (kG i)))=some ([.p (.bool true)],[]):=by
  have wm:IntKind.i64.wrap ((m:Int)-1)=((m-1:Nat):Int):=by rw[wrap_eq (by omega) (by omega)];omega
  have hlen:∀ i,(kG i).length=i:=fun i=>by simp[kG]
  intro k;induction k with
  | zero =>
   intro i hi;have hil:i=m-1:=by omega
   subst hil;have hs:=Zx h3;have q:=c12 X hX (wM m) (by rw[MF];omega);rw[hs]at q;have w5:IntKind.i64.wrap ((5:Int)*(m:Int))=5*(m:Int):=wrap_eq (by omega) (by omega);refine dW ?_;rw[NJ,wm,SQ (by omega),cond_false,w5,c14 X hX,Option.bind_some];have hl:=hlen (m-1);rw[show Fe ((kG (m-1)).length+1) 2147483648=true from decide_eq_true (by omega),cond_true];have e0:((dh (kG (m-1))).drop 0).take (kG (m-1)).length=dh (kG (m-1)):=by rw[show (kG (m-1)).length=(dh (kG (m-1))).length by simp[dh],Aj]
   rw[e0];have e1:dh (wM m)=dh (kG (m-1))++[.agg [.int .i64 (5*(m:Int)),.int .i64 1000,.int .i64 0]]:=by simp[dh,dn,wM]
   have e2:((dh (wM m)).drop 0).take ((kG (m-1)).length+1)=dh (wM m):=by
    rw[List.drop_zero,List.take_of_length_le];have h1:(dh (wM m)).length=(wM m).length:=by simp[dh]
    have h2:=MF m;omega
   show (run tab X 12 [.p (.list true aW ((((dh (kG (m-1))++[PV.agg [.int .i64 (5*(m:Int)),.int .i64 1000,.int .i64 0]]).drop 0).take ((kG (m-1)).length+1))))] []).bind _=_;rw[← e1,e2,q,Option.bind_some];simp only[List.headD_cons,dA,bD];rw[show (decide (m≤64)==leI (m:Int) 64)=true from beq_iff_eq.2 (decide_eq_decide.2 (by omega)),cond_true,c11 X hX hB hE hS];rfl
  | succ k ih =>
   intro i hi;have w10:IntKind.i64.wrap ((10:Int)*(i:Int))=10*(i:Int):=wrap_eq (by omega) (by omega);have hm:((i:Nat):Int).tmod 2=(i:Int)%2:=Int.tmod_eq_emod_of_nonneg (by omega);refine dW ?_;rw[NJ,wm,Hw (by omega),cond_true,w10,hm,c14 X hX,Option.bind_some];rw[show Fe ((kG i).length+1) 2147483648=true from decide_eq_true (by rw[hlen];omega),cond_true,lW (by omega)];have e0:((dh (kG i)).drop 0).take (kG i).length=dh (kG i):=by rw[show (kG i).length=(dh (kG i)).length by simp[dh],Aj]
   have e1:dh (kG (i+1))=dh (kG i)++[.agg [.int .i64 (10*(i:Int)),.int .i64 ((i:Int)%2),.int .i64 (i:Int)]]:=by simp[dh,dn,kG,List.range_succ]
   have Ba:=ih (i+1) (by omega);rw[e1,hlen]at Ba;rw[e0,hlen];exact Ba
theorem law3 (l:List V3) (many:Int):run tab X 3 [.p (.list true aW (dh l)),.p (.int .i64 many)] []=some ([.p (.bool true)],[]) :=
 bF (hX _ rfl) (by
  have hk:=c11 X hX hB hE hS;have hl:(dh l).length=l.length:=by simp[dh]
  rw[e3,hl];by_cases h10:l.length≤10
  · rw[show kX ((l.length:Nat):Int) 10=false from decide_eq_false (by omega),cond_false,c12 X hX l (by omega),Option.bind_some,c13 X hX l (by omega),Option.bind_some];simp only[List.headD_cons,dA,bD,ad9,beq_self_eq_true,Bool.not_true,cond_false];by_cases h3:many<3
    · rw[show dG many 3=true from decide_eq_true h3,cond_true,hk];rfl
    · rw[show dG many 3=false from decide_eq_false h3,cond_false];by_cases h70:many > 70
      · rw[show kX many 70=true from decide_eq_true h70,cond_true,hk];rfl
      · rw[show kX many 70=false from decide_eq_false h70,cond_false];obtain⟨m,rfl⟩:=Int.eq_ofNat_of_zero_le (show 0≤many by omega);exact l3 X hX hB hE hS m (by omega) (by omega) (m-1) 0 (by omega)
  · rw[show kX ((l.length:Nat):Int) 10=true from decide_eq_true (by omega),cond_true,hk];rfl)
end
end Go.Skm.Fen
