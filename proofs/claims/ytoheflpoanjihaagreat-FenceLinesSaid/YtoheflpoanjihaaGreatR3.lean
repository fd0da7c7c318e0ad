import Derived.Test.YtoheflpoanjihaaGreatW14
set_option linter.all false
namespace Go.Skm.Fen
open Go Go.Skm Go.Skm.Dig
section
theorem qw{z:Int}(h:z.natAbs<aX):okW z:=by unfold okW;have:=LQ h;omega
theorem WL{g:Nat}(h:g<aX):(aW aX g).length<=1:=iE (by simpa using h)
section
variable (X:Ext) (hX:Mine X) (hB:Bits X)
include hX hB
theorem c61(n:Int)(m:-9223372036854775808<=n)(l:n<=9223372036854775807):run tab X 61 [Ab n] []=some ([.p (eW n)],[]):=
 run_of (hX _ rfl) (by
  have e:aX=18446744073709551616:=rfl;have a:n.natAbs<aX:=by rw[e];omega
  have j:∀ b:Bool,b=decide (n<0)->(((run tab X) 113 [.slice 100000 1 0 1] [.arr false kU [.int .u64 ((n.natAbs:Nat):Int)]]).bind λc =>
      ((run tab X) 114 [.p (.agg [.bool b,.list false kU ((((c.2.headD (.box [])).xs).drop ((c.1.headD .undef).sOff)).take ((c.1.headD .undef).sLen))])] []).bind λf =>
      some ([AV.p (.agg [.bool (((f.1.headD .undef).pv.cell 0).toBool),.str (((f.1.headD .undef).pv.cell 1).toStr)])],([]:List Blk)))=some ([.p (eW n)],[]):=by
    intro b i;rw[Gw X hX hB _ a];simp only[qOb,qLh,xs_arr,sOff_slice,sLen_slice];rw[trimmed [n.natAbs] (λd hd=>by rw[List.mem_singleton.1 hd];exact a),show([n.natAbs].drop 0).take 1=[n.natAbs] from rfl,val_one];have:=Ip X hX hB (yK n) (Nat.le_trans (WL a) (by omega));rw[eN]at this;rw[i];erw [this];rw[nJ,yt,if_pos (qw a)];rfl
  rw[e61];by_cases h:n<0
  . refine condP h ?_;have g:IntKind.u64.wrap n=n+18446744073709551616:=by show n%2^64=_;omega
    have k:IntKind.u64.wrap (0-(n+18446744073709551616))=((n.natAbs:Nat):Int):=by show(0-(n+18446744073709551616))%2^64=_;omega
    grind
  . refine condNP h ?_;have g:IntKind.u64.wrap n=((n.natAbs:Nat):Int):=by show n%2^64=_;omega
    grind)
theorem c60(z:Int)(h:okW z):run tab X 60 [.p (eW z)] []=some ([Ab (bl z.natAbs:Nat)],[]):=
 run_of (hX _ rfl) (by have a:=c110 X hX z;rw[eW]at a;rw[eW,e60,a];simp only[qOb,qLh,pv_p,toBool_bool,decide_eq_true h,qBt,qCf];rw[aag X hX _ (Nat.le_trans (O1 h) (by omega))];simp only[qOb,qLh,freshList_fresh,qLy,List.take_length];have h4:(aW aX z.natAbs).length<=1024:=gG h;rw[WJ X hX hB (aW aX z.natAbs) (wL _) (yI _) (by omega),dval];rfl)
theorem c79(a b:Int)(d:okW a)(c:okW b):run tab X 79 [.p (eW a),.p (eW b)] []=some (yt (a+b),[]):=
 run_of (hX _ rfl) (by have g:=c108 X hX a b;have f:=c139 X hX a d;have e:=c139 X hX b c;rw[eW]at f e;rw[eW,eW]at g;rw[eW,eW,e79,g];simp only[qOb,qLh,pv_p,toBool_bool,decide_eq_true d,decide_eq_true c,Bool.and_true,qBt,qCf];rw[f];simp only[qOb,qLh,pv_p];rw[e];simp only[qOb,qLh,pv_p,iW];rw[c117 X hX _ _ (Nat.le_trans (gG d) (show 1024<=1000000 by omega)) (Nat.le_trans (gG c) (show 1024<=1000000 by omega))];simp only[qOb,qLh,pv_p,iW];rw[Ip X hX hB _ (Nat.le_trans (JC (gG d) (gG c)) (show 1025<=100000 by omega)),Gx,nJ,nJ,yt];split<;>rfl)
theorem c159(a b:Int)(c:okW a)(d:okW b):run tab X 159 [.p (eW a),.p (eW b)] []=some (yt (a-b),[]):=
 run_of (hX _ rfl) (by have h:=c108 X hX a b;have g:=c139 X hX a c;have f:=c139 X hX b d;rw[eW]at g f;rw[eW,eW]at h;rw[eW,eW,aa8,h];simp only[qOb,qLh,pv_p,toBool_bool,decide_eq_true c,decide_eq_true d,Bool.and_true,qBt,qCf];rw[g];simp only[qOb,qLh,pv_p];rw[f];simp only[qOb,qLh,pv_p,iW,WI X hX];have e:(NK (yK b)).le 1024:=gG d;rw[c117 X hX _ _ (Nat.le_trans (gG c) (show 1024<=1000000 by omega)) (Nat.le_trans e (show 1024<=1000000 by omega))];simp only[qOb,qLh,pv_p,iW];rw[Ip X hX hB _ (Nat.le_trans (JC (gG c) e) (show 1025<=100000 by omega)),Gx,NM,nJ,nJ,<- Int.sub_eq_add_neg,yt];split<;>rfl)
theorem c138(a b:Int)(d:okW a)(c:okW b):run tab X 138 [.p (eW a),.p (eW b)] []=some (yt (a*b),[]):=
 run_of (hX _ rfl) (by have g:=c108 X hX a b;have f:=c139 X hX a d;have e:=c139 X hX b c;rw[eW]at f e;rw[eW,eW]at g;rw[eW,eW,e138,g];simp only[qOb,qLh,pv_p,toBool_bool,decide_eq_true d,decide_eq_true c,Bool.and_true,qBt,qCf];rw[f];simp only[qOb,qLh,pv_p];rw[e];simp only[qOb,qLh,pv_p,iW];rw[c141 X hX hB _ _ (Nat.le_trans (gG d) (show 1024<=1000000 by omega)) (Nat.le_trans (gG c) (show 1024<=1000000 by omega))];simp only[qOb,qLh,pv_p,iW];rw[Ip X hX hB _ (Nat.le_trans (vg (gG d) (gG c)) (show 2048<=100000 by omega)),Ae,nJ,nJ,yt];split<;>rfl)
end
end
section
def eR(n d:Int):PV:=.agg [.bool (decide (n<0)),.str (mQ n.natAbs),.bool (decide (d<0)),.str (mQ d.natAbs)]
theorem I7:eR 0 0=.agg [.bool false,.str ⟨#[]⟩,.bool false,.str ⟨#[]⟩]:=by show PV.agg [.bool (decide ((0:Int)<0)),.str (mQ 0),.bool (decide ((0:Int)<0)),.str (mQ 0)]=_;rw[yx];rfl
def okR(n d:Int):Prop:=okW n/\okW d/\0<d
instance (n d:Int):Decidable (okR n d):=inferInstanceAs (Decidable (_/\_/\_))
def sV(a b:Int):Int:=b.sign*(a / (Int.gcd a b:Int))
def rQ(a b:Int):Int:=(b.natAbs:Int) / (Int.gcd a b:Int)
def D9(a b:Int):List AV:=if okW (sV a b)/\okW (rQ a b)then [.p (eR (sV a b) (rQ a b)),Ab 0]else [.p (eR 0 0),Ab 7]
theorem UZ(x y:Nb)(c:0<y.2):(Nb.z (!(x.1==y.1),x.2 / Nat.gcd x.2 y.2))=sV x.z y.z:=by
 have e:Int.gcd x.z y.z=Nat.gcd x.2 y.2:=by rw[Int.gcd,Nb.LW,Nb.LW]
 rw[sV,e];obtain⟨a,m⟩:=x;obtain⟨b,n⟩:=y;have hd:((Nat.gcd m n:Nat):Int) ∣(m:Int):=Int.natCast_dvd_natCast.2 (Nat.gcd_dvd_left m n);have c:0<n:=c;have d:(n:Int).sign=1:=Int.sign_eq_one_of_pos (by omega);unfold Nb.z;cases a<;>cases b<;>simp[d,Int.neg_ediv_of_dvd hd]
theorem U0(x y:Nb):(Nb.z (!(y.1==y.1),y.2 / Nat.gcd x.2 y.2))=rQ x.z y.z:=by grind[Int.gcd,Nb.LW,rQ,Nb.z]
section
variable (X:Ext) (hX:Mine X) (hB:Bits X)
include hX hB
theorem WM(x y:Nb)(l:x.le 80000)(k:y.le 80000)(hp:0<y.2):run tab X 140 [.p (eN x),.p (eN y)] []=some (D9 x.z y.z,[]):=
 run_of (hX _ rfl) (by
  have e:(aW aX x.2).length<=80000:=l;have a:(aW aX y.2).length<=80000:=k;have b:0<Nat.gcd x.2 y.2:=Nat.gcd_pos_of_pos_right _ hp;have c:(aW aX (Nat.gcd x.2 y.2)).length<=80000:=Nat.le_trans (qB (Nat.le_of_dvd hp (Nat.gcd_dvd_right _ _))) a;have h:=aae X hX hB x (y.1,Nat.gcd x.2 y.2) (Nat.le_trans e (by omega)) (Nat.le_trans c (show 80000<=90000 by omega)) b (Nat.gcd_dvd_left _ _);have g:=aae X hX hB y (y.1,Nat.gcd x.2 y.2) (Nat.le_trans a (by omega)) (Nat.le_trans c (show 80000<=90000 by omega)) b (Nat.gcd_dvd_right _ _);have j:(Nb.le (!(x.1==y.1),x.2 / Nat.gcd x.2 y.2) 100000):=Nat.le_trans (qB (Nat.div_le_self _ _)) (by omega);have i:(Nb.le (!(y.1==y.1),y.2 / Nat.gcd x.2 y.2) 100000):=Nat.le_trans (qB (Nat.div_le_self _ _)) (by omega);rw[eN,eN]at h g;rw[eN,eN,aaV,c171 X hX hB _ _ (by omega) (by omega)];simp only[qOb,qLh,pv_p,toList_list];rw[h];simp only[qOb,qLh,pv_p,iW];rw[g];simp only[qOb,qLh,pv_p,iW];rw[Ip X hX hB _ j,UZ x y hp];simp only[qOb];rw[Ip X hX hB _ i,U0];simp only[qOb];rw[D9];generalize sV x.z y.z=n;generalize rQ x.z y.z=d;by_cases f:okW n
  . rw[yt,if_pos f];by_cases hd:okW d
    . rw[yt,if_pos hd,if_pos ⟨f,hd⟩];rfl
    simp_all[yt,I7]
  simp_all[yt,I7])
theorem c143(a b:Int)(d:okW a)(c:okW b)(i:b≠0):run tab X 143 [.p (eW a),.p (eW b)] []=some (D9 a b,[]):=
 run_of (hX _ rfl) (by have g:=c108 X hX a b;have f:=c139 X hX a d;have e:=c139 X hX b c;rw[eW]at f e;rw[eW,eW]at g;rw[eW,eW,e143,g];simp only[qOb,qLh,pv_p,toBool_bool,decide_eq_true d,decide_eq_true c,Bool.and_true,qBt,qCf];rw[ba_beq];refine condNP (λh=>i (by have:=(C9 _).1 h;omega)) ?_;rw[f];simp only[qOb,qLh,pv_p];rw[e];simp only[qOb,qLh,pv_p,iW];rw[WM X hX hB _ _ (Nat.le_trans (gG d) (show 1024<=80000 by omega)) (Nat.le_trans (gG c) (show 1024<=80000 by omega)) (by show 0<b.natAbs;omega),nJ,nJ,D9];split<;>rfl)
theorem yu{n:Int}(b:-9223372036854775808<=n)(a:n<=9223372036854775807):okW n:=qw (by have _:=hX;have _:=hB;have:aX=18446744073709551616:=rfl;rw[this];omega)
theorem abT(a b:Int)(d:-9223372036854775808<=a/\a<=9223372036854775807)(c:-9223372036854775808<=b/\b<=9223372036854775807)(e:b≠0):run tab X 134 [Ab a,Ab b] []=some (D9 a b,[]):=
 run_of (hX _ rfl) (by rw[aaS,c61 X hX hB a d.1 d.2];simp only[qOb,qLh,pv_p];rw[c61 X hX hB b c.1 c.2];simp only[qOb,qLh,pv_p,iV];rw[c143 X hX hB a b (yu X hX hB d.1 d.2) (yu X hX hB c.1 c.2) e,D9];simp only[qOb];split<;>rfl)
omit hB
theorem c59(n d:Int):run tab X 59 [.p (eR n d)] []=some ([Ac (decide (okR n d))],[]):=
 run_of (hX _ rfl) (by
  have c:=c108 X hX n d;rw[eW,eW]at c;rw[eR,e59,c];simp only[qOb,qLh,pv_p,toBool_bool];by_cases h:okW n/\okW d
  . rw[show(decide (okW n)&&decide (okW d))=true by simp[h],qCt];have b:=c109 X hX d h.2;rw[eW]at b;rw[b];simp only[qOb,qLh,pv_p,toInt_int];have e:gtI d.sign 0=decide (okR n d):=decide_eq_decide.2 ⟨λa=>⟨h.1,h.2,Int.sign_pos_iff.1 a⟩,λa=>Int.sign_pos_iff.2 a.2.2⟩;rw[e]
  . rw[show(decide (okW n)&&decide (okW d))=false by simp;intro c b;exact h ⟨c,b⟩,qCf,decide_eq_false (show ¬ okR n d from λa=>h ⟨a.1,a.2.1⟩)])
theorem Us(a b c d:Int):run tab X 115 [.p (eR a b),.p (eR c d)] []=some ([Ac (decide (okR a b)&&decide (okR c d))],[]):=
 run_of (hX _ rfl) (by have e:=c59 X hX a b;have f:=c59 X hX c d;rw[eR]at e f;rw[eR,eR,e115,e];simp only[qOb,qLh,pv_p,toBool_bool];by_cases h:okR a b;all_goals simp_all)
theorem c116(hB:Words X)(a b c d:Int)(l:okW a)(e:okW b)(k:okW c)(h4:okW d):run tab X 116 [.p (eR a b),.p (eR c d)] []=some ([.p (eN (yJ (yK a) (yK d))),.p (eN (yJ (yK c) (yK b))),.p (eN (yJ (yK b) (yK d)))],[]):=
 run_of (hX _ rfl) (by have j:=c139 X hX a l;have i:=c139 X hX b e;have g:=c139 X hX c k;have f:=c139 X hX d h4;rw[eW]at j i g f;have t:∀{z:Int},okW z->(yK z).le 1000000:=λh=>Nat.le_trans (gG h) (show 1024<=1000000 by omega);rw[eR,eR,e116];simp only[j,i,g,f,qOb,qLh,pv_p,iW,c141 X hX hB _ _ (t l) (t h4),c141 X hX hB _ _ (t k) (t e),c141 X hX hB _ _ (t e) (t h4)])
theorem c62(hB:Words X)(a b c d:Int)(h:okR a b)(e:okR c d):run tab X 62 [.p (eR a b),.p (eR c d)] []=some ([Ab (a*d-c*b).sign,Ab 0],[]):=
 run_of (hX _ rfl) (by have g:=Us X hX a b c d;have f:=c116 X hX hB a b c d h.1 h.2.1 e.1 e.2.1;rw[eR,eR]at g f;have j:(yJ (yK a) (yK d)).le 1000000:=Nat.le_trans (vg (gG h.1) (gG e.2.1)) (show 2048<=1000000 by omega);have i:(NK (yJ (yK c) (yK b))).le 1000000:=Nat.le_trans (show(NK (yJ (yK c) (yK b))).le 2048 from vg (gG e.1) (gG h.2.1)) (show 2048<=1000000 by omega);rw[eR,eR,e62,g];simp only[qOb,qLh,pv_p,toBool_bool,decide_eq_true h,decide_eq_true e,Bool.and_true,qBt,qCf];rw[f];simp only[qOb,qLh,List.tail_cons,pv_p,iW,WI X hX,c117 X hX _ _ j i,c119 X hX,toInt_int];simp[Tt,Gx,NM,Ae,nJ,Int.sub_eq_add_neg])
include hB
theorem c80(a b c d:Int)(h:okR a b)(e:okR c d):run tab X 80 [.p (eR a b),.p (eR c d)] []=some (D9 (a*d+c*b) (b*d),[]):=
 run_of (hX _ rfl) (by have j:=Us X hX a b c d;have i:=c116 X hX hB a b c d h.1 h.2.1 e.1 e.2.1;rw[eR,eR]at j i;have g:(yJ (yK a) (yK d)).le 2048:=vg (gG h.1) (gG e.2.1);have f:(yJ (yK c) (yK b)).le 2048:=vg (gG e.1) (gG h.2.1);have k:(yJ (yK b) (yK d)).le 2048:=vg (gG h.2.1) (gG e.2.1);rw[eR,eR,e80,j];simp only[qOb,qLh,pv_p,toBool_bool,decide_eq_true h,decide_eq_true e,Bool.and_true,qBt,qCf];rw[i];simp only[qOb,qLh,List.tail_cons,pv_p,iW,c117 X hX _ _ (Nat.le_trans g (show 2048<=1000000 by omega)) (Nat.le_trans f (show 2048<=1000000 by omega))];have hp:0<(yJ (yK b) (yK d)).2:=Nat.mul_pos (show 0<b.natAbs by have:=h.2.2;omega) (show 0<d.natAbs by have:=e.2.2;omega);rw[WM X hX hB _ _ (Nat.le_trans (JC g f) (show 2049<=80000 by omega)) (Nat.le_trans k (show 2048<=80000 by omega)) hp,Gx,Ae,Ae,Ae,nJ,nJ,nJ,nJ,D9];simp only[qOb];split<;>rfl)
theorem c81(a b c d:Int)(h:okR a b)(e:okR c d):run tab X 81 [.p (eR a b),.p (eR c d)] []=some (D9 (a*c) (b*d),[]):=
 run_of (hX _ rfl) (by have k:=Us X hX a b c d;have j:=c139 X hX a h.1;have i:=c139 X hX b h.2.1;have g:=c139 X hX c e.1;have f:=c139 X hX d e.2.1;rw[eW]at j i g f;rw[eR,eR]at k;have m:(yJ (yK a) (yK c)).le 2048:=vg (gG h.1) (gG e.1);have l:(yJ (yK b) (yK d)).le 2048:=vg (gG h.2.1) (gG e.2.1);have t:∀{z:Int},okW z->(yK z).le 1000000:=λh=>Nat.le_trans (gG h) (show 1024<=1000000 by omega);rw[eR,eR,e81,k];simp only[qOb,qLh,pv_p,toBool_bool,decide_eq_true h,decide_eq_true e,Bool.and_true,qBt,qCf];simp only[j,i,g,f,qOb,qLh,pv_p,iW,c141 X hX hB _ _ (t h.1) (t e.1),c141 X hX hB _ _ (t h.2.1) (t e.2.1)];have hp:0<(yJ (yK b) (yK d)).2:=Nat.mul_pos (show 0<b.natAbs by have:=h.2.2;omega) (show 0<d.natAbs by have:=e.2.2;omega);rw[WM X hX hB _ _ (Nat.le_trans m (show 2048<=80000 by omega)) (Nat.le_trans l (show 2048<=80000 by omega)) hp,Ae,Ae,nJ,nJ,nJ,nJ,D9];simp only[qOb];split<;>rfl)
end
end
section
abbrev B9:Nat:=1000000000
theorem b9:2<=B9:=by decide
theorem NC(k:IntKind)(x:List Nat):((aY k x).drop 0).take x.length=aY k x:=by rw[qLy,<- bG k x,List.take_length]
section
variable (X:Ext) (hX:Mine X)
include hX
theorem acU(b:List Nat)(k:b.length<=2147483648)(o:Nat):∀ l,o+l<=b.length->L tab (run tab X) 130 [.arr false kI (aY .i64 b)] [.lp [1,0,0]] (Ar o l (aY .i64 b))=some ([.slice 100000 1 o (trim ((b.drop o).take l)).length],[.arr false kI (aY .i64 b)]):=by
 have _:=hX;intro l;induction l with
 | zero =>intro h;refine L_of ?_;rw[JU];rfl
 | succ l j =>
  intro h;have e:IntKind.i64.wrap (((l+1:Nat):Int)-1)=(l:Int):=by rw[wrap_eq (by omega) (by omega)];omega
  have c:l<(b.drop o).length:=by simp;omega
  have g:(b.drop o)[l]=b.getD (o+l) 0:=by grind
  refine L_of ?_;rw[JU];refine condP (show((l+1:Nat):Int) > 0 by omega) ?_;rw[e];have f:(leI (0:Int) (l:Int)&&ltI (l:Int) ((l+1:Nat):Int))=true:=by simp;omega
  have a:(leI (0:Int) (l:Int)&&(leI (l:Int) ((l+1:Nat):Int)&&leI ((l+1:Nat):Int) ((l+1:Nat):Int)))=true:=by simp;omega
  rw[f,a];simp only[qCt,qIt,dK,condE,Int.sub_zero,Nat.add_zero];rw[List.take_succ_eq_append_getElem c,g];by_cases i:b.getD (o+l) 0=0
  . grind[zK]
  . rw[if_neg (by omega),vw (λd hd=>by rw[List.getLast?_concat]at hd;exact Option.some.inj hd▸i),qLp,List.length_take,Nat.min_eq_left (by omega)];rfl
theorem c130(b:List Nat)(a:b.length<=2147483648)(o l:Nat)(h:o+l<=b.length):run tab X 130 [.slice 100000 1 o l] [.arr false kI (aY .i64 b)]=some ([.slice 100000 1 o (trim ((b.drop o).take l)).length],[.arr false kI (aY .i64 b)]):=
 run_of (hX _ rfl) (by rw[aaP];exact acU X hX b a o l h)
theorem DN(b:List Nat)(e:b.length<=2147483648)(c:ok B9 b)(l:Nat)(d:l=b.length):((run tab X) 130 [.slice 100000 1 0 l] [.arr false kI (aY .i64 b)]).bind (λa=>some ([AV.fresh false kI ((((a.2.headD (.box [])).xs).drop ((a.1.headD .undef).sOff)).take ((a.1.headD .undef).sLen))],([]:List Blk)))=some ([.fresh false kI (aY .i64 (aW B9 (val B9 b)))],[]):=by subst d;rw[c130 X hX b e 0 _ (by omega),qLy,List.take_length,<- lX b9 c rfl];simp[qLy,jv,mG]
theorem acV(N M:List Nat)(e:ok B9 N)(f:ok B9 M)(i:N.length<=100000000)(m:N.length=M.length):∀ k,k<=N.length->N.drop k=M.drop k ->
    L tab (run tab X) 174 [] [.lp [1,1,0,1,0]] (wU (aY .i64 N) (aY .i64 M) ((k:Int)-1))=some ([Ab (zA (val B9 N) (val B9 M))],[]):=by
  have _:=hX;intro k;induction k with
  | zero =>intro _ hd;rw[qLy,qLy]at hd;subst hd;refine L_of ?_;grind[EU,Ik]
  | succ k d =>
   intro j hd;refine L_of ?_;rw[show((k+1:Nat):Int)-1=(k:Int) by omega,EU];refine condP (by omega) ?_;have c:(leI (0:Int) (k:Int)&&ltI (k:Int) (((aY .i64 N).length:Nat):Int))=true:=by simp;omega
   have b:(leI (0:Int) (k:Int)&&ltI (k:Int) (((aY .i64 M).length:Nat):Int))=true:=by simp;omega
   have a:IntKind.i64.wrap ((k:Int)-1)=(k:Int)-1:=wrap_eq (by omega) (by omega);rw[c,b];simp only[qCt,qIt,dK,a];by_cases h:N.getD k 0<M.getD k 0
   . rw[Jy (Et e (by omega) (by omega) hd h)];grind
   . refine condNP (by omega) ?_;by_cases g:M.getD k 0<N.getD k 0
     . rw[Jz (Et f (by omega) (by omega) hd.symm g)];grind
     . refine condNP (by omega) ?_;exact d (by omega) (by rw[kT (l:=N) (k:=k) (by omega),kT (l:=M) (k:=k) (by omega),hd,show N.getD k 0=M.getD k 0 by omega])
theorem acW(N M:List Nat)(a:ok B9 N)(b:ok B9 M)(c:Dig.tight N)(d:Dig.tight M)(e:N.length<=100000000)(g:M.length<=100000000):run tab X 174 [An (aY .i64 N),An (aY .i64 M)] []=some ([Ab (zA (val B9 N) (val B9 M))],[]):=
 run_of (hX _ rfl) (by
  rw[abe];simp only[bG];by_cases h:N.length=M.length
  . rw[show(((N.length:Nat):Int) !=((M.length:Nat):Int))=false by simp[h],qCf,wrap_eq (by omega) (by omega)];exact acV X hX N M a b e h N.length (by omega) (by rw[List.drop_eq_nil_of_le (by omega),List.drop_eq_nil_of_le (by omega)])
  . rw[show(((N.length:Nat):Int) !=((M.length:Nat):Int))=true by simp;omega,qCt];by_cases f:N.length<M.length
    . rw[Jy (wI b9 a b d f)];grind
    . rw[Jz (wI b9 b a c (show M.length<N.length by omega))];grind)
theorem acX(N M:List Nat)(I:ok B9 N)(J:ok B9 M)(O:N.length<=100000000)(C:M.length<=N.length)(D:val B9 M<=val B9 N):∀(k i c:Nat) (a:List Nat),i+k=N.length->a.length=i->ok B9 a->c<=1 ->
    val B9 a+val B9 (M.take i)=val B9 (N.take i)+B9^i*c ->
    L tab (run tab X) 175 [] [.lp [1,1,1,0,1,0]] (jV (aY .i64 N) (aY .i64 M) 0 i c i (aY .i64 a))=some ([.fresh false kI (aY .i64 (aW B9 (val B9 N-val B9 M)))],[]):=by
  intro k;induction k with
  | zero =>
   intro i c a E hp g H m;have p:i=N.length:=by omega
   subst p;refine L_of ?_;rw[Dk];refine condNP (by simp) ?_;rw[jE _ _ _ (qNr _),jE _ _ _ C]at m;have K:=kW g;rw[hp]at K;have q:c=0:=by grind
   subst q;have h:val B9 a=val B9 N-val B9 M:=by omega
   rw[<- h];exact DN X hX _ (by omega) g _ hp.symm
  | succ k x =>
   intro i c a E hp g H m;refine L_of ?_;rw[Dk];refine condP (by simp;omega) ?_;have hd:N.getD i 0<B9:=fK I (by decide) i;have z:M.getD i 0<B9:=fK J (by decide) i;have G:N.getD i 0<1000000000:=hd;have y:M.getD i 0<1000000000:=z;have B:(leI (0:Int) (i:Int)&&ltI (i:Int) (((aY .i64 N).length:Nat):Int))=true:=by simp;omega
   have t:IntKind.i64.wrap ((i:Int)+1)=((i+1:Nat):Int):=by rw[wrap_eq (by omega) (by omega)];omega
   have A:((aY .i64 a).drop 0).take i=aY .i64 a:=by rw[<- hp];exact NC .i64 a
   have f:∀ e l:Nat,e<B9->l<=1->e+M.getD i 0+c=N.getD i 0+B9*l ->
       (bif (leN (i+1) 2147483648)then L tab (run tab X) 175 [] [.lp [1,1,1,0,1,0]] (jV (aY .i64 N) (aY .i64 M) 0 (i+1) (l:Nat) (i+1:Nat) ((((aY .i64 a).drop 0).take i)++([Av ((e:Nat):Int)]:List PV)))else none)=some ([.fresh false kI (aY .i64 (aW B9 (val B9 N-val B9 M)))],[]):=by
     intro e l F r j;refine condP (show i+1<=2147483648 by omega) ?_;rw[A,show([Av ((e:Nat):Int)]:List PV)=aY .i64 [e] from rfl,rE];refine x (i+1) l _ (by omega) (by simp[hp]) (iG.2 ⟨g,λd hd=>by rw[List.mem_singleton.1 hd];exact F⟩) r ?_;rw[jg,hp,lW,lW];exact QD m j
   simp only[t];rw[B,qCt];simp only[qIt,dK];have s:IntKind.i64.wrap ((N.getD i 0:Int)-(c:Int))=(N.getD i 0:Int)-c:=wrap_eq (by omega) (by omega);have w:IntKind.i64.wrap ((N.getD i 0:Int)-(c:Int)-(M.getD i 0:Int))=(N.getD i 0:Int)-c-M.getD i 0:=wrap_eq (by omega) (by omega);have v:IntKind.i64.wrap ((N.getD i 0:Int)-(c:Int)-(M.getD i 0:Int)+1000000000)=(N.getD i 0:Int)-c-M.getD i 0+1000000000:=wrap_eq (by omega) (by omega);have u:IntKind.i64.wrap ((N.getD i 0:Int)-(c:Int)+1000000000)=(N.getD i 0:Int)-c+1000000000:=wrap_eq (by omega) (by omega);have P:B9=1000000000:=rfl;by_cases o:(i:Int)<((aY .i64 M).length:Nat)
   . refine condP o ?_;have n:(leI (0:Int) (i:Int)&&ltI (i:Int) (((aY .i64 M).length:Nat):Int))=true:=by simp at o ⊢;omega
     rw[n,qCt,s,w,v];by_cases b:(N.getD i 0:Int)-c-M.getD i 0<0
     . refine condP b ?_;have:=f (N.getD i 0+1000000000-c-M.getD i 0) 1 (by omega) (by omega) (by omega);rw[show((N.getD i 0+1000000000-c-M.getD i 0:Nat):Int)=(N.getD i 0:Int)-c-M.getD i 0+1000000000 by omega]at this;exact this
     . refine condNP b ?_;have:=f (N.getD i 0-c-M.getD i 0) 0 (by omega) (by omega) (by omega);rw[show((N.getD i 0-c-M.getD i 0:Nat):Int)=(N.getD i 0:Int)-c-M.getD i 0 by omega]at this;exact this
   . refine condNP o ?_;have Q:M.getD i 0=0:=by simp_all
     rw[s,u];by_cases b:(N.getD i 0:Int)-c<0
     . refine condP b ?_;have:=f (N.getD i 0+1000000000-c) 1 (by omega) (by omega) (by omega);rw[show((N.getD i 0+1000000000-c:Nat):Int)=(N.getD i 0:Int)-c+1000000000 by omega]at this;exact this
     . refine condNP b ?_;have:=f (N.getD i 0-c) 0 (by omega) (by omega) (by omega);rw[show((N.getD i 0-c:Nat):Int)=(N.getD i 0:Int)-c by omega]at this;exact this
theorem c175(N M:List Nat)(d:ok B9 N)(e:ok B9 M)(b:N.length<=100000000)(c:M.length<=N.length)(a:val B9 M<=val B9 N):run tab X 175 [An (aY .i64 N),An (aY .i64 M)] []=some ([.fresh false kI (aY .i64 (aW B9 (val B9 N-val B9 M)))],[]):=
 run_of (hX _ rfl) (by rw[abf];exact acX X hX N M d e b c a N.length 0 0 [] (by omega) rfl (pY _) (by omega) rfl)
end
end
section
variable {l:List Nat}
theorem Lu{b:Nat}(i:2<=b)(f:ok b l)(k:l≠[]->b^(l.length-1)<=val b l):Dig.tight l:=by
 intro d hd g;subst g;have e:l≠[]:=by intro h;rw[h]at hd;simp at hd
 obtain⟨a,rfl⟩:=List.getLast?_eq_some_iff.1 hd;have j:val b a<b^a.length:=kW (λx c=>f x (List.mem_append_left _ c));grind[jg]
theorem wJ{i:Nat}(h:l.length<=i):l.getD i 0=0:=by grind
theorem LC(s k:Nat):((s:Int)).tdiv (k:Int)=((s / k:Nat):Int):=by rw[Int.tdiv_eq_ediv_of_nonneg (by omega)];norm_cast
theorem LD(s k:Nat):((s:Int)).tmod (k:Int)=((s%k:Nat):Int):=by rw[Int.tmod_eq_emod_of_nonneg (by omega)];norm_cast
section
variable (X:Ext) (hX:Mine X)
include hX
theorem acY(N M:List Nat)(H:ok B9 N)(I:ok B9 M)(S:Dig.tight N)(T:Dig.tight M)(hn:N.length<=100000000)(hm:M.length<=100000000):∀(k i c:Nat) (a:List Nat),i+k=max N.length M.length+1->a.length=i->ok B9 a->c<=1 ->
    (k=0->c=0/\B9^(max N.length M.length)<=val B9 N+val B9 M) ->
    val B9 a+B9^i*c=val B9 (N.take i)+val B9 (M.take i) ->
    L tab (run tab X) 128 [] [.lp [1,1,1,0,1,0]] (dZ (aY .i64 N) (aY .i64 M) 0 i c i (aY .i64 a))=some ([.fresh false kI (aY .i64 (aW B9 (val B9 N+val B9 M)))],[]):=by
  have _:=hX;have hB:B9=1000000000:=rfl
  have G:∀(i:Nat) (a:List Nat),max N.length M.length<=i->a.length=i->ok B9 a->(i=max N.length M.length+1->B9^(max N.length M.length)<=val B9 N+val B9 M)->i<=max N.length M.length+1->val B9 a=val B9 (N.take i)+val B9 (M.take i) ->
      some ([AV.fresh false kI (((aY .i64 a).drop 0).take i)],([]:List Blk))=some ([.fresh false kI (aY .i64 (aW B9 (val B9 N+val B9 M)))],[]):=by
    intro i a K h2 J h4 h5 F;rw[jE _ N _ (by omega),jE _ M _ (by omega)]at F;have W:Dig.tight a:=Lu b9 J (by
     intro y;have hl:0<a.length:=List.length_pos_iff.2 y;rw[F];rcases Nat.lt_or_ge (max N.length M.length) i with h | h
     . grind
     . rcases Nat.lt_or_ge N.length i with E | E
       . have C:M≠[]:=by intro D;rw[D]at K h;simp at K h;omega
         have:=Gs b9 I T C;grind
       . have B:N≠[]:=by intro D;rw[D]at E;simp at E;omega
         have:=Gs b9 H S B;grind)
    rw[<- h2,NC,Iq b9 J W F]
  intro k;induction k with
  | zero =>intro i c a Z hp p hc h0 u;obtain⟨c0,hge⟩:=h0 rfl;subst c0;refine L_of ?_;rw[Df];refine condNP (by simp;omega) (condNP (by simp;omega) (condNP (by simp) ?_));grind
  | succ k U =>
   intro i c a Z hp p hc _ u;have hd:N.getD i 0<1000000000:=fK H (by decide) i;have hx:M.getD i 0<1000000000:=fK I (by decide) i;have O:IntKind.i64.wrap ((i:Int)+1)=((i+1:Nat):Int):=by rw[wrap_eq (by omega) (by omega)];omega
   have V:((aY .i64 a).drop 0).take i=aY .i64 a:=by rw[<- hp];exact NC .i64 a
   have j:i<max N.length M.length\/c=1->∀ s:Nat,s=c+N.getD i 0+M.getD i 0 ->
       (bif (Go.Skm.leN (i+1) 2147483648)then L tab (run tab X) 128 [] [.lp [1,1,1,0,1,0]] (dZ (aY .i64 N) (aY .i64 M) 0 (i+1) (IntKind.i64.wrap ((s:Int).tdiv 1000000000)) (i+1:Nat) ((((aY .i64 a).drop 0).take i)++([Av ((s:Int).tmod 1000000000)]:List PV)))else none)=some ([.fresh false kI (aY .i64 (aW B9 (val B9 N+val B9 M)))],[]):=by
     intro hcase s hs;refine condP (show i+1<=2147483648 by omega) ?_;rw[V,show(1000000000:Int)=((B9:Nat):Int) from rfl,LC,LD,show([Av ((s%B9:Nat):Int)]:List PV)=aY .i64 [s%B9] from rfl,rE];have hstep:=JI (b:=B9) (d:=N.getD i 0) (x:=M.getD i 0) u;rw[show N.getD i 0+M.getD i 0+c=s by omega]at hstep;have n:s / B9<=1:=by show s / 1000000000<=1;omega
     have o:i=max N.length M.length->s / B9=0:=by intro w;have z:N.getD i 0=0:=wJ (by omega);have v:M.getD i 0=0:=wJ (by omega);grind
     have r:s%B9<B9:=qNm _ (by decide);revert hstep n o r;generalize s / B9=q;generalize s%B9=e;intro hstep n o r;rw[wrap_eq (by omega) (by omega)];refine U (i+1) q _ (by omega) (by simp[hp]) (iG.2 ⟨p,λd hd=>by rw[List.mem_singleton.1 hd];exact r⟩) n ?_ ?_
     . intro hk;have w:i=max N.length M.length:=by omega
       have t:c=1:=by omega
       refine⟨o w,?_⟩;rw[jE _ N _ (by omega),jE _ M _ (by omega),t,Nat.mul_one]at u;grind
     . grind[jg,lW]
   refine L_of ?_;rw[Df];simp only[O,qIt,dK];have R:IntKind.i64.wrap ((c:Int)+(N.getD i 0:Int))=((c+N.getD i 0:Nat):Int):=by rw[wrap_eq (by omega) (by omega)];omega
   have Q:IntKind.i64.wrap (((c+N.getD i 0:Nat):Int)+(M.getD i 0:Int))=((c+N.getD i 0+M.getD i 0:Nat):Int):=by rw[wrap_eq (by omega) (by omega)];omega
   have P:IntKind.i64.wrap ((c:Int)+(M.getD i 0:Int))=((c+M.getD i 0:Nat):Int):=by rw[wrap_eq (by omega) (by omega)];omega
   rw[R,Q,P];by_cases g:(i:Int)<((aY .i64 N).length:Nat)
   . have afe:i<N.length:=by simpa using g
     have Y:(leI (0:Int) (i:Int)&&ltI (i:Int) (((aY .i64 N).length:Nat):Int))=true:=by simp;omega
     refine condP g (condP g ?_);rw[Y,qCt];by_cases f:(i:Int)<((aY .i64 M).length:Nat)
     . have m:(leI (0:Int) (i:Int)&&ltI (i:Int) (((aY .i64 M).length:Nat):Int))=true:=by simp at f ⊢;omega
       refine condP f ?_;rw[m,qCt];exact j (Or.inl (by omega)) _ rfl
     . refine condNP f ?_;have v:M.getD i 0=0:=wJ (by simp at f;omega);exact j (Or.inl (by omega)) (c+N.getD i 0) (by omega)
   . have z:N.getD i 0=0:=wJ (by simp at g;omega);refine condNP g ?_;by_cases f:(i:Int)<((aY .i64 M).length:Nat)
     . have acZ:i<M.length:=by simpa using f
       have m:(leI (0:Int) (i:Int)&&ltI (i:Int) (((aY .i64 M).length:Nat):Int))=true:=by simp at f ⊢;omega
       refine condP f (condNP g (condP f ?_));rw[m,qCt];exact j (Or.inl (by omega)) (c+M.getD i 0) (by omega)
     . have v:M.getD i 0=0:=wJ (by simp at f;omega);refine condNP f ?_;by_cases t:c=1
       . refine condP (show(c:Int) > 0 by omega) (condNP g (condNP f ?_));exact j (Or.inr t) c (by omega)
       . refine condNP (show ¬(c:Int) > 0 by omega) ?_;have A:c=0:=by omega
         rw[A,Nat.mul_zero,Nat.add_zero]at u;simp at g f;exact G i a (by omega) hp p (λh=>by omega) (by omega) u
theorem ac0(x y:Nat)(b:(aW B9 x).length<=100000000)(a:(aW B9 y).length<=100000000):run tab X 128 [An (aY .i64 (aW B9 x)),An (aY .i64 (aW B9 y))] []=some ([.fresh false kI (aY .i64 (aW B9 (x+y)))],[]):=
 run_of (hX _ rfl) (by rw[e128];have:=acY X hX (aW B9 x) (aW B9 y) (sF b9 x) (sF b9 y) (qc b9 x) (qc b9 y) b a (max (aW B9 x).length (aW B9 y).length+1) 0 0 [] (by omega) rfl (pY _) (by omega) (by omega) rfl;rw[lH b9,lH b9]at this;exact this)
end
end
section
section
variable (X:Ext) (hX:Mine X)
include hX
theorem Yy(N M:List Nat)(F:ok B9 N)(G:ok B9 M)(i n:Nat)(U:n=N.length)(hi:i<n)(C:n+M.length<=100000000)
    (r:List AV × List Blk)(K:∀ d:List Nat,d.length=n+M.length->ok B9 d->val B9 d=val B9 (N.take (i+1))*val B9 M ->
      L tab (run tab X) 160 [] [.lp [1,1,0,1,0]] (qj (aY .i64 N) (aY .i64 M) 0 (n+M.length) (i+1:Nat) (aY .i64 d))=some r):∀(q k c:Nat) (a:List Nat),k+q=M.length+1->a.length=n+M.length->ok B9 a->c<B9 ->
    val B9 a+B9^(i+k)*c=val B9 (N.take i)*val B9 M+B9^i*(N.getD i 0*val B9 (M.take k)) ->
    L tab (run tab X) 160 [] [.lp [1,1,0,1,0],.lp [1,0,0,1,1,0]] (fH (aY .i64 N) (aY .i64 M) 0 (n+M.length) i c k (aY .i64 a))=some r:=by
  have _:=hX;have B:IntKind.i64.wrap ((i:Int)+1)=((i+1:Nat):Int):=by rw[wrap_eq (by omega) (by omega)];omega
  have total:val B9 (N.take i)*val B9 M+B9^i*(N.getD i 0*val B9 M)=val B9 (N.take (i+1))*val B9 M:=by rw[lW,Nat.add_mul,Nat.mul_assoc]
  have bound:val B9 (N.take (i+1))*val B9 M<B9^(i+M.length+1):=by have u:=kW (zi F (i+1));rw[List.length_take,Nat.min_eq_left (by omega)]at u;have A:=kW G;rw[show i+M.length+1=(i+1)+M.length by omega,Nat.pow_add];exact Nat.mul_lt_mul'' u A
  have o:∀(k:Nat) (a:List Nat),M.length<=k->a.length=n+M.length->ok B9 a->val B9 a+B9^(i+k)*0=val B9 (N.take i)*val B9 M+B9^i*(N.getD i 0*val B9 (M.take k)) ->
      L tab (run tab X) 160 [] [.lp [1,1,0,1,0]] (qj (aY .i64 N) (aY .i64 M) 0 (n+M.length) (i+1:Nat) (aY .i64 a))=some r:=by
    intro k a u A Z h4;rw[jE _ M k u,total,Nat.mul_zero,Nat.add_zero]at h4;exact K a A Z h4
  intro q;induction q with
  | zero =>
   intro k c a T t g E l;have y:k=M.length+1:=by omega
   subst y;have c0:c=0:=by
    rcases Nat.eq_zero_or_pos c with h | h
    . exact h
    . exfalso;rw[jE _ M _ (by omega),total]at l;have:=Nat.mul_le_mul_left (B9^(i+(M.length+1))) h;rw[Nat.add_assoc]at bound;omega
   subst c0;refine L_of ?_;rw[uP];refine condNP (by simp;omega) (condNP (by simp) ?_);rw[B];exact o _ a (by omega) t g l
  | succ q Q =>
   intro k c a T t g E l;have W:c<1000000000:=E;have ha:N.getD i 0<1000000000:=fK F (by decide) i;have hb:M.getD k 0<1000000000:=fK G (by decide) k;have ho:a.getD (i+k) 0<1000000000:=fK g (by decide) _;have Y:N.getD i 0*M.getD k 0<=999999999*999999999:=Nat.mul_le_mul (by omega) (by omega);have I:IntKind.i64.wrap ((i:Int)+(k:Int))=((i+k:Nat):Int):=by rw[wrap_eq (by omega) (by omega)];omega
   have H:IntKind.i64.wrap ((k:Int)+1)=((k+1:Nat):Int):=by rw[wrap_eq (by omega) (by omega)];omega
   have D:(leI (0:Int) ((i+k:Nat):Int)&&ltI ((i+k:Nat):Int) ((n+M.length:Nat):Int))=true:=by simp;omega
   have m:∀ s:Nat,s=a.getD (i+k) 0+c+N.getD i 0*M.getD k 0 ->
       L tab (run tab X) 160 [] [.lp [1,1,0,1,0],.lp [1,0,0,1,1,0]] (fH (aY .i64 N) (aY .i64 M) 0 (n+M.length) i (IntKind.i64.wrap ((s:Int).tdiv 1000000000)) (k+1:Nat) ((aY .i64 a).set (i+k) (Av ((s:Int).tmod 1000000000))))=some r:=by
     intro s C;rw[show(1000000000:Int)=((B9:Nat):Int) from rfl,LC,LD,iO];have p:s / B9<B9:=by show s / 1000000000<1000000000;omega
     have j:s%B9<B9:=qNm _ (by decide);have f:=Nat.mod_add_div s B9;revert p j f;generalize s / B9=c';generalize s%B9=e;intro p j f;have R:c'<1000000000:=p;rw[wrap_eq (by omega) (by omega)];refine Q (k+1) c' _ (by omega) (by simpa using t) (ND g j _) p ?_;have vs:=Eu B9 e a (i+k) (by omega);rw[lW,<- Nat.add_assoc i k 1,Nat.pow_succ,Nat.mul_add (N.getD i 0),Nat.mul_add (B9^i),<- Nat.add_assoc,<- l];have e1:B9^i*(N.getD i 0*(B9^k*M.getD k 0))=B9^(i+k)*(N.getD i 0*M.getD k 0):=by rw[Nat.pow_add,Nat.mul_left_comm (N.getD i 0),Nat.mul_assoc]
     have e2:B9^(i+k)*(e+B9*c')=B9^(i+k)*(a.getD (i+k) 0+c+N.getD i 0*M.getD k 0):=by rw[f,C]
     rw[Nat.mul_add,Nat.mul_add,Nat.mul_add]at e2;rw[e1,Nat.mul_assoc];omega
   refine L_of ?_;rw[uP];simp only[I,H,qIt,dK,qNz];have P:IntKind.i64.wrap ((a.getD (i+k) 0:Int)+(c:Int))=((a.getD (i+k) 0+c:Nat):Int):=by rw[wrap_eq (by omega) (by omega)];omega
   have O:IntKind.i64.wrap ((N.getD i 0:Int)*(M.getD k 0:Int))=((N.getD i 0*M.getD k 0:Nat):Int):=by rw[<- Int.natCast_mul,wrap_eq (by omega) (by omega)]
   have J:IntKind.i64.wrap (((a.getD (i+k) 0+c:Nat):Int)+((N.getD i 0*M.getD k 0:Nat):Int))=((a.getD (i+k) 0+c+N.getD i 0*M.getD k 0:Nat):Int):=by rw[wrap_eq (by omega) (by omega)];omega
   rw[P,O,J];by_cases b:(k:Int)<((aY .i64 M).length:Nat)
   . have acZ:k<M.length:=by simpa using b
     have w:(leI (0:Int) (i:Int)&&ltI (i:Int) (((aY .i64 N).length:Nat):Int))=true:=by simp;omega
     have v:(leI (0:Int) (k:Int)&&ltI (k:Int) (((aY .i64 M).length:Nat):Int))=true:=by simp at b ⊢;omega
     refine condP b ?_;rw[D,qCt];refine condP b ?_;rw[w,v,qCt,qCt,qCt];exact m _ rfl
   . have x:M.getD k 0=0:=wJ (by simp at b;omega);have S:k=M.length:=by simp at b;omega
     refine condNP b ?_;by_cases V:0<c
     . refine condP (show(c:Int) > 0 by omega) ?_;rw[D,qCt];refine condNP b ?_;rw[qCt];exact m _ (by rw[x,Nat.mul_zero,Nat.add_zero])
     . have z:c=0:=by omega
       refine condNP (show ¬(c:Int) > 0 by omega) ?_;rw[B];rw[z]at l;exact o k a (by omega) t g l
theorem ac1(N M:List Nat)(j:ok B9 N)(k:ok B9 M)(g:N.length+M.length<=100000000):∀(q i:Nat) (a:List Nat),i+q=N.length->a.length=N.length+M.length->ok B9 a ->
    val B9 a=val B9 (N.take i)*val B9 M ->
    L tab (run tab X) 160 [] [.lp [1,1,0,1,0]] (qj (aY .i64 N) (aY .i64 M) 0 (N.length+M.length) i (aY .i64 a))=some ([.fresh false kI (aY .i64 (aW B9 (val B9 N*val B9 M)))],[]):=by
  intro q;induction q with
  | zero =>intro i a h e b d;refine L_of ?_;rw[ES];refine condNP (by simp;omega) ?_;rw[jE _ N _ (by omega)]at d;rw[<- d];exact DN X hX _ (by omega) b _ e.symm
  | succ q f =>intro i a h e b d;refine L_of ?_;rw[ES];refine condP (by simp;omega) ?_;refine Yy X hX N M j k i N.length rfl (by omega) g _ ?_ (M.length+1) 0 0 a (by omega) e b (by decide) (by rw[d];simp[val]);intro c n m l;exact f (i+1) c (by omega) n m l
theorem c160(N M:List Nat)(b:ok B9 N)(c:ok B9 M)(a:N.length+M.length<=100000000):run tab X 160 [An (aY .i64 N),An (aY .i64 M)] []=some ([.fresh false kI (aY .i64 (aW B9 (val B9 N*val B9 M)))],[]):=
 run_of (hX _ rfl) (by
  have w:IntKind.i64.wrap (((N.length:Nat):Int)+((M.length:Nat):Int))=((N.length+M.length:Nat):Int):=by rw[wrap_eq (by omega) (by omega)];omega
  have d:(leI (0:Int) (((N.length+M.length:Nat):Int))&&(leI (((N.length+M.length:Nat):Int)) (((N.length+M.length:Nat):Int))&&leI (((N.length+M.length:Nat):Int)) (2147483648:Int)))=true:=by simp;omega
  rw[e160];simp only[bG];rw[w,d,qCt,qIt,iI];exact ac1 X hX N M b c a N.length 0 _ (by omega) (by simp) (BI (by decide) _) (by rw[vH];simp[val]))
end
end
end Go.Skm.Fen
