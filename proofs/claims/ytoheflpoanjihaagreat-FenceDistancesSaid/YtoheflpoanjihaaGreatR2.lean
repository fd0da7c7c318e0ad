import Derived.Test.YtoheflpoanjihaaGreatW13
set_option linter.all false
namespace Go.Skm.Fen
open Go Go.Skm Go.Skm.Dig
section
theorem iC(x:Nb):PV.agg [.bool (((eN x).cell 0).toBool),.list false kU (((eN x).cell 1).toList)]=eN x:=rfl
theorem iy(z:Int):PV.agg [.bool (((eW z).cell 0).toBool),.str (((eW z).cell 1).toStr)]=eW z:=rfl
def okW(z:Int):Prop:=bl z.natAbs<=65536
instance (z:Int):Decidable (okW z):=inferInstanceAs (Decidable (_<=_))
def wW(z:Int):Nb:=(decide (z<0),z.natAbs)
theorem mF(z:Int):(wW z).z=z:=by
 unfold wW Nb.z;by_cases h:z<0
 . simp[h];omega
 . simp[h];omega
theorem AU(n:Nat):jD n=⟨#[]⟩↔n=0:=by
 constructor
 . intro h;have a:=rP n;rw[h]at a;exact(jO (b:=256) (by decide)).1 (List.length_eq_zero_iff.1 a.symm)
 . intro h;rw[h,wH]
theorem Ol{n:Nat}(h:0<n):((jD n).data.getD 0 0).toNat≠0:=by
 have a:aW 256 n≠[]:=λd=>by have:=(jO (b:=256) (by decide)).1 d;omega
 have c:0<(aW 256 n).length:=List.length_pos_iff.2 a;rw[Ew n 0 c,Nat.sub_zero,<- zX (by decide)];exact Nat.ne_of_gt (last_pos (oO (by decide) n) a)
theorem MQ{z:Int}(h:okW z):(aW 256 z.natAbs).length<=8192:=by rw[EM];unfold okW at h;omega
theorem fJ{z:Int}(h:okW z):(wW z).le 1024:=by
 have a:∀ k n:Nat,bl n<=64*k->n<aX^k:=λk n h=>by have b:2^bl n<=2^(64*k):=Nat.pow_le_pow_right (by decide) h;rw[Nat.pow_mul]at b;exact Nat.lt_of_lt_of_le (x9 n) b
 exact gG (a 1024 _ h)
theorem Qm:okW 0:=by show bl 0<=65536;rw[MV];omega
section
variable (X:Ext) (hX:Mine X) (hB:Bits X)
include hX
theorem c110(z:Int):run tab X 110 [.p (eW z)] []=some ([.p (.bool (decide (okW z)))],[]):=
 run_of (hX _ rfl) (by
  rw[eW,e110,ba_beq];by_cases h:z.natAbs=0
  . have c:z=0:=by omega
    subst c;refine condP ((AU _).2 h) ?_;rw[decide_eq_true Qm];rfl
  . refine condNP (λa=>h ((AU _).1 a)) ?_;have d:0<(aW 256 z.natAbs).length:=List.length_pos_iff.2 λa=>h ((jO (b:=256) (by decide)).1 a);rw[show ltI 0 ((jD z.natAbs).size:Int)=true by rw[rP];simp;exact d,qCt];have f:=Ol (Nat.pos_of_ne_zero h);rw[show((((jD z.natAbs).data.getD 0 0).toNat:Int) != 0)=true by simp;intro a;apply f;simpa using a,qCt,rP,EM];have e:leI (((bl z.natAbs+7) / 8:Nat):Int) 8192=decide (okW z):=decide_eq_decide.2 (by unfold okW;omega);rw[e])
theorem c108(a b:Int):run tab X 108 [.p (eW a),.p (eW b)] []=some ([.p (.bool (decide (okW a)&&decide (okW b)))],[]):=
 run_of (hX _ rfl) (by
  have d:=c110 X hX a;have c:=c110 X hX b;rw[eW]at d c;rw[eW,eW,e108,d];simp only[qOb,qLh,pv_p,toBool_bool];by_cases h:okW a
  . refine condP h ?_;rw[c];simp only[qOb,qLh,pv_p,toBool_bool,decide_eq_true h,Bool.true_and]
  . refine condNP h ?_;rw[decide_eq_false h];rfl)
theorem c139(z:Int)(h:okW z):run tab X 139 [.p (eW z)] []=some ([.p (eN (wW z))],[]):=
 run_of (hX _ rfl) (by rw[eW,Ze,Yl X hX _ (Nat.le_trans (MQ h) (by omega))];simp only[qOb,qLh,freshList_fresh,qLy,List.take_length];rfl)
theorem c109(z:Int)(h:okW z):run tab X 109 [.p (eW z)] []=some ([.p (.int .i64 z.sign)],[]):=
 run_of (hX _ rfl) (by have b:=c110 X hX z;have a:=c139 X hX z h;rw[eW]at b a;rw[eW,e109,b];simp only[qOb,qLh,pv_p,toBool_bool,decide_eq_true h];rw[a];simp only[qBt,qCf,qOb,qLh,pv_p,iC,c119 X hX,toInt_int];rw[Ql,mF])
theorem aao(a b:Int)(d:okW a)(c:okW b):run tab X 135 [.p (eW a),.p (eW b)] []=some ([.p (.int .i64 (a-b).sign)],[]):=
 run_of (hX _ rfl) (by have g:=c108 X hX a b;have f:=c139 X hX a d;have e:=c139 X hX b c;rw[eW]at f e;rw[eW,eW]at g;rw[eW,eW,Zd,g];simp only[qOb,qLh,pv_p,toBool_bool,decide_eq_true d,decide_eq_true c,Bool.and_true,qBt,qCf];rw[f];simp only[qOb,qLh,pv_p];rw[e];simp only[qOb,qLh,pv_p,iC,Uu X hX];rw[c117 X hX _ _ (Nat.le_trans (fJ d) (show 1024<=1000000 by omega)) (show(KT (wW b)).le 1000000 from Nat.le_trans (fJ c) (show 1024<=1000000 by omega))];simp only[qOb,qLh,pv_p,iC,c119 X hX,toInt_int];rw[Ql,EL,KU,mF,mF,Int.sub_eq_add_neg])
include hB
def wu(z:Int):List AV:=if okW z then [.p (eW z),.p (.int .i64 0)]else [.p (eW 0),.p (.int .i64 7)]
theorem Gf(x:Nb)(a:x.le 100000):run tab X 114 [.p (eN x)] []=some (wu x.z,[]):=by
 rw[abQ X hX hB x a,wu];have e:bl x.z.natAbs=bl x.2:=by rw[Nb.JB]
 by_cases h:okW x.z
 . rw[if_pos h,if_neg (by unfold okW at h;omega)]
 . rw[if_neg h,if_pos (by unfold okW at h;omega)]
end
end
section
theorem o9{z:Int}(h:z.natAbs<aX):okW z:=by unfold okW;have:=Jz h;omega
theorem Ux{g:Nat}(h:g<aX):(aW aX g).length<=1:=gG (by simpa using h)
section
variable (X:Ext) (hX:Mine X) (hB:Bits X)
include hX hB
theorem c61(n:Int)(m:-9223372036854775808<=n)(l:n<=9223372036854775807):run tab X 61 [.p (.int .i64 n)] []=some ([.p (eW n)],[]):=
 run_of (hX _ rfl) (by
  have g:aX=18446744073709551616:=rfl;have c:n.natAbs<aX:=by rw[g];omega
  have a:∀ b:Bool,b=decide (n<0)->(((run tab X) 113 [.slice 100000 1 0 1] [.arr false kU [.int .u64 ((n.natAbs:Nat):Int)]]).bind λf =>
      ((run tab X) 114 [.p (.agg [.bool b,.list false kU ((((f.2.headD (.box [])).xs).drop ((f.1.headD .undef).sOff)).take ((f.1.headD .undef).sLen))])] []).bind λi =>
      some ([AV.p (.agg [.bool (((i.1.headD .undef).pv.cell 0).toBool),.str (((i.1.headD .undef).pv.cell 1).toStr)])],([]:List Blk)))=some ([.p (eW n)],[]):=by
    intro b k;rw[EK X hX hB _ c];simp only[qOb,qLh,xs_arr,sOff_slice,sLen_slice];rw[trimmed [n.natAbs] (λd hd=>by rw[List.mem_singleton.1 hd];exact c),show([n.natAbs].drop 0).take 1=[n.natAbs] from rfl,val_one];have:=Gf X hX hB (wW n) (Nat.le_trans (Ux c) (by omega));rw[eN]at this;rw[k];erw [this];rw[mF,wu,if_pos (o9 c)];rfl
  rw[e61];by_cases h:n<0
  . refine condP h ?_;have e:IntKind.u64.wrap n=n+18446744073709551616:=by show n%2^64=_;omega
    have j:IntKind.u64.wrap (0-(n+18446744073709551616))=((n.natAbs:Nat):Int):=by show(0-(n+18446744073709551616))%2^64=_;omega
    rw[e,j];exact a _ rfl
  . refine condNP h ?_;have e:IntKind.u64.wrap n=((n.natAbs:Nat):Int):=by show n%2^64=_;omega
    rw[e];exact a _ rfl)
theorem c60(z:Int)(h:okW z):run tab X 60 [.p (eW z)] []=some ([.p (.int .i64 (bl z.natAbs:Nat))],[]):=
 run_of (hX _ rfl) (by have a:=c110 X hX z;rw[eW]at a;rw[eW,e60,a];simp only[qOb,qLh,pv_p,toBool_bool,decide_eq_true h,qBt,qCf];rw[Yl X hX _ (Nat.le_trans (MQ h) (by omega))];simp only[qOb,qLh,freshList_fresh,qLy,List.take_length];have h4:(aW aX z.natAbs).length<=1024:=fJ h;rw[Uw X hX hB (aW aX z.natAbs) (uJ _) (wU _) (by omega),dval];rfl)
theorem c79(a b:Int)(d:okW a)(c:okW b):run tab X 79 [.p (eW a),.p (eW b)] []=some (wu (a+b),[]):=
 run_of (hX _ rfl) (by have g:=c108 X hX a b;have f:=c139 X hX a d;have e:=c139 X hX b c;rw[eW]at f e;rw[eW,eW]at g;rw[eW,eW,e79,g];simp only[qOb,qLh,pv_p,toBool_bool,decide_eq_true d,decide_eq_true c,Bool.and_true,qBt,qCf];rw[f];simp only[qOb,qLh,pv_p];rw[e];simp only[qOb,qLh,pv_p,iC];rw[c117 X hX _ _ (Nat.le_trans (fJ d) (show 1024<=1000000 by omega)) (Nat.le_trans (fJ c) (show 1024<=1000000 by omega))];simp only[qOb,qLh,pv_p,iC];rw[Gf X hX hB _ (Nat.le_trans (Ib (fJ d) (fJ c)) (show 1025<=100000 by omega)),EL,mF,mF,wu];split<;>rfl)
theorem c159(a b:Int)(c:okW a)(d:okW b):run tab X 159 [.p (eW a),.p (eW b)] []=some (wu (a-b),[]):=
 run_of (hX _ rfl) (by have h:=c108 X hX a b;have g:=c139 X hX a c;have f:=c139 X hX b d;rw[eW]at g f;rw[eW,eW]at h;rw[eW,eW,Zt,h];simp only[qOb,qLh,pv_p,toBool_bool,decide_eq_true c,decide_eq_true d,Bool.and_true,qBt,qCf];rw[g];simp only[qOb,qLh,pv_p];rw[f];simp only[qOb,qLh,pv_p,iC,Uu X hX];have e:(KT (wW b)).le 1024:=fJ d;rw[c117 X hX _ _ (Nat.le_trans (fJ c) (show 1024<=1000000 by omega)) (Nat.le_trans e (show 1024<=1000000 by omega))];simp only[qOb,qLh,pv_p,iC];rw[Gf X hX hB _ (Nat.le_trans (Ib (fJ c) e) (show 1025<=100000 by omega)),EL,KU,mF,mF,<- Int.sub_eq_add_neg,wu];split<;>rfl)
theorem c138(a b:Int)(d:okW a)(c:okW b):run tab X 138 [.p (eW a),.p (eW b)] []=some (wu (a*b),[]):=
 run_of (hX _ rfl) (by have g:=c108 X hX a b;have f:=c139 X hX a d;have e:=c139 X hX b c;rw[eW]at f e;rw[eW,eW]at g;rw[eW,eW,e138,g];simp only[qOb,qLh,pv_p,toBool_bool,decide_eq_true d,decide_eq_true c,Bool.and_true,qBt,qCf];rw[f];simp only[qOb,qLh,pv_p];rw[e];simp only[qOb,qLh,pv_p,iC];rw[c141 X hX hB _ _ (Nat.le_trans (fJ d) (show 1024<=1000000 by omega)) (Nat.le_trans (fJ c) (show 1024<=1000000 by omega))];simp only[qOb,qLh,pv_p,iC];rw[Gf X hX hB _ (Nat.le_trans (sW (fJ d) (fJ c)) (show 2048<=100000 by omega)),yK,mF,mF,wu];split<;>rfl)
end
end
section
def eR(n d:Int):PV:=.agg [.bool (decide (n<0)),.str (jD n.natAbs),.bool (decide (d<0)),.str (jD d.natAbs)]
theorem zu:eR 0 0=.agg [.bool false,.str ⟨#[]⟩,.bool false,.str ⟨#[]⟩]:=by show PV.agg [.bool (decide ((0:Int)<0)),.str (jD 0),.bool (decide ((0:Int)<0)),.str (jD 0)]=_;rw[wH];rfl
def okR(n d:Int):Prop:=okW n/\okW d/\0<d
instance (n d:Int):Decidable (okR n d):=inferInstanceAs (Decidable (_/\_/\_))
def ou(a b:Int):Int:=b.sign*(a / (Int.gcd a b:Int))
def nJ(a b:Int):Int:=(b.natAbs:Int) / (Int.gcd a b:Int)
def BX(a b:Int):List AV:=if okW (ou a b)/\okW (nJ a b)then [.p (eR (ou a b) (nJ a b)),.p (.int .i64 0)]else [.p (eR 0 0),.p (.int .i64 7)]
theorem RN(x y:Nb)(c:0<y.2):(Nb.z (!(x.1==y.1),x.2 / Nat.gcd x.2 y.2))=ou x.z y.z:=by
 have e:Int.gcd x.z y.z=Nat.gcd x.2 y.2:=by rw[Int.gcd,Nb.JB,Nb.JB]
 rw[ou,e];obtain⟨a,m⟩:=x;obtain⟨b,n⟩:=y;have hd:((Nat.gcd m n:Nat):Int) ∣(m:Int):=Int.natCast_dvd_natCast.2 (Nat.gcd_dvd_left m n);have c:0<n:=c;have d:(n:Int).sign=1:=Int.sign_eq_one_of_pos (by omega);unfold Nb.z;cases a<;>cases b<;>simp[d,Int.neg_ediv_of_dvd hd]
theorem RP(x y:Nb):(Nb.z (!(y.1==y.1),y.2 / Nat.gcd x.2 y.2))=nJ x.z y.z:=by grind[Int.gcd,Nb.JB,nJ,Nb.z]
section
variable (X:Ext) (hX:Mine X) (hB:Bits X)
include hX hB
theorem Uy(x y:Nb)(l:x.le 80000)(k:y.le 80000)(hp:0<y.2):run tab X 140 [.p (eN x),.p (eN y)] []=some (BX x.z y.z,[]):=
 run_of (hX _ rfl) (by
  have e:(aW aX x.2).length<=80000:=l;have a:(aW aX y.2).length<=80000:=k;have b:0<Nat.gcd x.2 y.2:=Nat.gcd_pos_of_pos_right _ hp;have c:(aW aX (Nat.gcd x.2 y.2)).length<=80000:=Nat.le_trans (pI (Nat.le_of_dvd hp (Nat.gcd_dvd_right _ _))) a;have h:=Yj X hX hB x (y.1,Nat.gcd x.2 y.2) (Nat.le_trans e (by omega)) (Nat.le_trans c (show 80000<=90000 by omega)) b (Nat.gcd_dvd_left _ _);have g:=Yj X hX hB y (y.1,Nat.gcd x.2 y.2) (Nat.le_trans a (by omega)) (Nat.le_trans c (show 80000<=90000 by omega)) b (Nat.gcd_dvd_right _ _);have j:(Nb.le (!(x.1==y.1),x.2 / Nat.gcd x.2 y.2) 100000):=Nat.le_trans (pI (Nat.div_le_self _ _)) (by omega);have i:(Nb.le (!(y.1==y.1),y.2 / Nat.gcd x.2 y.2) 100000):=Nat.le_trans (pI (Nat.div_le_self _ _)) (by omega);rw[eN,eN]at h g;rw[eN,eN,Zf,c171 X hX hB _ _ (by omega) (by omega)];simp only[qOb,qLh,pv_p,toList_list];rw[h];simp only[qOb,qLh,pv_p,iC];rw[g];simp only[qOb,qLh,pv_p,iC];rw[Gf X hX hB _ j,RN x y hp];simp only[qOb];rw[Gf X hX hB _ i,RP];simp only[qOb];rw[BX];generalize ou x.z y.z=n;generalize nJ x.z y.z=d;by_cases f:okW n
  . rw[wu,if_pos f];by_cases hd:okW d
    . rw[wu,if_pos hd,if_pos ⟨f,hd⟩];rfl
    simp_all[wu,zu]
  simp_all[wu,zu])
theorem c143(a b:Int)(d:okW a)(c:okW b)(i:b≠0):run tab X 143 [.p (eW a),.p (eW b)] []=some (BX a b,[]):=
 run_of (hX _ rfl) (by have g:=c108 X hX a b;have f:=c139 X hX a d;have e:=c139 X hX b c;rw[eW]at f e;rw[eW,eW]at g;rw[eW,eW,e143,g];simp only[qOb,qLh,pv_p,toBool_bool,decide_eq_true d,decide_eq_true c,Bool.and_true,qBt,qCf];rw[ba_beq];refine condNP (λh=>i (by have:=(AU _).1 h;omega)) ?_;rw[f];simp only[qOb,qLh,pv_p];rw[e];simp only[qOb,qLh,pv_p,iC];rw[Uy X hX hB _ _ (Nat.le_trans (fJ d) (show 1024<=80000 by omega)) (Nat.le_trans (fJ c) (show 1024<=80000 by omega)) (by show 0<b.natAbs;omega),mF,mF,BX];split<;>rfl)
theorem wz{n:Int}(b:-9223372036854775808<=n)(a:n<=9223372036854775807):okW n:=o9 (by have _:=hX;have _:=hB;have:aX=18446744073709551616:=rfl;rw[this];omega)
theorem aal(a b:Int)(d:-9223372036854775808<=a/\a<=9223372036854775807)(c:-9223372036854775808<=b/\b<=9223372036854775807)(e:b≠0):run tab X 134 [.p (.int .i64 a),.p (.int .i64 b)] []=some (BX a b,[]):=
 run_of (hX _ rfl) (by rw[Zc,c61 X hX hB a d.1 d.2];simp only[qOb,qLh,pv_p];rw[c61 X hX hB b c.1 c.2];simp only[qOb,qLh,pv_p,iy];rw[c143 X hX hB a b (wz X hX hB d.1 d.2) (wz X hX hB c.1 c.2) e,BX];simp only[qOb];split<;>rfl)
omit hB
theorem c59(n d:Int):run tab X 59 [.p (eR n d)] []=some ([.p (.bool (decide (okR n d)))],[]):=
 run_of (hX _ rfl) (by
  have c:=c108 X hX n d;rw[eW,eW]at c;rw[eR,e59,c];simp only[qOb,qLh,pv_p,toBool_bool];by_cases h:okW n/\okW d
  . rw[show(decide (okW n)&&decide (okW d))=true by simp[h],qCt];have b:=c109 X hX d h.2;rw[eW]at b;rw[b];simp only[qOb,qLh,pv_p,toInt_int];have e:gtI d.sign 0=decide (okR n d):=decide_eq_decide.2 ⟨λa=>⟨h.1,h.2,Int.sign_pos_iff.1 a⟩,λa=>Int.sign_pos_iff.2 a.2.2⟩;rw[e]
  . rw[show(decide (okW n)&&decide (okW d))=false by simp;intro c b;exact h ⟨c,b⟩,qCf,decide_eq_false (show ¬ okR n d from λa=>h ⟨a.1,a.2.1⟩)])
theorem QW(a b c d:Int):run tab X 115 [.p (eR a b),.p (eR c d)] []=some ([.p (.bool (decide (okR a b)&&decide (okR c d)))],[]):=
 run_of (hX _ rfl) (by have e:=c59 X hX a b;have f:=c59 X hX c d;rw[eR]at e f;rw[eR,eR,e115,e];simp only[qOb,qLh,pv_p,toBool_bool];by_cases h:okR a b;all_goals simp_all)
theorem c116(hB:Words X)(a b c d:Int)(l:okW a)(e:okW b)(k:okW c)(h4:okW d):run tab X 116 [.p (eR a b),.p (eR c d)] []=some ([.p (eN (wV (wW a) (wW d))),.p (eN (wV (wW c) (wW b))),.p (eN (wV (wW b) (wW d)))],[]):=
 run_of (hX _ rfl) (by have j:=c139 X hX a l;have i:=c139 X hX b e;have g:=c139 X hX c k;have f:=c139 X hX d h4;rw[eW]at j i g f;have t:∀{z:Int},okW z->(wW z).le 1000000:=λh=>Nat.le_trans (fJ h) (show 1024<=1000000 by omega);rw[eR,eR,e116];simp only[j,i,g,f,qOb,qLh,pv_p,iC,c141 X hX hB _ _ (t l) (t h4),c141 X hX hB _ _ (t k) (t e),c141 X hX hB _ _ (t e) (t h4)])
theorem c62(hB:Words X)(a b c d:Int)(h:okR a b)(e:okR c d):run tab X 62 [.p (eR a b),.p (eR c d)] []=some ([.p (.int .i64 (a*d-c*b).sign),.p (.int .i64 0)],[]):=
 run_of (hX _ rfl) (by have g:=QW X hX a b c d;have f:=c116 X hX hB a b c d h.1 h.2.1 e.1 e.2.1;rw[eR,eR]at g f;have j:(wV (wW a) (wW d)).le 1000000:=Nat.le_trans (sW (fJ h.1) (fJ e.2.1)) (show 2048<=1000000 by omega);have i:(KT (wV (wW c) (wW b))).le 1000000:=Nat.le_trans (show(KT (wV (wW c) (wW b))).le 2048 from sW (fJ e.1) (fJ h.2.1)) (show 2048<=1000000 by omega);rw[eR,eR,e62,g];simp only[qOb,qLh,pv_p,toBool_bool,decide_eq_true h,decide_eq_true e,Bool.and_true,qBt,qCf];rw[f];simp only[qOb,qLh,List.tail_cons,pv_p,iC,Uu X hX,c117 X hX _ _ j i,c119 X hX,toInt_int];simp[Ql,EL,KU,yK,mF,Int.sub_eq_add_neg])
include hB
theorem c80(a b c d:Int)(h:okR a b)(e:okR c d):run tab X 80 [.p (eR a b),.p (eR c d)] []=some (BX (a*d+c*b) (b*d),[]):=
 run_of (hX _ rfl) (by have j:=QW X hX a b c d;have i:=c116 X hX hB a b c d h.1 h.2.1 e.1 e.2.1;rw[eR,eR]at j i;have g:(wV (wW a) (wW d)).le 2048:=sW (fJ h.1) (fJ e.2.1);have f:(wV (wW c) (wW b)).le 2048:=sW (fJ e.1) (fJ h.2.1);have k:(wV (wW b) (wW d)).le 2048:=sW (fJ h.2.1) (fJ e.2.1);rw[eR,eR,e80,j];simp only[qOb,qLh,pv_p,toBool_bool,decide_eq_true h,decide_eq_true e,Bool.and_true,qBt,qCf];rw[i];simp only[qOb,qLh,List.tail_cons,pv_p,iC,c117 X hX _ _ (Nat.le_trans g (show 2048<=1000000 by omega)) (Nat.le_trans f (show 2048<=1000000 by omega))];have hp:0<(wV (wW b) (wW d)).2:=Nat.mul_pos (show 0<b.natAbs by have:=h.2.2;omega) (show 0<d.natAbs by have:=e.2.2;omega);rw[Uy X hX hB _ _ (Nat.le_trans (Ib g f) (show 2049<=80000 by omega)) (Nat.le_trans k (show 2048<=80000 by omega)) hp,EL,yK,yK,yK,mF,mF,mF,mF,BX];simp only[qOb];split<;>rfl)
theorem c81(a b c d:Int)(h:okR a b)(e:okR c d):run tab X 81 [.p (eR a b),.p (eR c d)] []=some (BX (a*c) (b*d),[]):=
 run_of (hX _ rfl) (by have k:=QW X hX a b c d;have j:=c139 X hX a h.1;have i:=c139 X hX b h.2.1;have g:=c139 X hX c e.1;have f:=c139 X hX d e.2.1;rw[eW]at j i g f;rw[eR,eR]at k;have m:(wV (wW a) (wW c)).le 2048:=sW (fJ h.1) (fJ e.1);have l:(wV (wW b) (wW d)).le 2048:=sW (fJ h.2.1) (fJ e.2.1);have t:∀{z:Int},okW z->(wW z).le 1000000:=λh=>Nat.le_trans (fJ h) (show 1024<=1000000 by omega);rw[eR,eR,e81,k];simp only[qOb,qLh,pv_p,toBool_bool,decide_eq_true h,decide_eq_true e,Bool.and_true,qBt,qCf];simp only[j,i,g,f,qOb,qLh,pv_p,iC,c141 X hX hB _ _ (t h.1) (t e.1),c141 X hX hB _ _ (t h.2.1) (t e.2.1)];have hp:0<(wV (wW b) (wW d)).2:=Nat.mul_pos (show 0<b.natAbs by have:=h.2.2;omega) (show 0<d.natAbs by have:=e.2.2;omega);rw[Uy X hX hB _ _ (Nat.le_trans m (show 2048<=80000 by omega)) (Nat.le_trans l (show 2048<=80000 by omega)) hp,yK,yK,mF,mF,mF,mF,BX];simp only[qOb];split<;>rfl)
end
end
section
abbrev B9:Nat:=1000000000
theorem b9:2<=B9:=by decide
abbrev kI:List Kd:=[.int .i64]
theorem KI(k:IntKind)(x:List Nat):((aY k x).drop 0).take x.length=aY k x:=by rw[qLy,<- bG k x,List.take_length]
section
variable (X:Ext) (hX:Mine X)
include hX
theorem aa7(b:List Nat)(k:b.length<=2147483648)(o:Nat):∀ l,o+l<=b.length->L tab (run tab X) 130 [.arr false kI (aY .i64 b)] [.lp [1,0,0]] (yV o l (aY .i64 b))=some ([.slice 100000 1 o (trim ((b.drop o).take l)).length],[.arr false kI (aY .i64 b)]):=by
 have _:=hX;intro l;induction l with
 | zero =>intro h;refine L_of ?_;rw[Iu];rfl
 | succ l j =>
  intro h;have e:IntKind.i64.wrap (((l+1:Nat):Int)-1)=(l:Int):=by rw[wrap_eq (by omega) (by omega)];omega
  have c:l<(b.drop o).length:=by simp;omega
  have g:(b.drop o)[l]=b.getD (o+l) 0:=by grind
  refine L_of ?_;rw[Iu];refine condP (show((l+1:Nat):Int) > 0 by omega) ?_;rw[e];have f:(leI (0:Int) (l:Int)&&ltI (l:Int) ((l+1:Nat):Int))=true:=by simp;omega
  have a:(leI (0:Int) (l:Int)&&(leI (l:Int) ((l+1:Nat):Int)&&leI ((l+1:Nat):Int) ((l+1:Nat):Int)))=true:=by simp;omega
  rw[f,a];simp only[qCt,qIt,dD,condE,Int.sub_zero,Nat.add_zero];rw[List.take_succ_eq_append_getElem c,g];by_cases i:b.getD (o+l) 0=0
  . grind[yj]
  . rw[if_neg (by omega),tu (λd hd=>by rw[List.getLast?_concat]at hd;exact Option.some.inj hd▸i),qLp,List.length_take,Nat.min_eq_left (by omega)];rfl
theorem c130(b:List Nat)(a:b.length<=2147483648)(o l:Nat)(h:o+l<=b.length):run tab X 130 [.slice 100000 1 o l] [.arr false kI (aY .i64 b)]=some ([.slice 100000 1 o (trim ((b.drop o).take l)).length],[.arr false kI (aY .i64 b)]):=
 run_of (hX _ rfl) (by rw[Y9];exact aa7 X hX b a o l h)
theorem BG(b:List Nat)(e:b.length<=2147483648)(c:ok B9 b)(l:Nat)(d:l=b.length):((run tab X) 130 [.slice 100000 1 0 l] [.arr false kI (aY .i64 b)]).bind (λa=>some ([AV.fresh false kI ((((a.2.headD (.box [])).xs).drop ((a.1.headD .undef).sOff)).take ((a.1.headD .undef).sLen))],([]:List Blk)))=some ([.fresh false kI (aY .i64 (aW B9 (val B9 b)))],[]):=by subst d;rw[c130 X hX b e 0 _ (by omega),qLy,List.take_length,<- lq b9 c rfl];simp[qLy,iT,lI]
theorem aa8(N M:List Nat)(e:ok B9 N)(f:ok B9 M)(i:N.length<=100000000)(m:N.length=M.length):∀ k,k<=N.length->N.drop k=M.drop k ->
    L tab (run tab X) 174 [] [.lp [1,1,0,1,0]] (uS (aY .i64 N) (aY .i64 M) ((k:Int)-1))=some ([.p (.int .i64 (xW (val B9 N) (val B9 M)))],[]):=by
  have _:=hX;intro k;induction k with
  | zero =>intro _ hd;rw[qLy,qLy]at hd;subst hd;refine L_of ?_;grind[Dx,F6]
  | succ k d =>
   intro j hd;refine L_of ?_;rw[show((k+1:Nat):Int)-1=(k:Int) by omega,Dx];refine condP (by omega) ?_;have c:(leI (0:Int) (k:Int)&&ltI (k:Int) (((aY .i64 N).length:Nat):Int))=true:=by simp;omega
   have b:(leI (0:Int) (k:Int)&&ltI (k:Int) (((aY .i64 M).length:Nat):Int))=true:=by simp;omega
   have a:IntKind.i64.wrap ((k:Int)-1)=(k:Int)-1:=wrap_eq (by omega) (by omega);rw[c,b];simp only[qCt,qIt,dD,a];by_cases h:N.getD k 0<M.getD k 0
   . rw[H7 (CS e (by omega) (by omega) hd h)];grind
   . refine condNP (by omega) ?_;by_cases g:M.getD k 0<N.getD k 0
     . rw[H8 (CS f (by omega) (by omega) hd.symm g)];grind
     . refine condNP (by omega) ?_;exact d (by omega) (by rw[jP (l:=N) (k:=k) (by omega),jP (l:=M) (k:=k) (by omega),hd,show N.getD k 0=M.getD k 0 by omega])
theorem aa9(N M:List Nat)(a:ok B9 N)(b:ok B9 M)(c:Dig.tight N)(d:Dig.tight M)(e:N.length<=100000000)(g:M.length<=100000000):run tab X 174 [.p (.list false kI (aY .i64 N)),.p (.list false kI (aY .i64 M))] []=some ([.p (.int .i64 (xW (val B9 N) (val B9 M)))],[]):=
 run_of (hX _ rfl) (by
  rw[Zx];simp only[bG];by_cases h:N.length=M.length
  . rw[show(((N.length:Nat):Int) !=((M.length:Nat):Int))=false by simp[h],qCf,wrap_eq (by omega) (by omega)];exact aa8 X hX N M a b e h N.length (by omega) (by rw[List.drop_eq_nil_of_le (by omega),List.drop_eq_nil_of_le (by omega)])
  . rw[show(((N.length:Nat):Int) !=((M.length:Nat):Int))=true by simp;omega,qCt];by_cases f:N.length<M.length
    . rw[H7 (uH b9 a b d f)];grind
    . rw[H8 (uH b9 b a c (show M.length<N.length by omega))];grind)
theorem abb(N M:List Nat)(I:ok B9 N)(J:ok B9 M)(O:N.length<=100000000)(C:M.length<=N.length)(D:val B9 M<=val B9 N):∀(k i c:Nat) (a:List Nat),i+k=N.length->a.length=i->ok B9 a->c<=1 ->
    val B9 a+val B9 (M.take i)=val B9 (N.take i)+B9^i*c ->
    L tab (run tab X) 175 [] [.lp [1,1,1,0,1,0]] (jG (aY .i64 N) (aY .i64 M) 0 i c i (aY .i64 a))=some ([.fresh false kI (aY .i64 (aW B9 (val B9 N-val B9 M)))],[]):=by
  intro k;induction k with
  | zero =>
   intro i c a E hp g H m;have p:i=N.length:=by omega
   subst p;refine L_of ?_;rw[Bc];refine condNP (by simp) ?_;rw[jk _ _ _ (qNr _),jk _ _ _ C]at m;have K:=jQ g;rw[hp]at K;have q:c=0:=by grind
   subst q;have h:val B9 a=val B9 N-val B9 M:=by omega
   rw[<- h];exact BG X hX _ (by omega) g _ hp.symm
  | succ k x =>
   intro i c a E hp g H m;refine L_of ?_;rw[Bc];refine condP (by simp;omega) ?_;have hd:N.getD i 0<B9:=dZ I (by decide) i;have z:M.getD i 0<B9:=dZ J (by decide) i;have G:N.getD i 0<1000000000:=hd;have y:M.getD i 0<1000000000:=z;have B:(leI (0:Int) (i:Int)&&ltI (i:Int) (((aY .i64 N).length:Nat):Int))=true:=by simp;omega
   have t:IntKind.i64.wrap ((i:Int)+1)=((i+1:Nat):Int):=by rw[wrap_eq (by omega) (by omega)];omega
   have A:((aY .i64 a).drop 0).take i=aY .i64 a:=by rw[<- hp];exact KI .i64 a
   have f:∀ e l:Nat,e<B9->l<=1->e+M.getD i 0+c=N.getD i 0+B9*l ->
       (bif (leN (i+1) 2147483648)then L tab (run tab X) 175 [] [.lp [1,1,1,0,1,0]] (jG (aY .i64 N) (aY .i64 M) 0 (i+1) (l:Nat) (i+1:Nat) ((((aY .i64 a).drop 0).take i)++([.int .i64 ((e:Nat):Int)]:List PV)))else none)=some ([.fresh false kI (aY .i64 (aW B9 (val B9 N-val B9 M)))],[]):=by
     intro e l F r j;refine condP (show i+1<=2147483648 by omega) ?_;rw[A,show([.int .i64 ((e:Nat):Int)]:List PV)=aY .i64 [e] from rfl,qx];refine x (i+1) l _ (by omega) (by simp[hp]) (gI.2 ⟨g,λd hd=>by rw[List.mem_singleton.1 hd];exact F⟩) r ?_;rw[iJ,hp,lg,lg];exact Ot m j
   simp only[t];rw[B,qCt];simp only[qIt,dD];have s:IntKind.i64.wrap ((N.getD i 0:Int)-(c:Int))=(N.getD i 0:Int)-c:=wrap_eq (by omega) (by omega);have w:IntKind.i64.wrap ((N.getD i 0:Int)-(c:Int)-(M.getD i 0:Int))=(N.getD i 0:Int)-c-M.getD i 0:=wrap_eq (by omega) (by omega);have v:IntKind.i64.wrap ((N.getD i 0:Int)-(c:Int)-(M.getD i 0:Int)+1000000000)=(N.getD i 0:Int)-c-M.getD i 0+1000000000:=wrap_eq (by omega) (by omega);have u:IntKind.i64.wrap ((N.getD i 0:Int)-(c:Int)+1000000000)=(N.getD i 0:Int)-c+1000000000:=wrap_eq (by omega) (by omega);have P:B9=1000000000:=rfl;by_cases o:(i:Int)<((aY .i64 M).length:Nat)
   . refine condP o ?_;have n:(leI (0:Int) (i:Int)&&ltI (i:Int) (((aY .i64 M).length:Nat):Int))=true:=by simp at o ⊢;omega
     rw[n,qCt,s,w,v];by_cases b:(N.getD i 0:Int)-c-M.getD i 0<0
     . refine condP b ?_;have:=f (N.getD i 0+1000000000-c-M.getD i 0) 1 (by omega) (by omega) (by omega);rw[show((N.getD i 0+1000000000-c-M.getD i 0:Nat):Int)=(N.getD i 0:Int)-c-M.getD i 0+1000000000 by omega]at this;exact this
     . refine condNP b ?_;have:=f (N.getD i 0-c-M.getD i 0) 0 (by omega) (by omega) (by omega);rw[show((N.getD i 0-c-M.getD i 0:Nat):Int)=(N.getD i 0:Int)-c-M.getD i 0 by omega]at this;exact this
   . refine condNP o ?_;have Q:M.getD i 0=0:=by simp_all
     rw[s,u];by_cases b:(N.getD i 0:Int)-c<0
     . refine condP b ?_;have:=f (N.getD i 0+1000000000-c) 1 (by omega) (by omega) (by omega);rw[show((N.getD i 0+1000000000-c:Nat):Int)=(N.getD i 0:Int)-c+1000000000 by omega]at this;exact this
     . refine condNP b ?_;have:=f (N.getD i 0-c) 0 (by omega) (by omega) (by omega);rw[show((N.getD i 0-c:Nat):Int)=(N.getD i 0:Int)-c by omega]at this;exact this
theorem c175(N M:List Nat)(d:ok B9 N)(e:ok B9 M)(b:N.length<=100000000)(c:M.length<=N.length)(a:val B9 M<=val B9 N):run tab X 175 [.p (.list false kI (aY .i64 N)),.p (.list false kI (aY .i64 M))] []=some ([.fresh false kI (aY .i64 (aW B9 (val B9 N-val B9 M)))],[]):=
 run_of (hX _ rfl) (by rw[Zy];exact abb X hX N M d e b c a N.length 0 0 [] (by omega) rfl (nK _) (by omega) rfl)
end
end
section
variable {l:List Nat}
theorem Jq{b:Nat}(i:2<=b)(f:ok b l)(k:l≠[]->b^(l.length-1)<=val b l):Dig.tight l:=by
 intro d hd g;subst g;have e:l≠[]:=by intro h;rw[h]at hd;simp at hd
 obtain⟨a,rfl⟩:=List.getLast?_eq_some_iff.1 hd;have j:val b a<b^a.length:=jQ (λx c=>f x (List.mem_append_left _ c));grind[iJ]
theorem uI{i:Nat}(h:l.length<=i):l.getD i 0=0:=by grind
theorem F7(s k:Nat):((s:Int)).tdiv (k:Int)=((s / k:Nat):Int):=by rw[Int.tdiv_eq_ediv_of_nonneg (by omega)];norm_cast
theorem Jr(s k:Nat):((s:Int)).tmod (k:Int)=((s%k:Nat):Int):=by rw[Int.tmod_eq_emod_of_nonneg (by omega)];norm_cast
section
variable (X:Ext) (hX:Mine X)
include hX
theorem abd(N M:List Nat)(H:ok B9 N)(I:ok B9 M)(S:Dig.tight N)(T:Dig.tight M)(hn:N.length<=100000000)(hm:M.length<=100000000):∀(k i c:Nat) (a:List Nat),i+k=max N.length M.length+1->a.length=i->ok B9 a->c<=1 ->
    (k=0->c=0/\B9^(max N.length M.length)<=val B9 N+val B9 M) ->
    val B9 a+B9^i*c=val B9 (N.take i)+val B9 (M.take i) ->
    L tab (run tab X) 128 [] [.lp [1,1,1,0,1,0]] (dK (aY .i64 N) (aY .i64 M) 0 i c i (aY .i64 a))=some ([.fresh false kI (aY .i64 (aW B9 (val B9 N+val B9 M)))],[]):=by
  have _:=hX;have hB:B9=1000000000:=rfl
  have G:∀(i:Nat) (a:List Nat),max N.length M.length<=i->a.length=i->ok B9 a->(i=max N.length M.length+1->B9^(max N.length M.length)<=val B9 N+val B9 M)->i<=max N.length M.length+1->val B9 a=val B9 (N.take i)+val B9 (M.take i) ->
      some ([AV.fresh false kI (((aY .i64 a).drop 0).take i)],([]:List Blk))=some ([.fresh false kI (aY .i64 (aW B9 (val B9 N+val B9 M)))],[]):=by
    intro i a K h2 J h4 h5 F;rw[jk _ N _ (by omega),jk _ M _ (by omega)]at F;have W:Dig.tight a:=Jq b9 J (by
     intro y;have hl:0<a.length:=List.length_pos_iff.2 y;rw[F];rcases Nat.lt_or_ge (max N.length M.length) i with h | h
     . grind
     . rcases Nat.lt_or_ge N.length i with E | E
       . have C:M≠[]:=by intro D;rw[D]at K h;simp at K h;omega
         have:=EH b9 I T C;grind
       . have B:N≠[]:=by intro D;rw[D]at E;simp at E;omega
         have:=EH b9 H S B;grind)
    rw[<- h2,KI,Gg b9 J W F]
  intro k;induction k with
  | zero =>intro i c a Z hp p hc h0 u;obtain⟨c0,hge⟩:=h0 rfl;subst c0;refine L_of ?_;rw[AY];refine condNP (by simp;omega) (condNP (by simp;omega) (condNP (by simp) ?_));grind
  | succ k U =>
   intro i c a Z hp p hc _ u;have hd:N.getD i 0<1000000000:=dZ H (by decide) i;have hx:M.getD i 0<1000000000:=dZ I (by decide) i;have O:IntKind.i64.wrap ((i:Int)+1)=((i+1:Nat):Int):=by rw[wrap_eq (by omega) (by omega)];omega
   have V:((aY .i64 a).drop 0).take i=aY .i64 a:=by rw[<- hp];exact KI .i64 a
   have j:i<max N.length M.length\/c=1->∀ s:Nat,s=c+N.getD i 0+M.getD i 0 ->
       (bif (Go.Skm.leN (i+1) 2147483648)then L tab (run tab X) 128 [] [.lp [1,1,1,0,1,0]] (dK (aY .i64 N) (aY .i64 M) 0 (i+1) (IntKind.i64.wrap ((s:Int).tdiv 1000000000)) (i+1:Nat) ((((aY .i64 a).drop 0).take i)++([.int .i64 ((s:Int).tmod 1000000000)]:List PV)))else none)=some ([.fresh false kI (aY .i64 (aW B9 (val B9 N+val B9 M)))],[]):=by
     intro hcase s hs;refine condP (show i+1<=2147483648 by omega) ?_;rw[V,show(1000000000:Int)=((B9:Nat):Int) from rfl,F7,Jr,show([.int .i64 ((s%B9:Nat):Int)]:List PV)=aY .i64 [s%B9] from rfl,qx];have hstep:=Ii (b:=B9) (d:=N.getD i 0) (x:=M.getD i 0) u;rw[show N.getD i 0+M.getD i 0+c=s by omega]at hstep;have n:s / B9<=1:=by show s / 1000000000<=1;omega
     have o:i=max N.length M.length->s / B9=0:=by intro w;have z:N.getD i 0=0:=uI (by omega);have v:M.getD i 0=0:=uI (by omega);grind
     have r:s%B9<B9:=qNm _ (by decide);revert hstep n o r;generalize s / B9=q;generalize s%B9=e;intro hstep n o r;rw[wrap_eq (by omega) (by omega)];refine U (i+1) q _ (by omega) (by simp[hp]) (gI.2 ⟨p,λd hd=>by rw[List.mem_singleton.1 hd];exact r⟩) n ?_ ?_
     . intro hk;have w:i=max N.length M.length:=by omega
       have t:c=1:=by omega
       refine⟨o w,?_⟩;rw[jk _ N _ (by omega),jk _ M _ (by omega),t,Nat.mul_one]at u;grind
     . grind[iJ,lg]
   refine L_of ?_;rw[AY];simp only[O,qIt,dD];have R:IntKind.i64.wrap ((c:Int)+(N.getD i 0:Int))=((c+N.getD i 0:Nat):Int):=by rw[wrap_eq (by omega) (by omega)];omega
   have Q:IntKind.i64.wrap (((c+N.getD i 0:Nat):Int)+(M.getD i 0:Int))=((c+N.getD i 0+M.getD i 0:Nat):Int):=by rw[wrap_eq (by omega) (by omega)];omega
   have P:IntKind.i64.wrap ((c:Int)+(M.getD i 0:Int))=((c+M.getD i 0:Nat):Int):=by rw[wrap_eq (by omega) (by omega)];omega
   rw[R,Q,P];by_cases g:(i:Int)<((aY .i64 N).length:Nat)
   . have adE:i<N.length:=by simpa using g
     have Y:(leI (0:Int) (i:Int)&&ltI (i:Int) (((aY .i64 N).length:Nat):Int))=true:=by simp;omega
     refine condP g (condP g ?_);rw[Y,qCt];by_cases f:(i:Int)<((aY .i64 M).length:Nat)
     . have m:(leI (0:Int) (i:Int)&&ltI (i:Int) (((aY .i64 M).length:Nat):Int))=true:=by simp at f ⊢;omega
       refine condP f ?_;rw[m,qCt];exact j (Or.inl (by omega)) _ rfl
     . refine condNP f ?_;have v:M.getD i 0=0:=uI (by simp at f;omega);exact j (Or.inl (by omega)) (c+N.getD i 0) (by omega)
   . have z:N.getD i 0=0:=uI (by simp at g;omega);refine condNP g ?_;by_cases f:(i:Int)<((aY .i64 M).length:Nat)
     . have abe:i<M.length:=by simpa using f
       have m:(leI (0:Int) (i:Int)&&ltI (i:Int) (((aY .i64 M).length:Nat):Int))=true:=by simp at f ⊢;omega
       refine condP f (condNP g (condP f ?_));rw[m,qCt];exact j (Or.inl (by omega)) (c+M.getD i 0) (by omega)
     . have v:M.getD i 0=0:=uI (by simp at f;omega);refine condNP f ?_;by_cases t:c=1
       . refine condP (show(c:Int) > 0 by omega) (condNP g (condNP f ?_));exact j (Or.inr t) c (by omega)
       . refine condNP (show ¬(c:Int) > 0 by omega) ?_;have A:c=0:=by omega
         rw[A,Nat.mul_zero,Nat.add_zero]at u;simp at g f;exact G i a (by omega) hp p (λh=>by omega) (by omega) u
theorem abf(x y:Nat)(b:(aW B9 x).length<=100000000)(a:(aW B9 y).length<=100000000):run tab X 128 [.p (.list false kI (aY .i64 (aW B9 x))),.p (.list false kI (aY .i64 (aW B9 y)))] []=some ([.fresh false kI (aY .i64 (aW B9 (x+y)))],[]):=
 run_of (hX _ rfl) (by rw[e128];have:=abd X hX (aW B9 x) (aW B9 y) (qI b9 x) (qI b9 y) (oO b9 x) (oO b9 y) b a (max (aW B9 x).length (aW B9 y).length+1) 0 0 [] (by omega) rfl (nK _) (by omega) (by omega) rfl;rw[kD b9,kD b9]at this;exact this)
end
end
end Go.Skm.Fen
