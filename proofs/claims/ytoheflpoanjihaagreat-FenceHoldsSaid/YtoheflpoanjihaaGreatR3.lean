import Derived.Test.YtoheflpoanjihaaGreatW14
set_option linter.all false
namespace Go.Skm.Fen
open Go Go.Skm Go.Skm.Dig
section
theorem zl{z:Int}(h:z.natAbs<bH):okW z:=by unfold okW;have:=adB h;omega
theorem aob{g:Nat}(h:g<bH):(bG bH g).length<=1:=lF (by simpa using h)
section
variable (X:Ext) (hX:Mine X) (hB:Bits X)
include hX hB
theorem c61(n:Int)(m:-9223372036854775808<=n)(l:n<=9223372036854775807):run tab X 61 [Ab n] []=some ([.p (eW n)],[]):=
 aY (hX _ rfl) (by
  have e:bH=18446744073709551616:=rfl;have a:n.natAbs<bH:=by rw[e];omega
  have j:∀ b:Bool,b=decide (n<0)->(((run tab X) 113 [.slice 100000 1 0 1] [.arr false kU [.int .u64 ((n.natAbs:Nat):Int)]]).bind λc =>
      ((run tab X) 114 [.p (.agg [.bool b,.list false kU ((((c.2.headD (.box [])).xs).drop ((c.1.headD .undef).qM)).take ((c.1.headD .undef).sLen))])] []).bind λf =>
      some ([AV.p (.agg [.bool (((f.1.headD .undef).pv.cell 0).toBool),.str (((f.1.headD .undef).pv.cell 1).toStr)])],([]:List bZ)))=some ([.p (eW n)],[]):=by
    intro b i;rw[XL X hX hB _ a];simp only[qOb,qLh,yF,kL,kM];rw[trimmed [n.natAbs] (λd hd=>by rw[List.mem_singleton.1 hd];exact a),show([n.natAbs].drop 0).take 1=[n.natAbs] from rfl,val_one];have:=Zn X hX hB (KR n) (Nat.le_trans (aob a) (by omega));rw[eN]at this;rw[i];erw [this];rw[vZ,JE,if_pos (zl a)];rfl
  rw[e61];by_cases h:n<0
  . refine fK h ?_;have g:IntKind.u64.wrap n=n+18446744073709551616:=by show n%2^64=_;omega
    have k:IntKind.u64.wrap (0-(n+18446744073709551616))=((n.natAbs:Nat):Int):=by show(0-(n+18446744073709551616))%2^64=_;omega
    grind
  . refine dR h ?_;have g:IntKind.u64.wrap n=((n.natAbs:Nat):Int):=by show n%2^64=_;omega
    grind)
theorem c60(z:Int)(h:okW z):run tab X 60 [.p (eW z)] []=some ([Ab (bl z.natAbs:Nat)],[]):=
 aY (hX _ rfl) (by have a:=amm X hX z;rw[eW]at a;rw[eW,e60,a];simp only[qOb,qLh,bV,bf,decide_eq_true h,qBt,qCf];rw[asb X hX _ (Nat.le_trans (agu h) (by omega))];simp only[qOb,qLh,dJ,qLy,List.take_length];have h4:(bG bH z.natAbs).length<=1024:=jP h;rw[aoa X hX hB (bG bH z.natAbs) (Ho _) (KO _) (by omega),dval];rfl)
theorem c79(a b:Int)(d:okW a)(c:okW b):run tab X 79 [.p (eW a),.p (eW b)] []=some (JE (a+b),[]):=
 aY (hX _ rfl) (by have g:=aie X hX a b;have f:=c139 X hX a d;have e:=c139 X hX b c;rw[eW]at f e;rw[eW,eW]at g;rw[eW,eW,e79,g];simp only[qOb,qLh,bV,bf,decide_eq_true d,decide_eq_true c,Bool.and_true,qBt,qCf];rw[f];simp only[qOb,qLh,bV];rw[e];simp only[qOb,qLh,bV,mZ];rw[c117 X hX _ _ (Nat.le_trans (jP d) (show 1024<=1000000 by omega)) (Nat.le_trans (jP c) (show 1024<=1000000 by omega))];simp only[qOb,qLh,bV,mZ];rw[Zn X hX hB _ (Nat.le_trans (abg (jP d) (jP c)) (show 1025<=100000 by omega)),XM,vZ,vZ,JE];split<;>rfl)
theorem c159(a b:Int)(c:okW a)(d:okW b):run tab X 159 [.p (eW a),.p (eW b)] []=some (JE (a-b),[]):=
 aY (hX _ rfl) (by have h:=aie X hX a b;have g:=c139 X hX a c;have f:=c139 X hX b d;rw[eW]at g f;rw[eW,eW]at h;rw[eW,eW,atz,h];simp only[qOb,qLh,bV,bf,decide_eq_true c,decide_eq_true d,Bool.and_true,qBt,qCf];rw[g];simp only[qOb,qLh,bV];rw[f];simp only[qOb,qLh,bV,mZ,an9 X hX];have e:(afg (KR b)).le 1024:=jP d;rw[c117 X hX _ _ (Nat.le_trans (jP c) (show 1024<=1000000 by omega)) (Nat.le_trans e (show 1024<=1000000 by omega))];simp only[qOb,qLh,bV,mZ];rw[Zn X hX hB _ (Nat.le_trans (abg (jP c) e) (show 1025<=100000 by omega)),XM,afh,vZ,vZ,<- Int.sub_eq_add_neg,JE];split<;>rfl)
theorem c138(a b:Int)(d:okW a)(c:okW b):run tab X 138 [.p (eW a),.p (eW b)] []=some (JE (a*b),[]):=
 aY (hX _ rfl) (by have g:=aie X hX a b;have f:=c139 X hX a d;have e:=c139 X hX b c;rw[eW]at f e;rw[eW,eW]at g;rw[eW,eW,e138,g];simp only[qOb,qLh,bV,bf,decide_eq_true d,decide_eq_true c,Bool.and_true,qBt,qCf];rw[f];simp only[qOb,qLh,bV];rw[e];simp only[qOb,qLh,bV,mZ];rw[c141 X hX hB _ _ (Nat.le_trans (jP d) (show 1024<=1000000 by omega)) (Nat.le_trans (jP c) (show 1024<=1000000 by omega))];simp only[qOb,qLh,bV,mZ];rw[Zn X hX hB _ (Nat.le_trans (E8 (jP d) (jP c)) (show 2048<=100000 by omega)),Oy,vZ,vZ,JE];split<;>rfl)
end
end
section
def eR(n d:Int):PV:=.agg [.bool (decide (n<0)),.str (vk n.natAbs),.bool (decide (d<0)),.str (vk d.natAbs)]
theorem ajo(n d:Int):PV.agg [.bool (((eR n d).cell 0).toBool),.str (((eR n d).cell 1).toStr),.bool (((eR n d).cell 2).toBool),.str (((eR n d).cell 3).toStr)]=eR n d:=rfl
theorem ZU:eR 0 0=.agg [.bool false,.str ⟨#[]⟩,.bool false,.str ⟨#[]⟩]:=by show PV.agg [.bool (decide ((0:Int)<0)),.str (vk 0),.bool (decide ((0:Int)<0)),.str (vk 0)]=_;rw[JJ];rfl
def okR(n d:Int):Prop:=okW n/\okW d/\0<d
instance (n d:Int):Decidable (okR n d):=inferInstanceAs (Decidable (_/\_/\_))
def D5(a b:Int):Int:=b.sign*(a / (Int.gcd a b:Int))
def D6(a b:Int):Int:=(b.natAbs:Int) / (Int.gcd a b:Int)
def TV(a b:Int):List AV:=if okW (D5 a b)/\okW (D6 a b)then [.p (eR (D5 a b) (D6 a b)),Ab 0]else [.p (eR 0 0),Ab 7]
theorem amn(x y:Nb)(c:0<y.2):(Nb.z (!(x.1==y.1),x.2 / Nat.gcd x.2 y.2))=D5 x.z y.z:=by
 have e:Int.gcd x.z y.z=Nat.gcd x.2 y.2:=by rw[Int.gcd,Nb.adE,Nb.adE]
 rw[D5,e];obtain⟨a,m⟩:=x;obtain⟨b,n⟩:=y;have hd:((Nat.gcd m n:Nat):Int) ∣(m:Int):=Int.natCast_dvd_natCast.2 (Nat.gcd_dvd_left m n);have c:0<n:=c;have d:(n:Int).sign=1:=Int.sign_eq_one_of_pos (by omega);unfold Nb.z;cases a<;>cases b<;>simp[d,Int.neg_ediv_of_dvd hd]
theorem amo(x y:Nb):(Nb.z (!(y.1==y.1),y.2 / Nat.gcd x.2 y.2))=D6 x.z y.z:=by grind[Int.gcd,Nb.adE,D6,Nb.z]
section
variable (X:Ext) (hX:Mine X) (hB:Bits X)
include hX hB
theorem aoc(x y:Nb)(l:x.le 80000)(k:y.le 80000)(hp:0<y.2):run tab X 140 [.p (eN x),.p (eN y)] []=some (TV x.z y.z,[]):=
 aY (hX _ rfl) (by
  have e:(bG bH x.2).length<=80000:=l;have a:(bG bH y.2).length<=80000:=k;have b:0<Nat.gcd x.2 y.2:=Nat.gcd_pos_of_pos_right _ hp;have c:(bG bH (Nat.gcd x.2 y.2)).length<=80000:=Nat.le_trans (zF (Nat.le_of_dvd hp (Nat.gcd_dvd_right _ _))) a;have h:=ar9 X hX hB x (y.1,Nat.gcd x.2 y.2) (Nat.le_trans e (by omega)) (Nat.le_trans c (show 80000<=90000 by omega)) b (Nat.gcd_dvd_left _ _);have g:=ar9 X hX hB y (y.1,Nat.gcd x.2 y.2) (Nat.le_trans a (by omega)) (Nat.le_trans c (show 80000<=90000 by omega)) b (Nat.gcd_dvd_right _ _);have j:(Nb.le (!(x.1==y.1),x.2 / Nat.gcd x.2 y.2) 100000):=Nat.le_trans (zF (Nat.div_le_self _ _)) (by omega);have i:(Nb.le (!(y.1==y.1),y.2 / Nat.gcd x.2 y.2) 100000):=Nat.le_trans (zF (Nat.div_le_self _ _)) (by omega);rw[eN,eN]at h g;rw[eN,eN,atl,c171 X hX hB _ _ (by omega) (by omega)];simp only[qOb,qLh,bV,EO];rw[h];simp only[qOb,qLh,bV,mZ];rw[g];simp only[qOb,qLh,bV,mZ];rw[Zn X hX hB _ j,amn x y hp];simp only[qOb];rw[Zn X hX hB _ i,amo];simp only[qOb];rw[TV];generalize D5 x.z y.z=n;generalize D6 x.z y.z=d;by_cases f:okW n
  . rw[JE,if_pos f];by_cases hd:okW d
    . rw[JE,if_pos hd,if_pos ⟨f,hd⟩];rfl
    simp_all[JE,ZU]
  simp_all[JE,ZU])
theorem c143(a b:Int)(d:okW a)(c:okW b)(i:b≠0):run tab X 143 [.p (eW a),.p (eW b)] []=some (TV a b,[]):=
 aY (hX _ rfl) (by have g:=aie X hX a b;have f:=c139 X hX a d;have e:=c139 X hX b c;rw[eW]at f e;rw[eW,eW]at g;rw[eW,eW,e143,g];simp only[qOb,qLh,bV,bf,decide_eq_true d,decide_eq_true c,Bool.and_true,qBt,qCf];rw[akz];refine dR (λh=>i (by have:=(RS _).1 h;omega)) ?_;rw[f];simp only[qOb,qLh,bV];rw[e];simp only[qOb,qLh,bV,mZ];rw[aoc X hX hB _ _ (Nat.le_trans (jP d) (show 1024<=80000 by omega)) (Nat.le_trans (jP c) (show 1024<=80000 by omega)) (by show 0<b.natAbs;omega),vZ,vZ,TV];split<;>rfl)
theorem JF{n:Int}(b:-9223372036854775808<=n)(a:n<=9223372036854775807):okW n:=zl (by have _:=hX;have _:=hB;have:bH=18446744073709551616:=rfl;rw[this];omega)
theorem auU(a b:Int)(d:-9223372036854775808<=a/\a<=9223372036854775807)(c:-9223372036854775808<=b/\b<=9223372036854775807)(e:b≠0):run tab X 134 [Ab a,Ab b] []=some (TV a b,[]):=
 aY (hX _ rfl) (by rw[ath,c61 X hX hB a d.1 d.2];simp only[qOb,qLh,bV];rw[c61 X hX hB b c.1 c.2];simp only[qOb,qLh,bV,mX];rw[c143 X hX hB a b (JF X hX hB d.1 d.2) (JF X hX hB c.1 c.2) e,TV];simp only[qOb];split<;>rfl)
omit hB
theorem c59(n d:Int):run tab X 59 [.p (eR n d)] []=some ([Ac (decide (okR n d))],[]):=
 aY (hX _ rfl) (by
  have c:=aie X hX n d;rw[eW,eW]at c;rw[eR,e59,c];simp only[qOb,qLh,bV,bf];by_cases h:okW n/\okW d
  . rw[show(decide (okW n)&&decide (okW d))=true by simp[h],qCt];have b:=c109 X hX d h.2;rw[eW]at b;rw[b];simp only[qOb,qLh,bV,toInt_int];have e:mg d.sign 0=decide (okR n d):=decide_eq_decide.2 ⟨λa=>⟨h.1,h.2,Int.sign_pos_iff.1 a⟩,λa=>Int.sign_pos_iff.2 a.2.2⟩;rw[e]
  . rw[show(decide (okW n)&&decide (okW d))=false by simp;intro c b;exact h ⟨c,b⟩,qCf,decide_eq_false (show ¬ okR n d from λa=>h ⟨a.1,a.2.1⟩)])
theorem alk(a b c d:Int):run tab X 115 [.p (eR a b),.p (eR c d)] []=some ([Ac (decide (okR a b)&&decide (okR c d))],[]):=
 aY (hX _ rfl) (by have e:=c59 X hX a b;have f:=c59 X hX c d;rw[eR]at e f;rw[eR,eR,e115,e];simp only[qOb,qLh,bV,bf];by_cases h:okR a b;all_goals simp_all)
theorem c116(hB:Words X)(a b c d:Int)(l:okW a)(e:okW b)(k:okW c)(h4:okW d):run tab X 116 [.p (eR a b),.p (eR c d)] []=some ([.p (eN (KQ (KR a) (KR d))),.p (eN (KQ (KR c) (KR b))),.p (eN (KQ (KR b) (KR d)))],[]):=
 aY (hX _ rfl) (by have j:=c139 X hX a l;have i:=c139 X hX b e;have g:=c139 X hX c k;have f:=c139 X hX d h4;rw[eW]at j i g f;have t:∀{z:Int},okW z->(KR z).le 1000000:=λh=>Nat.le_trans (jP h) (show 1024<=1000000 by omega);rw[eR,eR,e116];simp only[j,i,g,f,qOb,qLh,bV,mZ,c141 X hX hB _ _ (t l) (t h4),c141 X hX hB _ _ (t k) (t e),c141 X hX hB _ _ (t e) (t h4)])
theorem c62(hB:Words X)(a b c d:Int)(h:okR a b)(e:okR c d):run tab X 62 [.p (eR a b),.p (eR c d)] []=some ([Ab (a*d-c*b).sign,Ab 0],[]):=
 aY (hX _ rfl) (by have g:=alk X hX a b c d;have f:=c116 X hX hB a b c d h.1 h.2.1 e.1 e.2.1;rw[eR,eR]at g f;have j:(KQ (KR a) (KR d)).le 1000000:=Nat.le_trans (E8 (jP h.1) (jP e.2.1)) (show 2048<=1000000 by omega);have i:(afg (KQ (KR c) (KR b))).le 1000000:=Nat.le_trans (show(afg (KQ (KR c) (KR b))).le 2048 from E8 (jP e.1) (jP h.2.1)) (show 2048<=1000000 by omega);rw[eR,eR,e62,g];simp only[qOb,qLh,bV,bf,decide_eq_true h,decide_eq_true e,Bool.and_true,qBt,qCf];rw[f];simp only[qOb,qLh,List.tail_cons,bV,mZ,an9 X hX,c117 X hX _ _ j i,c119 X hX,toInt_int];simp[akH,XM,afh,Oy,vZ,Int.sub_eq_add_neg])
include hB
theorem c80(a b c d:Int)(h:okR a b)(e:okR c d):run tab X 80 [.p (eR a b),.p (eR c d)] []=some (TV (a*d+c*b) (b*d),[]):=
 aY (hX _ rfl) (by have j:=alk X hX a b c d;have i:=c116 X hX hB a b c d h.1 h.2.1 e.1 e.2.1;rw[eR,eR]at j i;have g:(KQ (KR a) (KR d)).le 2048:=E8 (jP h.1) (jP e.2.1);have f:(KQ (KR c) (KR b)).le 2048:=E8 (jP e.1) (jP h.2.1);have k:(KQ (KR b) (KR d)).le 2048:=E8 (jP h.2.1) (jP e.2.1);rw[eR,eR,e80,j];simp only[qOb,qLh,bV,bf,decide_eq_true h,decide_eq_true e,Bool.and_true,qBt,qCf];rw[i];simp only[qOb,qLh,List.tail_cons,bV,mZ,c117 X hX _ _ (Nat.le_trans g (show 2048<=1000000 by omega)) (Nat.le_trans f (show 2048<=1000000 by omega))];have hp:0<(KQ (KR b) (KR d)).2:=Nat.mul_pos (show 0<b.natAbs by have:=h.2.2;omega) (show 0<d.natAbs by have:=e.2.2;omega);rw[aoc X hX hB _ _ (Nat.le_trans (abg g f) (show 2049<=80000 by omega)) (Nat.le_trans k (show 2048<=80000 by omega)) hp,XM,Oy,Oy,Oy,vZ,vZ,vZ,vZ,TV];simp only[qOb];split<;>rfl)
theorem c81(a b c d:Int)(h:okR a b)(e:okR c d):run tab X 81 [.p (eR a b),.p (eR c d)] []=some (TV (a*c) (b*d),[]):=
 aY (hX _ rfl) (by have k:=alk X hX a b c d;have j:=c139 X hX a h.1;have i:=c139 X hX b h.2.1;have g:=c139 X hX c e.1;have f:=c139 X hX d e.2.1;rw[eW]at j i g f;rw[eR,eR]at k;have m:(KQ (KR a) (KR c)).le 2048:=E8 (jP h.1) (jP e.1);have l:(KQ (KR b) (KR d)).le 2048:=E8 (jP h.2.1) (jP e.2.1);have t:∀{z:Int},okW z->(KR z).le 1000000:=λh=>Nat.le_trans (jP h) (show 1024<=1000000 by omega);rw[eR,eR,e81,k];simp only[qOb,qLh,bV,bf,decide_eq_true h,decide_eq_true e,Bool.and_true,qBt,qCf];simp only[j,i,g,f,qOb,qLh,bV,mZ,c141 X hX hB _ _ (t h.1) (t e.1),c141 X hX hB _ _ (t h.2.1) (t e.2.1)];have hp:0<(KQ (KR b) (KR d)).2:=Nat.mul_pos (show 0<b.natAbs by have:=h.2.2;omega) (show 0<d.natAbs by have:=e.2.2;omega);rw[aoc X hX hB _ _ (Nat.le_trans m (show 2048<=80000 by omega)) (Nat.le_trans l (show 2048<=80000 by omega)) hp,Oy,Oy,vZ,vZ,vZ,vZ,TV];simp only[qOb];split<;>rfl)
end
end
section
abbrev B9:Nat:=1000000000
theorem b9:2<=B9:=by decide
theorem aey(k:IntKind)(x:List Nat):((bI k x).drop 0).take x.length=bI k x:=by rw[qLy,<- dI k x,List.take_length]
section
variable (X:Ext) (hX:Mine X)
include hX
theorem avH(b:List Nat)(k:b.length<=2147483648)(o:Nat):∀ l,o+l<=b.length->L tab (run tab X) 130 [.arr false kI (bI .i64 b)] [.lp [1,0,0]] (OQ o l (bI .i64 b))=some ([.slice 100000 1 o (trim ((b.drop o).take l)).length],[.arr false kI (bI .i64 b)]):=by
 have _:=hX;intro l;induction l with
 | zero =>intro h;refine dU ?_;rw[abz];rfl
 | succ l j =>
  intro h;have e:IntKind.i64.wrap (((l+1:Nat):Int)-1)=(l:Int):=by rw[wrap_eq (by omega) (by omega)];omega
  have c:l<(b.drop o).length:=by simp;omega
  have g:(b.drop o)[l]=b.getD (o+l) 0:=by grind
  refine dU ?_;rw[abz];refine fK (show((l+1:Nat):Int) > 0 by omega) ?_;rw[e];have f:(leI (0:Int) (l:Int)&&cu (l:Int) ((l+1:Nat):Int))=true:=by simp;omega
  have a:(leI (0:Int) (l:Int)&&(leI (l:Int) ((l+1:Nat):Int)&&leI ((l+1:Nat):Int) ((l+1:Nat):Int)))=true:=by simp;omega
  rw[f,a];simp only[qCt,qIt,iy,amL,Int.sub_zero,Nat.add_zero];rw[List.take_succ_eq_append_getElem c,g];by_cases i:b.getD (o+l) 0=0
  . grind[Nq]
  . rw[if_neg (by omega),Fb (λd hd=>by rw[List.getLast?_concat]at hd;exact Option.some.inj hd▸i),qLp,List.length_take,Nat.min_eq_left (by omega)];rfl
theorem c130(b:List Nat)(a:b.length<=2147483648)(o l:Nat)(h:o+l<=b.length):run tab X 130 [.slice 100000 1 o l] [.arr false kI (bI .i64 b)]=some ([.slice 100000 1 o (trim ((b.drop o).take l)).length],[.arr false kI (bI .i64 b)]):=
 aY (hX _ rfl) (by rw[ate];exact avH X hX b a o l h)
theorem SL(b:List Nat)(e:b.length<=2147483648)(c:ok B9 b)(l:Nat)(d:l=b.length):((run tab X) 130 [.slice 100000 1 0 l] [.arr false kI (bI .i64 b)]).bind (λa=>some ([AV.fresh false kI ((((a.2.headD (.box [])).xs).drop ((a.1.headD .undef).qM)).take ((a.1.headD .undef).sLen))],([]:List bZ)))=some ([.fresh false kI (bI .i64 (bG B9 (val B9 b)))],[]):=by subst d;rw[c130 X hX b e 0 _ (by omega),qLy,List.take_length,<- uF b9 c rfl];simp[qLy,oK,uO]
theorem avI(N M:List Nat)(e:ok B9 N)(f:ok B9 M)(i:N.length<=100000000)(m:N.length=M.length):∀ k,k<=N.length->N.drop k=M.drop k ->
    L tab (run tab X) 174 [] [.lp [1,1,0,1,0]] (HY (bI .i64 N) (bI .i64 M) ((k:Int)-1))=some ([Ab (MK (val B9 N) (val B9 M))],[]):=by
  have _:=hX;intro k;induction k with
  | zero =>intro _ hd;rw[qLy,qLy]at hd;subst hd;refine dU ?_;grind[U6,YR]
  | succ k d =>
   intro j hd;refine dU ?_;rw[show((k+1:Nat):Int)-1=(k:Int) by omega,U6];refine fK (by omega) ?_;have c:(leI (0:Int) (k:Int)&&cu (k:Int) (((bI .i64 N).length:Nat):Int))=true:=by simp;omega
   have b:(leI (0:Int) (k:Int)&&cu (k:Int) (((bI .i64 M).length:Nat):Int))=true:=by simp;omega
   have a:IntKind.i64.wrap ((k:Int)-1)=(k:Int)-1:=wrap_eq (by omega) (by omega);rw[c,b];simp only[qCt,qIt,iy,a];by_cases h:N.getD k 0<M.getD k 0
   . rw[aas (Uu e (by omega) (by omega) hd h)];grind
   . refine dR (by omega) ?_;by_cases g:M.getD k 0<N.getD k 0
     . rw[aat (Uu f (by omega) (by omega) hd.symm g)];grind
     . refine dR (by omega) ?_;exact d (by omega) (by rw[rQ (l:=N) (k:=k) (by omega),rQ (l:=M) (k:=k) (by omega),hd,show N.getD k 0=M.getD k 0 by omega])
theorem avJ(N M:List Nat)(a:ok B9 N)(b:ok B9 M)(c:Dig.tight N)(d:Dig.tight M)(e:N.length<=100000000)(g:M.length<=100000000):run tab X 174 [Ah (bI .i64 N),Ah (bI .i64 M)] []=some ([Ab (MK (val B9 N) (val B9 M))],[]):=
 aY (hX _ rfl) (by
  rw[atD];simp only[dI];by_cases h:N.length=M.length
  . rw[show(((N.length:Nat):Int) !=((M.length:Nat):Int))=false by simp[h],qCf,wrap_eq (by omega) (by omega)];exact avI X hX N M a b e h N.length (by omega) (by rw[List.drop_eq_nil_of_le (by omega),List.drop_eq_nil_of_le (by omega)])
  . rw[show(((N.length:Nat):Int) !=((M.length:Nat):Int))=true by simp;omega,qCt];by_cases f:N.length<M.length
    . rw[aas (GV b9 a b d f)];grind
    . rw[aat (GV b9 b a c (show M.length<N.length by omega))];grind)
theorem avK(N M:List Nat)(I:ok B9 N)(J:ok B9 M)(O:N.length<=100000000)(C:M.length<=N.length)(D:val B9 M<=val B9 N):∀(k i c:Nat) (a:List Nat),i+k=N.length->a.length=i->ok B9 a->c<=1 ->
    val B9 a+val B9 (M.take i)=val B9 (N.take i)+B9^i*c ->
    L tab (run tab X) 175 [] [.lp [1,1,1,0,1,0]] (qJ (bI .i64 N) (bI .i64 M) 0 i c i (bI .i64 a))=some ([.fresh false kI (bI .i64 (bG B9 (val B9 N-val B9 M)))],[]):=by
  intro k;induction k with
  | zero =>
   intro i c a E hp g H m;have p:i=N.length:=by omega
   subst p;refine dU ?_;rw[Sj];refine dR (by simp) ?_;rw[pK _ _ _ (qNr _),pK _ _ _ C]at m;have K:=rU g;rw[hp]at K;have q:c=0:=by grind
   subst q;have h:val B9 a=val B9 N-val B9 M:=by omega
   rw[<- h];exact SL X hX _ (by omega) g _ hp.symm
  | succ k x =>
   intro i c a E hp g H m;refine dU ?_;rw[Sj];refine fK (by simp;omega) ?_;have hd:N.getD i 0<B9:=jy I (by decide) i;have z:M.getD i 0<B9:=jy J (by decide) i;have G:N.getD i 0<1000000000:=hd;have y:M.getD i 0<1000000000:=z;have B:(leI (0:Int) (i:Int)&&cu (i:Int) (((bI .i64 N).length:Nat):Int))=true:=by simp;omega
   have t:IntKind.i64.wrap ((i:Int)+1)=((i+1:Nat):Int):=by rw[wrap_eq (by omega) (by omega)];omega
   have A:((bI .i64 a).drop 0).take i=bI .i64 a:=by rw[<- hp];exact aey .i64 a
   have f:∀ e l:Nat,e<B9->l<=1->e+M.getD i 0+c=N.getD i 0+B9*l ->
       (bif (F5 (i+1) 2147483648)then L tab (run tab X) 175 [] [.lp [1,1,1,0,1,0]] (qJ (bI .i64 N) (bI .i64 M) 0 (i+1) (l:Nat) (i+1:Nat) ((((bI .i64 a).drop 0).take i)++([Ap ((e:Nat):Int)]:List PV)))else none)=some ([.fresh false kI (bI .i64 (bG B9 (val B9 N-val B9 M)))],[]):=by
     intro e l F r j;refine fK (show i+1<=2147483648 by omega) ?_;rw[A,show([Ap ((e:Nat):Int)]:List PV)=bI .i64 [e] from rfl,AB];refine x (i+1) l _ (by omega) (by simp[hp]) (lG.2 ⟨g,λd hd=>by rw[List.mem_singleton.1 hd];exact F⟩) r ?_;rw[nR,hp,uj,uj];exact aij m j
   simp only[t];rw[B,qCt];simp only[qIt,iy];have s:IntKind.i64.wrap ((N.getD i 0:Int)-(c:Int))=(N.getD i 0:Int)-c:=wrap_eq (by omega) (by omega);have w:IntKind.i64.wrap ((N.getD i 0:Int)-(c:Int)-(M.getD i 0:Int))=(N.getD i 0:Int)-c-M.getD i 0:=wrap_eq (by omega) (by omega);have v:IntKind.i64.wrap ((N.getD i 0:Int)-(c:Int)-(M.getD i 0:Int)+1000000000)=(N.getD i 0:Int)-c-M.getD i 0+1000000000:=wrap_eq (by omega) (by omega);have u:IntKind.i64.wrap ((N.getD i 0:Int)-(c:Int)+1000000000)=(N.getD i 0:Int)-c+1000000000:=wrap_eq (by omega) (by omega);have P:B9=1000000000:=rfl;by_cases o:(i:Int)<((bI .i64 M).length:Nat)
   . refine fK o ?_;have n:(leI (0:Int) (i:Int)&&cu (i:Int) (((bI .i64 M).length:Nat):Int))=true:=by simp at o ⊢;omega
     rw[n,qCt,s,w,v];by_cases b:(N.getD i 0:Int)-c-M.getD i 0<0
     . refine fK b ?_;have:=f (N.getD i 0+1000000000-c-M.getD i 0) 1 (by omega) (by omega) (by omega);rw[show((N.getD i 0+1000000000-c-M.getD i 0:Nat):Int)=(N.getD i 0:Int)-c-M.getD i 0+1000000000 by omega]at this;exact this
     . refine dR b ?_;have:=f (N.getD i 0-c-M.getD i 0) 0 (by omega) (by omega) (by omega);rw[show((N.getD i 0-c-M.getD i 0:Nat):Int)=(N.getD i 0:Int)-c-M.getD i 0 by omega]at this;exact this
   . refine dR o ?_;have Q:M.getD i 0=0:=by simp_all
     rw[s,u];by_cases b:(N.getD i 0:Int)-c<0
     . refine fK b ?_;have:=f (N.getD i 0+1000000000-c) 1 (by omega) (by omega) (by omega);rw[show((N.getD i 0+1000000000-c:Nat):Int)=(N.getD i 0:Int)-c+1000000000 by omega]at this;exact this
     . refine dR b ?_;have:=f (N.getD i 0-c) 0 (by omega) (by omega) (by omega);rw[show((N.getD i 0-c:Nat):Int)=(N.getD i 0:Int)-c by omega]at this;exact this
theorem c175(N M:List Nat)(d:ok B9 N)(e:ok B9 M)(b:N.length<=100000000)(c:M.length<=N.length)(a:val B9 M<=val B9 N):run tab X 175 [Ah (bI .i64 N),Ah (bI .i64 M)] []=some ([.fresh false kI (bI .i64 (bG B9 (val B9 N-val B9 M)))],[]):=
 aY (hX _ rfl) (by rw[atE];exact avK X hX N M d e b c a N.length 0 0 [] (by omega) rfl (yX _) (by omega) rfl)
end
end
section
variable {l:List Nat}
theorem acC{b:Nat}(i:2<=b)(f:ok b l)(k:l≠[]->b^(l.length-1)<=val b l):Dig.tight l:=by
 intro d hd g;subst g;have e:l≠[]:=by intro h;rw[h]at hd;simp at hd
 obtain⟨a,rfl⟩:=List.getLast?_eq_some_iff.1 hd;have j:val b a<b^a.length:=rU (λx c=>f x (List.mem_append_left _ c));grind[nR]
theorem GX{i:Nat}(h:l.length<=i):l.getD i 0=0:=by grind
theorem acD(s k:Nat):((s:Int)).tdiv (k:Int)=((s / k:Nat):Int):=by rw[Int.tdiv_eq_ediv_of_nonneg (by omega)];norm_cast
theorem acE(s k:Nat):((s:Int)).tmod (k:Int)=((s%k:Nat):Int):=by rw[Int.tmod_eq_emod_of_nonneg (by omega)];norm_cast
section
variable (X:Ext) (hX:Mine X)
include hX
theorem avL(N M:List Nat)(H:ok B9 N)(I:ok B9 M)(S:Dig.tight N)(T:Dig.tight M)(hn:N.length<=100000000)(hm:M.length<=100000000):∀(k i c:Nat) (a:List Nat),i+k=max N.length M.length+1->a.length=i->ok B9 a->c<=1 ->
    (k=0->c=0/\B9^(max N.length M.length)<=val B9 N+val B9 M) ->
    val B9 a+B9^i*c=val B9 (N.take i)+val B9 (M.take i) ->
    L tab (run tab X) 128 [] [.lp [1,1,1,0,1,0]] (iO (bI .i64 N) (bI .i64 M) 0 i c i (bI .i64 a))=some ([.fresh false kI (bI .i64 (bG B9 (val B9 N+val B9 M)))],[]):=by
  have _:=hX;have hB:B9=1000000000:=rfl
  have G:∀(i:Nat) (a:List Nat),max N.length M.length<=i->a.length=i->ok B9 a->(i=max N.length M.length+1->B9^(max N.length M.length)<=val B9 N+val B9 M)->i<=max N.length M.length+1->val B9 a=val B9 (N.take i)+val B9 (M.take i) ->
      some ([AV.fresh false kI (((bI .i64 a).drop 0).take i)],([]:List bZ))=some ([.fresh false kI (bI .i64 (bG B9 (val B9 N+val B9 M)))],[]):=by
    intro i a K h2 J h4 h5 F;rw[pK _ N _ (by omega),pK _ M _ (by omega)]at F;have W:Dig.tight a:=acC b9 J (by
     intro y;have hl:0<a.length:=List.length_pos_iff.2 y;rw[F];rcases Nat.lt_or_ge (max N.length M.length) i with h | h
     . grind
     . rcases Nat.lt_or_ge N.length i with E | E
       . have C:M≠[]:=by intro D;rw[D]at K h;simp at K h;omega
         have:=Wj b9 I T C;grind
       . have B:N≠[]:=by intro D;rw[D]at E;simp at E;omega
         have:=Wj b9 H S B;grind)
    rw[<- h2,aey,Zq b9 J W F]
  intro k;induction k with
  | zero =>intro i c a Z hp p hc h0 u;obtain⟨c0,hge⟩:=h0 rfl;subst c0;refine dU ?_;rw[RX];refine dR (by simp;omega) (dR (by simp;omega) (dR (by simp) ?_));grind
  | succ k U =>
   intro i c a Z hp p hc _ u;have hd:N.getD i 0<1000000000:=jy H (by decide) i;have hx:M.getD i 0<1000000000:=jy I (by decide) i;have O:IntKind.i64.wrap ((i:Int)+1)=((i+1:Nat):Int):=by rw[wrap_eq (by omega) (by omega)];omega
   have V:((bI .i64 a).drop 0).take i=bI .i64 a:=by rw[<- hp];exact aey .i64 a
   have j:i<max N.length M.length\/c=1->∀ s:Nat,s=c+N.getD i 0+M.getD i 0 ->
       (bif (Go.Skm.F5 (i+1) 2147483648)then L tab (run tab X) 128 [] [.lp [1,1,1,0,1,0]] (iO (bI .i64 N) (bI .i64 M) 0 (i+1) (IntKind.i64.wrap ((s:Int).tdiv 1000000000)) (i+1:Nat) ((((bI .i64 a).drop 0).take i)++([Ap ((s:Int).tmod 1000000000)]:List PV)))else none)=some ([.fresh false kI (bI .i64 (bG B9 (val B9 N+val B9 M)))],[]):=by
     intro hcase s hs;refine fK (show i+1<=2147483648 by omega) ?_;rw[V,show(1000000000:Int)=((B9:Nat):Int) from rfl,acD,acE,show([Ap ((s%B9:Nat):Int)]:List PV)=bI .i64 [s%B9] from rfl,AB];have hstep:=abn (b:=B9) (d:=N.getD i 0) (x:=M.getD i 0) u;rw[show N.getD i 0+M.getD i 0+c=s by omega]at hstep;have n:s / B9<=1:=by show s / 1000000000<=1;omega
     have o:i=max N.length M.length->s / B9=0:=by intro w;have z:N.getD i 0=0:=GX (by omega);have v:M.getD i 0=0:=GX (by omega);grind
     have r:s%B9<B9:=qNm _ (by decide);revert hstep n o r;generalize s / B9=q;generalize s%B9=e;intro hstep n o r;rw[wrap_eq (by omega) (by omega)];refine U (i+1) q _ (by omega) (by simp[hp]) (lG.2 ⟨p,λd hd=>by rw[List.mem_singleton.1 hd];exact r⟩) n ?_ ?_
     . intro hk;have w:i=max N.length M.length:=by omega
       have t:c=1:=by omega
       refine⟨o w,?_⟩;rw[pK _ N _ (by omega),pK _ M _ (by omega),t,Nat.mul_one]at u;grind
     . grind[nR,uj]
   refine dU ?_;rw[RX];simp only[O,qIt,iy];have R:IntKind.i64.wrap ((c:Int)+(N.getD i 0:Int))=((c+N.getD i 0:Nat):Int):=by rw[wrap_eq (by omega) (by omega)];omega
   have Q:IntKind.i64.wrap (((c+N.getD i 0:Nat):Int)+(M.getD i 0:Int))=((c+N.getD i 0+M.getD i 0:Nat):Int):=by rw[wrap_eq (by omega) (by omega)];omega
   have P:IntKind.i64.wrap ((c:Int)+(M.getD i 0:Int))=((c+M.getD i 0:Nat):Int):=by rw[wrap_eq (by omega) (by omega)];omega
   rw[R,Q,P];by_cases f:(i:Int)<((bI .i64 N).length:Nat)
   . have aAB:i<N.length:=by simpa using f
     have Y:(leI (0:Int) (i:Int)&&cu (i:Int) (((bI .i64 N).length:Nat):Int))=true:=by simp;omega
     refine fK f (fK f ?_);rw[Y,qCt];by_cases g:(i:Int)<((bI .i64 M).length:Nat)
     . have m:(leI (0:Int) (i:Int)&&cu (i:Int) (((bI .i64 M).length:Nat):Int))=true:=by simp at g ⊢;omega
       refine fK g ?_;rw[m,qCt];exact j (Or.inl (by omega)) _ rfl
     . refine dR g ?_;have v:M.getD i 0=0:=GX (by simp at g;omega);exact j (Or.inl (by omega)) (c+N.getD i 0) (by omega)
   . have z:N.getD i 0=0:=GX (by simp at f;omega);refine dR f ?_;by_cases g:(i:Int)<((bI .i64 M).length:Nat)
     . have avM:i<M.length:=by simpa using g
       have m:(leI (0:Int) (i:Int)&&cu (i:Int) (((bI .i64 M).length:Nat):Int))=true:=by simp at g ⊢;omega
       refine fK g (dR f (fK g ?_));rw[m,qCt];exact j (Or.inl (by omega)) (c+M.getD i 0) (by omega)
     . have v:M.getD i 0=0:=GX (by simp at g;omega);refine dR g ?_;by_cases t:c=1
       . refine fK (show(c:Int) > 0 by omega) (dR f (dR g ?_));exact j (Or.inr t) c (by omega)
       . refine dR (show ¬(c:Int) > 0 by omega) ?_;have A:c=0:=by omega
         rw[A,Nat.mul_zero,Nat.add_zero]at u;simp at f g;exact G i a (by omega) hp p (λh=>by omega) (by omega) u
theorem avN(x y:Nat)(b:(bG B9 x).length<=100000000)(a:(bG B9 y).length<=100000000):run tab X 128 [Ah (bI .i64 (bG B9 x)),Ah (bI .i64 (bG B9 y))] []=some ([.fresh false kI (bI .i64 (bG B9 (x+y)))],[]):=
 aY (hX _ rfl) (by rw[e128];have:=avL X hX (bG B9 x) (bG B9 y) (BZ b9 x) (BZ b9 y) (yY b9 x) (yY b9 y) b a (max (bG B9 x).length (bG B9 y).length+1) 0 0 [] (by omega) rfl (yX _) (by omega) (by omega) rfl;rw[sO b9,sO b9]at this;exact this)
end
end
section
section
variable (X:Ext) (hX:Mine X)
include hX
theorem apW(N M:List Nat)(F:ok B9 N)(G:ok B9 M)(i n:Nat)(U:n=N.length)(hi:i<n)(C:n+M.length<=100000000)
    (r:List AV × List bZ)(K:∀ b:List Nat,b.length=n+M.length->ok B9 b->val B9 b=val B9 (N.take (i+1))*val B9 M ->
      L tab (run tab X) 160 [] [.lp [1,1,0,1,0]] (y7 (bI .i64 N) (bI .i64 M) 0 (n+M.length) (i+1:Nat) (bI .i64 b))=some r):∀(q k c:Nat) (a:List Nat),k+q=M.length+1->a.length=n+M.length->ok B9 a->c<B9 ->
    val B9 a+B9^(i+k)*c=val B9 (N.take i)*val B9 M+B9^i*(N.getD i 0*val B9 (M.take k)) ->
    L tab (run tab X) 160 [] [.lp [1,1,0,1,0],.lp [1,0,0,1,1,0]] (jv (bI .i64 N) (bI .i64 M) 0 (n+M.length) i c k (bI .i64 a))=some r:=by
  have _:=hX;have B:IntKind.i64.wrap ((i:Int)+1)=((i+1:Nat):Int):=by rw[wrap_eq (by omega) (by omega)];omega
  have total:val B9 (N.take i)*val B9 M+B9^i*(N.getD i 0*val B9 M)=val B9 (N.take (i+1))*val B9 M:=by rw[uj,Nat.add_mul,Nat.mul_assoc]
  have bound:val B9 (N.take (i+1))*val B9 M<B9^(i+M.length+1):=by have u:=rU (Lp F (i+1));rw[List.length_take,Nat.min_eq_left (by omega)]at u;have A:=rU G;rw[show i+M.length+1=(i+1)+M.length by omega,Nat.pow_add];exact Nat.mul_lt_mul'' u A
  have o:∀(k:Nat) (a:List Nat),M.length<=k->a.length=n+M.length->ok B9 a->val B9 a+B9^(i+k)*0=val B9 (N.take i)*val B9 M+B9^i*(N.getD i 0*val B9 (M.take k)) ->
      L tab (run tab X) 160 [] [.lp [1,1,0,1,0]] (y7 (bI .i64 N) (bI .i64 M) 0 (n+M.length) (i+1:Nat) (bI .i64 a))=some r:=by
    intro k a u A Z h4;rw[pK _ M k u,total,Nat.mul_zero,Nat.add_zero]at h4;exact K a A Z h4
  intro q;induction q with
  | zero =>
   intro k c a T t f E l;have y:k=M.length+1:=by omega
   subst y;have c0:c=0:=by
    rcases Nat.eq_zero_or_pos c with h | h
    . exact h
    . exfalso;rw[pK _ M _ (by omega),total]at l;have:=Nat.mul_le_mul_left (B9^(i+(M.length+1))) h;rw[Nat.add_assoc]at bound;omega
   subst c0;refine dU ?_;rw[EI];refine dR (by simp;omega) (dR (by simp) ?_);rw[B];exact o _ a (by omega) t f l
  | succ q Q =>
   intro k c a T t f E l;have W:c<1000000000:=E;have ha:N.getD i 0<1000000000:=jy F (by decide) i;have hb:M.getD k 0<1000000000:=jy G (by decide) k;have ho:a.getD (i+k) 0<1000000000:=jy f (by decide) _;have Y:N.getD i 0*M.getD k 0<=999999999*999999999:=Nat.mul_le_mul (by omega) (by omega);have I:IntKind.i64.wrap ((i:Int)+(k:Int))=((i+k:Nat):Int):=by rw[wrap_eq (by omega) (by omega)];omega
   have H:IntKind.i64.wrap ((k:Int)+1)=((k+1:Nat):Int):=by rw[wrap_eq (by omega) (by omega)];omega
   have D:(leI (0:Int) ((i+k:Nat):Int)&&cu ((i+k:Nat):Int) ((n+M.length:Nat):Int))=true:=by simp;omega
   have m:∀ s:Nat,s=a.getD (i+k) 0+c+N.getD i 0*M.getD k 0 ->
       L tab (run tab X) 160 [] [.lp [1,1,0,1,0],.lp [1,0,0,1,1,0]] (jv (bI .i64 N) (bI .i64 M) 0 (n+M.length) i (IntKind.i64.wrap ((s:Int).tdiv 1000000000)) (k+1:Nat) ((bI .i64 a).set (i+k) (Ap ((s:Int).tmod 1000000000))))=some r:=by
     intro s C;rw[show(1000000000:Int)=((B9:Nat):Int) from rfl,acD,acE,lZ];have p:s / B9<B9:=by show s / 1000000000<1000000000;omega
     have j:s%B9<B9:=qNm _ (by decide);have d:=Nat.mod_add_div s B9;revert p j d;generalize s / B9=c';generalize s%B9=e;intro p j d;have R:c'<1000000000:=p;rw[wrap_eq (by omega) (by omega)];refine Q (k+1) c' _ (by omega) (by simpa using t) (aez f j _) p ?_;have vs:=Ux B9 e a (i+k) (by omega);rw[uj,<- Nat.add_assoc i k 1,Nat.pow_succ,Nat.mul_add (N.getD i 0),Nat.mul_add (B9^i),<- Nat.add_assoc,<- l];have e1:B9^i*(N.getD i 0*(B9^k*M.getD k 0))=B9^(i+k)*(N.getD i 0*M.getD k 0):=by rw[Nat.pow_add,Nat.mul_left_comm (N.getD i 0),Nat.mul_assoc]
     have e2:B9^(i+k)*(e+B9*c')=B9^(i+k)*(a.getD (i+k) 0+c+N.getD i 0*M.getD k 0):=by rw[d,C]
     rw[Nat.mul_add,Nat.mul_add,Nat.mul_add]at e2;rw[e1,Nat.mul_assoc];omega
   refine dU ?_;rw[EI];simp only[I,H,qIt,iy,qNz];have P:IntKind.i64.wrap ((a.getD (i+k) 0:Int)+(c:Int))=((a.getD (i+k) 0+c:Nat):Int):=by rw[wrap_eq (by omega) (by omega)];omega
   have O:IntKind.i64.wrap ((N.getD i 0:Int)*(M.getD k 0:Int))=((N.getD i 0*M.getD k 0:Nat):Int):=by rw[<- Int.natCast_mul,wrap_eq (by omega) (by omega)]
   have J:IntKind.i64.wrap (((a.getD (i+k) 0+c:Nat):Int)+((N.getD i 0*M.getD k 0:Nat):Int))=((a.getD (i+k) 0+c+N.getD i 0*M.getD k 0:Nat):Int):=by rw[wrap_eq (by omega) (by omega)];omega
   rw[P,O,J];by_cases g:(k:Int)<((bI .i64 M).length:Nat)
   . have avM:k<M.length:=by simpa using g
     have w:(leI (0:Int) (i:Int)&&cu (i:Int) (((bI .i64 N).length:Nat):Int))=true:=by simp;omega
     have v:(leI (0:Int) (k:Int)&&cu (k:Int) (((bI .i64 M).length:Nat):Int))=true:=by simp at g ⊢;omega
     refine fK g ?_;rw[D,qCt];refine fK g ?_;rw[w,v,qCt,qCt,qCt];exact m _ rfl
   . have x:M.getD k 0=0:=GX (by simp at g;omega);have S:k=M.length:=by simp at g;omega
     refine dR g ?_;by_cases V:0<c
     . refine fK (show(c:Int) > 0 by omega) ?_;rw[D,qCt];refine dR g ?_;rw[qCt];exact m _ (by rw[x,Nat.mul_zero,Nat.add_zero])
     . have z:c=0:=by omega
       refine dR (show ¬(c:Int) > 0 by omega) ?_;rw[B];rw[z]at l;exact o k a (by omega) t f l
theorem avO(N M:List Nat)(j:ok B9 N)(k:ok B9 M)(g:N.length+M.length<=100000000):∀(q i:Nat) (a:List Nat),i+q=N.length->a.length=N.length+M.length->ok B9 a ->
    val B9 a=val B9 (N.take i)*val B9 M ->
    L tab (run tab X) 160 [] [.lp [1,1,0,1,0]] (y7 (bI .i64 N) (bI .i64 M) 0 (N.length+M.length) i (bI .i64 a))=some ([.fresh false kI (bI .i64 (bG B9 (val B9 N*val B9 M)))],[]):=by
  intro q;induction q with
  | zero =>intro i a h e b d;refine dU ?_;rw[U4];refine dR (by simp;omega) ?_;rw[pK _ N _ (by omega)]at d;rw[<- d];exact SL X hX _ (by omega) b _ e.symm
  | succ q f =>intro i a h e b d;refine dU ?_;rw[U4];refine fK (by simp;omega) ?_;refine apW X hX N M j k i N.length rfl (by omega) g _ ?_ (M.length+1) 0 0 a (by omega) e b (by decide) (by rw[d];simp[val]);intro c n m l;exact f (i+1) c (by omega) n m l
theorem c160(N M:List Nat)(b:ok B9 N)(c:ok B9 M)(a:N.length+M.length<=100000000):run tab X 160 [Ah (bI .i64 N),Ah (bI .i64 M)] []=some ([.fresh false kI (bI .i64 (bG B9 (val B9 N*val B9 M)))],[]):=
 aY (hX _ rfl) (by
  have w:IntKind.i64.wrap (((N.length:Nat):Int)+((M.length:Nat):Int))=((N.length+M.length:Nat):Int):=by rw[wrap_eq (by omega) (by omega)];omega
  have d:(leI (0:Int) (((N.length+M.length:Nat):Int))&&(leI (((N.length+M.length:Nat):Int)) (((N.length+M.length:Nat):Int))&&leI (((N.length+M.length:Nat):Int)) (2147483648:Int)))=true:=by simp;omega
  rw[e160];simp only[dI];rw[w,d,qCt,qIt,lI];exact avO X hX N M b c a N.length 0 _ (by omega) (by simp) (PK (by decide) _) (by rw[F7];simp[val]))
end
end
end Go.Skm.Fen
