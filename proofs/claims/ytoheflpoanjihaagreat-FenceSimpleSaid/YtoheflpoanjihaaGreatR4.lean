import Derived.Test.YtoheflpoanjihaaGreatW13
namespace Go.Skm.Fen
open Go Go.Skm Go.Skm.Dig
theorem kW (x:Nb):PV.agg [.bool (((eN x).cell 0).toBool),.list false kU (((eN x).cell 1).toList)]=eN x:=rfl
theorem jg (z:Int):PV.agg [.bool (((eW z).cell 0).toBool),.str (((eW z).cell 1).toStr)]=eW z:=rfl
def okW (z:Int):Prop:=bl z.natAbs≤65536
instance (z:Int):Decidable (okW z):=inferInstanceAs (Decidable (_≤_))
def Hf (z:Int):Nb:=(decide (z<0),z.natAbs)
theorem qh (z:Int):(Hf z).z=z:=by
 unfold Hf Nb.z;by_cases h:z<0
 · simp[h];omega
 · simp[h];omega
theorem Nu (n:Nat):rQ n=⟨#[]⟩↔n=0:=by
 constructor
 · intro h;have h1:=D9 n;rw[h]at h1;exact(sD (b:=256) (by decide)).1 (List.length_eq_zero_iff.1 h1.symm)
 · intro h;rw[h,FY]
theorem adf {n:Nat} (h:0<n):((rQ n).data.getD 0 0).toNat≠0:=by
 have hne:bK 256 n≠[]:=fun h2=>by have:=(sD (b:=256) (by decide)).1 h2;omega
 have hl:0<(bK 256 n).length:=List.length_pos_iff.2 hne;rw[YT n 0 hl,Nat.sub_zero,← LG (by decide)];exact Nat.ne_of_gt (last_pos (wu (by decide) n) hne)
theorem abt {z:Int} (h:okW z):(bK 256 z.natAbs).length≤8192:=by rw[SB];unfold okW at h;omega
theorem iZ {z:Int} (h:okW z):(Hf z).le 1024:=by
 have key:∀ k n:Nat,bl n≤64*k→n<aZ ^ k:=fun k n h=>by have h2:2 ^ bl n≤2 ^ (64*k):=Nat.pow_le_pow_right (by decide) h;rw[Nat.pow_mul]at h2;exact Nat.lt_of_lt_of_le (IX n) h2
 exact jP (key 1024 _ h)
theorem afa:okW 0:=by show bl 0≤65536;rw[abu];omega
section
variable (X:Ext) (hX:Mine X) (hB:Bits X)
include hX
theorem agq (z:Int):run tab X 110 [.p (eW z)] []=some ([.p (.bool (decide (okW z)))],[]) :=
 bF (hX _ rfl) (by
  rw[eW,amj,ae0];by_cases h:z.natAbs=0
  · have hz:z=0:=by omega
    subst hz;refine fF ((Nu _).2 h) ?_;rw[decide_eq_true afa];rfl
  · refine dO (fun h2=>h ((Nu _).1 h2)) ?_;have hl:0<(bK 256 z.natAbs).length:=List.length_pos_iff.2 fun h2=>h ((sD (b:=256) (by decide)).1 h2);rw[show dG 0 ((rQ z.natAbs).size:Int)=true by rw[D9];simp;exact hl,cond_true];have hf:=adf (Nat.pos_of_ne_zero h);rw[show ((((rQ z.natAbs).data.getD 0 0).toNat:Int) != 0)=true by simp;intro h2;apply hf;simpa using h2,cond_true,D9,SB];have e:leI (((bl z.natAbs+7) / 8:Nat):Int) 8192=decide (okW z):=decide_eq_decide.2 (by unfold okW;omega);rw[e])
theorem adg (a b:Int):run tab X 108 [.p (eW a),.p (eW b)] []=some ([.p (.bool (decide (okW a)&&decide (okW b)))],[]) :=
 bF (hX _ rfl) (by
  have ha:=agq X hX a;have hb:=agq X hX b;rw[eW]at ha hb;rw[eW,eW,e108,ha];simp only[Option.bind_some,List.headD_cons,dA,bD];by_cases h:okW a
  · refine fF h ?_;rw[hb];simp only[Option.bind_some,List.headD_cons,dA,bD,decide_eq_true h,Bool.true_and]
  · refine dO h ?_;rw[decide_eq_false h];rfl)
theorem c139 (z:Int) (h:okW z):run tab X 139 [.p (eW z)] []=some ([.p (eN (Hf z))],[]) :=
 bF (hX _ rfl) (by rw[eW,amu,alv X hX _ (Nat.le_trans (abt h) (by omega))];simp only[Option.bind_some,List.headD_cons,dM,List.drop_zero,List.take_length];rfl)
theorem c109 (z:Int) (h:okW z):run tab X 109 [.p (eW z)] []=some ([.p (.int .i64 z.sign)],[]) :=
 bF (hX _ rfl) (by have h1:=agq X hX z;have h2:=c139 X hX z h;rw[eW]at h1 h2;rw[eW,e109,h1];simp only[Option.bind_some,List.headD_cons,dA,bD,decide_eq_true h];rw[h2];simp only[Bool.not_true,cond_false,Option.bind_some,List.headD_cons,dA,kW,c119 X hX,toInt_int];rw[ae8,qh])
theorem anI (a b:Int) (ha:okW a) (hb:okW b):run tab X 135 [.p (eW a),.p (eW b)] []=some ([.p (.int .i64 (a-b).sign)],[]) :=
 bF (hX _ rfl) (by have h0:=adg X hX a b;have h1:=c139 X hX a ha;have h2:=c139 X hX b hb;rw[eW]at h1 h2;rw[eW,eW]at h0;rw[eW,eW,ams,h0];simp only[Option.bind_some,List.headD_cons,dA,bD,decide_eq_true ha,decide_eq_true hb,Bool.and_true,Bool.not_true,cond_false];rw[h1];simp only[Option.bind_some,List.headD_cons,dA];rw[h2];simp only[Option.bind_some,List.headD_cons,dA,kW,ahV X hX];rw[c117 X hX _ _ (Nat.le_trans (iZ ha) (show 1024≤1000000 by omega)) (show (aat (Hf b)).le 1000000 from Nat.le_trans (iZ hb) (show 1024≤1000000 by omega))];simp only[Option.bind_some,List.headD_cons,dA,kW,c119 X hX,toInt_int];rw[ae8,SA,aau,qh,qh,Int.sub_eq_add_neg])
include hB
def FV (z:Int):List AV:=if okW z then [.p (eW z),.p (.int .i64 0)] else [.p (eW 0),.p (.int .i64 7)]
theorem UQ (x:Nb) (hx:x.le 100000):run tab X 114 [.p (eN x)] []=some (FV x.z,[]):=by
 rw[aqd X hX hB x hx,FV];have e:bl x.z.natAbs=bl x.2:=by rw[Nb.SC]
 by_cases h:okW x.z
 · rw[if_pos h,if_neg (by unfold okW at h;omega)]
 · rw[if_neg h,if_pos (by unfold okW at h;omega)]
end
end Go.Skm.Fen
namespace Go.Skm.Fen
open Go Go.Skm Go.Skm.Dig
theorem wI {z:Int} (h:z.natAbs<aZ):okW z:=by unfold okW;have:=YR h;omega
theorem ahX {g:Nat} (h:g<aZ):(bK aZ g).length≤1:=jP (by simpa using h)
section
variable (X:Ext) (hX:Mine X) (hB:Bits X)
include hX hB
theorem YW (n:Int) (h1:-9223372036854775808≤n) (h2:n≤9223372036854775807):run tab X 61 [.p (.int .i64 n)] []=some ([.p (eW n)],[]) :=
 bF (hX _ rfl) (by
  have aqe:aZ=18446744073709551616:=rfl;have hg:n.natAbs<aZ:=by rw[aqe];omega
  have fin : ∀ b : Bool,b = decide (n < 0) → (((run tab X) 113 [.slice 100000 1 0 1] [.arr false kU [.int .u64 ((n.natAbs : Nat) : Int)]]).bind fun r1 =>
      ((run tab X) 114 [.p (.agg [.bool b,.list false kU ((((r1.2.headD (.box [])).xs).drop ((r1.1.headD .undef).qV)).take ((r1.1.headD .undef).sLen))])] []).bind fun r2 =>
      some ([AV.p (.agg [.bool (((r2.1.headD .undef).pv.cell 0).toBool),.str (((r2.1.headD .undef).pv.cell 1).toStr)])],([]:List cu)))=some ([.p (eW n)],[]):=by
    intro b hb;rw[Sv X hX hB _ hg];simp only[Option.bind_some,List.headD_cons,yM,kJ,kK];rw[trimmed [n.natAbs] (fun d hd=>by rw[List.mem_singleton.1 hd];exact hg),show ([n.natAbs].drop 0).take 1=[n.natAbs] from rfl,val_one];have:=UQ X hX hB (Hf n) (Nat.le_trans (ahX hg) (by omega));rw[eN]at this;rw[hb];erw [this];rw[qh,FV,if_pos (wI hg)];rfl
  rw[e61];by_cases h:n<0
  · refine fF h ?_;have w1:IntKind.u64.wrap n=n+18446744073709551616:=by show n%2 ^ 64=_;omega
    have w2:IntKind.u64.wrap (0-(n+18446744073709551616))=((n.natAbs:Nat):Int):=by show (0-(n+18446744073709551616))%2 ^ 64=_;omega
    rw[w1,w2];exact fin _ rfl
  · refine dO h ?_;have w1:IntKind.u64.wrap n=((n.natAbs:Nat):Int):=by show n%2 ^ 64=_;omega
    rw[w1];exact fin _ rfl)
theorem c60 (z:Int) (h:okW z):run tab X 60 [.p (eW z)] []=some ([.p (.int .i64 (bl z.natAbs:Nat))],[]) :=
 bF (hX _ rfl) (by have h1:=agq X hX z;rw[eW]at h1;rw[eW,e60,h1];simp only[Option.bind_some,List.headD_cons,dA,bD,decide_eq_true h,Bool.not_true,cond_false];rw[alv X hX _ (Nat.le_trans (abt h) (by omega))];simp only[Option.bind_some,List.headD_cons,dM,List.drop_zero,List.take_length];have h4:(bK aZ z.natAbs).length≤1024:=iZ h;rw[ahW X hX hB (bK aZ z.natAbs) (D8 _) (G8 _) (by omega),dval];rfl)
theorem c79 (a b:Int) (ha:okW a) (hb:okW b):run tab X 79 [.p (eW a),.p (eW b)] []=some (FV (a+b),[]) :=
 bF (hX _ rfl) (by have h0:=adg X hX a b;have h1:=c139 X hX a ha;have h2:=c139 X hX b hb;rw[eW]at h1 h2;rw[eW,eW]at h0;rw[eW,eW,e79,h0];simp only[Option.bind_some,List.headD_cons,dA,bD,decide_eq_true ha,decide_eq_true hb,Bool.and_true,Bool.not_true,cond_false];rw[h1];simp only[Option.bind_some,List.headD_cons,dA];rw[h2];simp only[Option.bind_some,List.headD_cons,dA,kW];rw[c117 X hX _ _ (Nat.le_trans (iZ ha) (show 1024≤1000000 by omega)) (Nat.le_trans (iZ hb) (show 1024≤1000000 by omega))];simp only[Option.bind_some,List.headD_cons,dA,kW];rw[UQ X hX hB _ (Nat.le_trans (WQ (iZ ha) (iZ hb)) (show 1025≤100000 by omega)),SA,qh,qh,FV];split<;>rfl)
theorem c159 (a b:Int) (ha:okW a) (hb:okW b):run tab X 159 [.p (eW a),.p (eW b)] []=some (FV (a-b),[]) :=
 bF (hX _ rfl) (by have h0:=adg X hX a b;have h1:=c139 X hX a ha;have h2:=c139 X hX b hb;rw[eW]at h1 h2;rw[eW,eW]at h0;rw[eW,eW,amD,h0];simp only[Option.bind_some,List.headD_cons,dA,bD,decide_eq_true ha,decide_eq_true hb,Bool.and_true,Bool.not_true,cond_false];rw[h1];simp only[Option.bind_some,List.headD_cons,dA];rw[h2];simp only[Option.bind_some,List.headD_cons,dA,kW,ahV X hX];have hn:(aat (Hf b)).le 1024:=iZ hb;rw[c117 X hX _ _ (Nat.le_trans (iZ ha) (show 1024≤1000000 by omega)) (Nat.le_trans hn (show 1024≤1000000 by omega))];simp only[Option.bind_some,List.headD_cons,dA,kW];rw[UQ X hX hB _ (Nat.le_trans (WQ (iZ ha) hn) (show 1025≤100000 by omega)),SA,aau,qh,qh,← Int.sub_eq_add_neg,FV];split<;>rfl)
theorem c138 (a b:Int) (ha:okW a) (hb:okW b):run tab X 138 [.p (eW a),.p (eW b)] []=some (FV (a*b),[]) :=
 bF (hX _ rfl) (by have h0:=adg X hX a b;have h1:=c139 X hX a ha;have h2:=c139 X hX b hb;rw[eW]at h1 h2;rw[eW,eW]at h0;rw[eW,eW,e138,h0];simp only[Option.bind_some,List.headD_cons,dA,bD,decide_eq_true ha,decide_eq_true hb,Bool.and_true,Bool.not_true,cond_false];rw[h1];simp only[Option.bind_some,List.headD_cons,dA];rw[h2];simp only[Option.bind_some,List.headD_cons,dA,kW];rw[c141 X hX hB _ _ (Nat.le_trans (iZ ha) (show 1024≤1000000 by omega)) (Nat.le_trans (iZ hb) (show 1024≤1000000 by omega))];simp only[Option.bind_some,List.headD_cons,dA,kW];rw[UQ X hX hB _ (Nat.le_trans (BN (iZ ha) (iZ hb)) (show 2048≤100000 by omega)),He,qh,qh,FV];split<;>rfl)
end
end Go.Skm.Fen
namespace Go.Skm.Fen
open Go Go.Skm Go.Skm.Dig
def eR (n d:Int):PV:=.agg [.bool (decide (n<0)),.str (rQ n.natAbs),.bool (decide (d<0)),.str (rQ d.natAbs)]
theorem Vx:eR 0 0=.agg [.bool false,.str ⟨#[]⟩,.bool false,.str ⟨#[]⟩]:=by show PV.agg [.bool (decide ((0:Int)<0)),.str (rQ 0),.bool (decide ((0:Int)<0)),.str (rQ 0)]=_;rw[FY];rfl
def okR (n d:Int):Prop:=okW n∧okW d∧0<d
instance (n d:Int):Decidable (okR n d):=inferInstanceAs (Decidable (_∧_∧_))
def Qe (a b:Int):Int:=b.sign*(a / (Int.gcd a b:Int))
def OD (a b:Int):Int:=(b.natAbs:Int) / (Int.gcd a b:Int)
def OE (a b:Int):List AV:=if okW (Qe a b)∧okW (OD a b) then [.p (eR (Qe a b) (OD a b)),.p (.int .i64 0)] else [.p (eR 0 0),.p (.int .i64 7)]
theorem agr (x y:Nb) (hy:0<y.2):(Nb.z (!(x.1==y.1),x.2 / Nat.gcd x.2 y.2))=Qe x.z y.z:=by
 have hg:Int.gcd x.z y.z=Nat.gcd x.2 y.2:=by rw[Int.gcd,Nb.SC,Nb.SC]
 rw[Qe,hg];obtain⟨a,m⟩:=x;obtain⟨b,n⟩:=y;have hd:((Nat.gcd m n:Nat):Int) ∣ (m:Int):=Int.natCast_dvd_natCast.2 (Nat.gcd_dvd_left m n);have hy:0<n:=hy;have s1:(n:Int).sign=1:=Int.sign_eq_one_of_pos (by omega);unfold Nb.z;cases a<;>cases b<;>simp[s1,Int.neg_ediv_of_dvd hd]
theorem ags (x y:Nb):(Nb.z (!(y.1==y.1),y.2 / Nat.gcd x.2 y.2))=OD x.z y.z:=by
 have hg:Int.gcd x.z y.z=Nat.gcd x.2 y.2:=by rw[Int.gcd,Nb.SC,Nb.SC]
 rw[OD,hg,Nb.SC];unfold Nb.z;simp
section
variable (X:Ext) (hX:Mine X) (hB:Bits X)
include hX hB
theorem ahY (x y:Nb) (hx:x.le 80000) (hy:y.le 80000) (hp:0<y.2):run tab X 140 [.p (eN x),.p (eN y)] []=some (OE x.z y.z,[]) :=
 bF (hX _ rfl) (by
  have hx':(bK aZ x.2).length≤80000:=hx;have hy':(bK aZ y.2).length≤80000:=hy;have hgp:0<Nat.gcd x.2 y.2:=Nat.gcd_pos_of_pos_right _ hp;have hgl:(bK aZ (Nat.gcd x.2 y.2)).length≤80000:=Nat.le_trans (wX (Nat.le_of_dvd hp (Nat.gcd_dvd_right _ _))) hy';have h1:=als X hX hB x (y.1,Nat.gcd x.2 y.2) (Nat.le_trans hx' (by omega)) (Nat.le_trans hgl (show 80000≤90000 by omega)) hgp (Nat.gcd_dvd_left _ _);have h2:=als X hX hB y (y.1,Nat.gcd x.2 y.2) (Nat.le_trans hy' (by omega)) (Nat.le_trans hgl (show 80000≤90000 by omega)) hgp (Nat.gcd_dvd_right _ _);have q1:(Nb.le (!(x.1==y.1),x.2 / Nat.gcd x.2 y.2) 100000):=Nat.le_trans (wX (Nat.div_le_self _ _)) (by omega);have q2:(Nb.le (!(y.1==y.1),y.2 / Nat.gcd x.2 y.2) 100000):=Nat.le_trans (wX (Nat.div_le_self _ _)) (by omega);rw[eN,eN]at h1 h2;rw[eN,eN,amv,c171 X hX hB _ _ (by omega) (by omega)];simp only[Option.bind_some,List.headD_cons,dA,G6];rw[h1];simp only[Option.bind_some,List.headD_cons,dA,kW];rw[h2];simp only[Option.bind_some,List.headD_cons,dA,kW];rw[UQ X hX hB _ q1,agr x y hp];simp only[Option.bind_some];rw[UQ X hX hB _ q2,ags];simp only[Option.bind_some];rw[OE];generalize Qe x.z y.z=n;generalize OD x.z y.z=d;by_cases hn:okW n
  · rw[FV,if_pos hn];by_cases hd:okW d
    · rw[FV,if_pos hd,if_pos ⟨hn,hd⟩];rfl
    · rw[FV,if_neg hd,if_neg (fun h=>hd h.2),Vx];rfl
  · rw[FV,if_neg hn,if_neg (fun h=>hn h.1),Vx];rfl)
theorem c143 (a b:Int) (ha:okW a) (hb:okW b) (h0:b≠0):run tab X 143 [.p (eW a),.p (eW b)] []=some (OE a b,[]) :=
 bF (hX _ rfl) (by have h1:=adg X hX a b;have h2:=c139 X hX a ha;have h3:=c139 X hX b hb;rw[eW]at h2 h3;rw[eW,eW]at h1;rw[eW,eW,e143,h1];simp only[Option.bind_some,List.headD_cons,dA,bD,decide_eq_true ha,decide_eq_true hb,Bool.and_true,Bool.not_true,cond_false];rw[ae0];refine dO (fun h=>h0 (by have:=(Nu _).1 h;omega)) ?_;rw[h2];simp only[Option.bind_some,List.headD_cons,dA];rw[h3];simp only[Option.bind_some,List.headD_cons,dA,kW];rw[ahY X hX hB _ _ (Nat.le_trans (iZ ha) (show 1024≤80000 by omega)) (Nat.le_trans (iZ hb) (show 1024≤80000 by omega)) (by show 0<b.natAbs;omega),qh,qh,OE];split<;>rfl)
theorem FX {n:Int} (h1:-9223372036854775808≤n) (h2:n≤9223372036854775807):okW n:=wI (by have _:=hX;have _:=hB;have:aZ=18446744073709551616:=rfl;rw[this];omega)
theorem anF (a b:Int) (ha:-9223372036854775808≤a∧a≤9223372036854775807) (hb:-9223372036854775808≤b∧b≤9223372036854775807) (h0:b≠0):run tab X 134 [.p (.int .i64 a),.p (.int .i64 b)] []=some (OE a b,[]) :=
 bF (hX _ rfl) (by rw[amr,YW X hX hB a ha.1 ha.2];simp only[Option.bind_some,List.headD_cons,dA];rw[YW X hX hB b hb.1 hb.2];simp only[Option.bind_some,List.headD_cons,dA,jg];rw[c143 X hX hB a b (FX X hX hB ha.1 ha.2) (FX X hX hB hb.1 hb.2) h0,OE];simp only[Option.bind_some];split<;>rfl)
omit hB
theorem c59 (n d:Int):run tab X 59 [.p (eR n d)] []=some ([.p (.bool (decide (okR n d)))],[]) :=
 bF (hX _ rfl) (by
  have h1:=adg X hX n d;rw[eW,eW]at h1;rw[eR,e59,h1];simp only[Option.bind_some,List.headD_cons,dA,bD];by_cases h:okW n∧okW d
  · rw[show (decide (okW n)&&decide (okW d))=true by simp[h],cond_true];have h2:=c109 X hX d h.2;rw[eW]at h2;rw[h2];simp only[Option.bind_some,List.headD_cons,dA,toInt_int];have e:kX d.sign 0=decide (okR n d):=decide_eq_decide.2 ⟨fun h3=>⟨h.1,h.2,Int.sign_pos_iff.1 h3⟩,fun h3=>Int.sign_pos_iff.2 h3.2.2⟩;rw[e]
  · rw[show (decide (okW n)&&decide (okW d))=false by simp;intro h1 h2;exact h ⟨h1,h2⟩,cond_false,decide_eq_false (show ¬ okR n d from fun h3=>h ⟨h3.1,h3.2.1⟩)])
theorem afJ (a b c d:Int):run tab X 115 [.p (eR a b),.p (eR c d)] []=some ([.p (.bool (decide (okR a b)&&decide (okR c d)))],[]) :=
 bF (hX _ rfl) (by
  have h1:=c59 X hX a b;have h2:=c59 X hX c d;rw[eR]at h1 h2;rw[eR,eR,e115,h1];simp only[Option.bind_some,List.headD_cons,dA,bD];by_cases h:okR a b
  · refine fF h ?_;rw[h2];simp only[Option.bind_some,List.headD_cons,dA,bD,decide_eq_true h,Bool.true_and]
  · refine dO h ?_;rw[decide_eq_false h];rfl)
theorem c116 (hB:Words X) (a b c d:Int) (h1:okW a) (h2:okW b) (h3:okW c) (h4:okW d):run tab X 116 [.p (eR a b),.p (eR c d)] []=some ([.p (eN (G9 (Hf a) (Hf d))),.p (eN (G9 (Hf c) (Hf b))),.p (eN (G9 (Hf b) (Hf d)))],[]) :=
 bF (hX _ rfl) (by have k1:=c139 X hX a h1;have k2:=c139 X hX b h2;have k3:=c139 X hX c h3;have k4:=c139 X hX d h4;rw[eW]at k1 k2 k3 k4;have t:∀ {z:Int},okW z→(Hf z).le 1000000:=fun h=>Nat.le_trans (iZ h) (show 1024≤1000000 by omega);rw[eR,eR,e116];simp only[k1,k2,k3,k4,Option.bind_some,List.headD_cons,dA,kW,c141 X hX hB _ _ (t h1) (t h4),c141 X hX hB _ _ (t h3) (t h2),c141 X hX hB _ _ (t h2) (t h4)])
theorem c62 (hB:Words X) (a b c d:Int) (h:okR a b) (h2:okR c d):run tab X 62 [.p (eR a b),.p (eR c d)] []=some ([.p (.int .i64 (a*d-c*b).sign),.p (.int .i64 0)],[]) :=
 bF (hX _ rfl) (by have k1:=afJ X hX a b c d;have k2:=c116 X hX hB a b c d h.1 h.2.1 h2.1 h2.2.1;rw[eR,eR]at k1 k2;have t1:(G9 (Hf a) (Hf d)).le 1000000:=Nat.le_trans (BN (iZ h.1) (iZ h2.2.1)) (show 2048≤1000000 by omega);have t2:(aat (G9 (Hf c) (Hf b))).le 1000000:=Nat.le_trans (show (aat (G9 (Hf c) (Hf b))).le 2048 from BN (iZ h2.1) (iZ h.2.1)) (show 2048≤1000000 by omega);rw[eR,eR,e62,k1];simp only[Option.bind_some,List.headD_cons,dA,bD,decide_eq_true h,decide_eq_true h2,Bool.and_true,Bool.not_true,cond_false];rw[k2];simp only[Option.bind_some,List.headD_cons,List.tail_cons,dA,kW,ahV X hX,c117 X hX _ _ t1 t2,c119 X hX,toInt_int];rw[ae8,SA,aau,He,He,qh,qh,qh,qh,← Int.sub_eq_add_neg])
include hB
theorem c80 (a b c d:Int) (h:okR a b) (h2:okR c d):run tab X 80 [.p (eR a b),.p (eR c d)] []=some (OE (a*d+c*b) (b*d),[]) :=
 bF (hX _ rfl) (by have k1:=afJ X hX a b c d;have k2:=c116 X hX hB a b c d h.1 h.2.1 h2.1 h2.2.1;rw[eR,eR]at k1 k2;have t1:(G9 (Hf a) (Hf d)).le 2048:=BN (iZ h.1) (iZ h2.2.1);have t2:(G9 (Hf c) (Hf b)).le 2048:=BN (iZ h2.1) (iZ h.2.1);have t3:(G9 (Hf b) (Hf d)).le 2048:=BN (iZ h.2.1) (iZ h2.2.1);rw[eR,eR,e80,k1];simp only[Option.bind_some,List.headD_cons,dA,bD,decide_eq_true h,decide_eq_true h2,Bool.and_true,Bool.not_true,cond_false];rw[k2];simp only[Option.bind_some,List.headD_cons,List.tail_cons,dA,kW,c117 X hX _ _ (Nat.le_trans t1 (show 2048≤1000000 by omega)) (Nat.le_trans t2 (show 2048≤1000000 by omega))];have hp:0<(G9 (Hf b) (Hf d)).2:=Nat.mul_pos (show 0<b.natAbs by have:=h.2.2;omega) (show 0<d.natAbs by have:=h2.2.2;omega);rw[ahY X hX hB _ _ (Nat.le_trans (WQ t1 t2) (show 2049≤80000 by omega)) (Nat.le_trans t3 (show 2048≤80000 by omega)) hp,SA,He,He,He,qh,qh,qh,qh,OE];simp only[Option.bind_some];split<;>rfl)
theorem c81 (a b c d:Int) (h:okR a b) (h2:okR c d):run tab X 81 [.p (eR a b),.p (eR c d)] []=some (OE (a*c) (b*d),[]) :=
 bF (hX _ rfl) (by have k0:=afJ X hX a b c d;have k1:=c139 X hX a h.1;have k2:=c139 X hX b h.2.1;have k3:=c139 X hX c h2.1;have k4:=c139 X hX d h2.2.1;rw[eW]at k1 k2 k3 k4;rw[eR,eR]at k0;have t1:(G9 (Hf a) (Hf c)).le 2048:=BN (iZ h.1) (iZ h2.1);have t3:(G9 (Hf b) (Hf d)).le 2048:=BN (iZ h.2.1) (iZ h2.2.1);have t:∀ {z:Int},okW z→(Hf z).le 1000000:=fun h=>Nat.le_trans (iZ h) (show 1024≤1000000 by omega);rw[eR,eR,e81,k0];simp only[Option.bind_some,List.headD_cons,dA,bD,decide_eq_true h,decide_eq_true h2,Bool.and_true,Bool.not_true,cond_false];simp only[k1,k2,k3,k4,Option.bind_some,List.headD_cons,dA,kW,c141 X hX hB _ _ (t h.1) (t h2.1),c141 X hX hB _ _ (t h.2.1) (t h2.2.1)];have hp:0<(G9 (Hf b) (Hf d)).2:=Nat.mul_pos (show 0<b.natAbs by have:=h.2.2;omega) (show 0<d.natAbs by have:=h2.2.2;omega);rw[ahY X hX hB _ _ (Nat.le_trans t1 (show 2048≤80000 by omega)) (Nat.le_trans t3 (show 2048≤80000 by omega)) hp,He,He,qh,qh,qh,qh,OE];simp only[Option.bind_some];split<;>rfl)
end
end Go.Skm.Fen
namespace Go.Skm.Fen
open Go Go.Skm Go.Skm.Dig
abbrev B9:Nat:=1000000000
theorem b9:2≤B9:=by decide
abbrev kI:List Kd:=[.int .i64]
theorem Zy (k:IntKind) (x:List Nat):((bP k x).drop 0).take x.length=bP k x:=by rw[List.drop_zero,← dI k x,List.take_length]
section
variable (X:Ext) (hX:Mine X)
include hX
theorem aoh (b:List Nat) (hb:b.length≤2147483648) (o:Nat):∀ l,o+l≤b.length→L tab (run tab X) 130 [.arr false kI (bP .i64 b)] [.lp [1,0,0]] (J3 o l (bP .i64 b))=some ([.slice 100000 1 o (trim ((b.drop o).take l)).length],[.arr false kI (bP .i64 b)]):=by
 have _:=hX;intro l;induction l with
 | zero =>intro h;refine dW ?_;rw[Xi];exact dO (show ¬ ((0:Nat):Int) > 0 by omega) rfl
 | succ l ih =>
  intro h;have w1:IntKind.i64.wrap (((l+1:Nat):Int)-1)=(l:Int):=by rw[wrap_eq (by omega) (by omega)];omega
  have hlt:l<(b.drop o).length:=by simp;omega
  have hg:(b.drop o)[l]=b.getD (o+l) 0:=by rw[qLb,List.getElem_drop,qLd (by omega)];rfl
  refine dW ?_;rw[Xi];refine fF (show ((l+1:Nat):Int) > 0 by omega) ?_;rw[w1];have hr:(leI (0:Int) (l:Int)&&dG (l:Int) ((l+1:Nat):Int))=true:=by simp;omega
  have hr2:(leI (0:Int) (l:Int)&&(leI (l:Int) ((l+1:Nat):Int)&&leI ((l+1:Nat):Int) ((l+1:Nat):Int)))=true:=by simp;omega
  rw[hr,hr2];simp only[cond_true,Int.toNat_natCast,gK,adP,Int.sub_zero,Nat.add_zero];rw[List.take_succ_eq_append_getElem hlt,hg];by_cases h0:b.getD (o+l) 0=0
  · rw[if_pos (by omega),ih (by omega),h0,Jf]
  · rw[if_neg (by omega),BP (fun d hd=>by rw[List.getLast?_concat]at hd;exact Option.some.inj hd▸h0),List.length_append,List.length_take,Nat.min_eq_left (by omega)];rfl
theorem c130 (b:List Nat) (hb:b.length≤2147483648) (o l:Nat) (h:o+l≤b.length):run tab X 130 [.slice 100000 1 o l] [.arr false kI (bP .i64 b)]=some ([.slice 100000 1 o (trim ((b.drop o).take l)).length],[.arr false kI (bP .i64 b)]) :=
 bF (hX _ rfl) (by rw[amo];exact aoh X hX b hb o l h)
theorem XR (b:List Nat) (hb:b.length≤2147483648) (hok:ok B9 b) (l:Nat) (hl:l=b.length):((run tab X) 130 [.slice 100000 1 0 l] [.arr false kI (bP .i64 b)]).bind (fun r1=>some ([AV.fresh false kI ((((r1.2.headD (.box [])).xs).drop ((r1.1.headD .undef).qV)).take ((r1.1.headD .undef).sLen))],([]:List cu)))=some ([.fresh false kI (bP .i64 (bK B9 (val B9 b)))],[]):=by subst hl;rw[c130 X hX b hb 0 _ (by omega),List.drop_zero,List.take_length,← zG b9 hok rfl];show some ([AV.fresh false kI (((bP .i64 b).drop 0).take (trim b).length)],([]:List cu))=_;rw[List.drop_zero,wO,wL]
theorem aoi (N M : List Nat) (hN : ok B9 N) (hM : ok B9 M) (hn : N.length ≤ 100000000) (he : N.length = M.length) : ∀ k,k ≤ N.length → N.drop k = M.drop k →
    L tab (run tab X) 174 [] [.lp [1,1,0,1,0]] (Em (bP .i64 N) (bP .i64 M) ((k:Int)-1))=some ([.p (.int .i64 (KC (val B9 N) (val B9 M)))],[]):=by
  have _:=hX;intro k;induction k with
  | zero =>intro _ hd;rw[List.drop_zero,List.drop_zero]at hd;subst hd;refine dW ?_;rw[PG,Uf];exact dO (by simp) rfl
  | succ k ih =>
   intro hk hd;refine dW ?_;rw[show ((k+1:Nat):Int)-1=(k:Int) by omega,PG];refine fF (by omega) ?_;have r1:(leI (0:Int) (k:Int)&&dG (k:Int) (((bP .i64 N).length:Nat):Int))=true:=by simp;omega
   have r2:(leI (0:Int) (k:Int)&&dG (k:Int) (((bP .i64 M).length:Nat):Int))=true:=by simp;omega
   have w1:IntKind.i64.wrap ((k:Int)-1)=(k:Int)-1:=wrap_eq (by omega) (by omega);rw[r1,r2];simp only[cond_true,Int.toNat_natCast,gK,w1];by_cases h1:N.getD k 0<M.getD k 0
   · rw[VE (OU hN (by omega) (by omega) hd h1)];exact fF (by omega) rfl
   · refine dO (by omega) ?_;by_cases h2:M.getD k 0<N.getD k 0
     · rw[VF (OU hM (by omega) (by omega) hd.symm h2)];exact fF (by omega) rfl
     · refine dO (by omega) ?_;exact ih (by omega) (by rw[rD (l:=N) (k:=k) (by omega),rD (l:=M) (k:=k) (by omega),hd,show N.getD k 0=M.getD k 0 by omega])
theorem aoj (N M:List Nat) (hN:ok B9 N) (hM:ok B9 M) (tN:Dig.tight N) (tM:Dig.tight M) (hn:N.length≤100000000) (hm:M.length≤100000000):run tab X 174 [.p (.list false kI (bP .i64 N)),.p (.list false kI (bP .i64 M))] []=some ([.p (.int .i64 (KC (val B9 N) (val B9 M)))],[]) :=
 bF (hX _ rfl) (by
  rw[amH];simp only[dI];by_cases h:N.length=M.length
  · rw[show (((N.length:Nat):Int) != ((M.length:Nat):Int))=false by simp[h],cond_false,wrap_eq (by omega) (by omega)];exact aoi X hX N M hN hM hn h N.length (by omega) (by rw[List.drop_eq_nil_of_le (by omega),List.drop_eq_nil_of_le (by omega)])
  · rw[show (((N.length:Nat):Int) != ((M.length:Nat):Int))=true by simp;omega,cond_true];by_cases h2:N.length<M.length
    · rw[VE (DK b9 hN hM tM h2)];exact fF (by omega) rfl
    · rw[VF (DK b9 hM hN tN (show M.length<N.length by omega))];exact dO (by omega) rfl)
theorem aok (N M : List Nat) (hN : ok B9 N) (hM : ok B9 M) (hn : N.length ≤ 100000000) (hm : M.length ≤ N.length) (hle : val B9 M ≤ val B9 N) : ∀ (k i c : Nat) (pre : List Nat),i + k = N.length → pre.length = i → ok B9 pre → c ≤ 1 →
    val B9 pre+val B9 (M.take i)=val B9 (N.take i)+B9 ^ i*c →
    L tab (run tab X) 175 [] [.lp [1,1,1,0,1,0]] (oJ (bP .i64 N) (bP .i64 M) 0 i c i (bP .i64 pre))=some ([.fresh false kI (bP .i64 (bK B9 (val B9 N-val B9 M)))],[]):=by
  intro k;induction k with
  | zero =>
   intro i c pre hi hp hok hc hv;have hin:i=N.length:=by omega
   subst hin;refine dW ?_;rw[ND];refine dO (by simp) ?_;rw[rE _ _ _ (Nat.le_refl _),rE _ _ _ hm]at hv;have h1:=rW hok;rw[hp]at h1;have hc0:c=0:=by
    rcases Nat.eq_zero_or_pos c with h | h
    · exact h
    · have:c=1:=by omega
      subst this;omega
   subst hc0;have hval:val B9 pre=val B9 N-val B9 M:=by omega
   rw[← hval];exact XR X hX _ (by omega) hok _ hp.symm
  | succ k ih =>
   intro i c pre hi hp hok hc hv;refine dW ?_;rw[ND];refine fF (by simp;omega) ?_;have hd:N.getD i 0<B9:=jL hN (by decide) i;have hx:M.getD i 0<B9:=jL hM (by decide) i;have hd':N.getD i 0<1000000000:=hd;have hx':M.getD i 0<1000000000:=hx;have hr:(leI (0:Int) (i:Int)&&dG (i:Int) (((bP .i64 N).length:Nat):Int))=true:=by simp;omega
   have w1:IntKind.i64.wrap ((i:Int)+1)=((i+1:Nat):Int):=by rw[wrap_eq (by omega) (by omega)];omega
   have hw:((bP .i64 pre).drop 0).take i=bP .i64 pre:=by rw[← hp];exact Zy .i64 pre
   have key : ∀ e c' : Nat,e < B9 → c' ≤ 1 → e + M.getD i 0 + c = N.getD i 0 + B9 * c' →
       (bif (Fe (i+1) 2147483648) then L tab (run tab X) 175 [] [.lp [1,1,1,0,1,0]] (oJ (bP .i64 N) (bP .i64 M) 0 (i+1) (c':Nat) (i+1:Nat) ((((bP .i64 pre).drop 0).take i)++([.int .i64 ((e:Nat):Int)]:List PV))) else none)=some ([.fresh false kI (bP .i64 (bK B9 (val B9 N-val B9 M)))],[]):=by
     intro e c' he hc' hrel;refine fF (show i+1≤2147483648 by omega) ?_;rw[hw,show ([.int .i64 ((e:Nat):Int)]:List PV)=bP .i64 [e] from rfl,uK];refine ih (i+1) c' _ (by omega) (by simp[hp]) (jQ.2 ⟨hok,fun d hd=>by rw[List.mem_singleton.1 hd];exact he⟩) hc' ?_;rw[lT,hp,qH,qH];exact WY hv hrel
   simp only[w1];rw[hr,cond_true];simp only[Int.toNat_natCast,gK];have v1:IntKind.i64.wrap ((N.getD i 0:Int)-(c:Int))=(N.getD i 0:Int)-c:=wrap_eq (by omega) (by omega);have v2:IntKind.i64.wrap ((N.getD i 0:Int)-(c:Int)-(M.getD i 0:Int))=(N.getD i 0:Int)-c-M.getD i 0:=wrap_eq (by omega) (by omega);have v3:IntKind.i64.wrap ((N.getD i 0:Int)-(c:Int)-(M.getD i 0:Int)+1000000000)=(N.getD i 0:Int)-c-M.getD i 0+1000000000:=wrap_eq (by omega) (by omega);have v4:IntKind.i64.wrap ((N.getD i 0:Int)-(c:Int)+1000000000)=(N.getD i 0:Int)-c+1000000000:=wrap_eq (by omega) (by omega);have hB:B9=1000000000:=rfl;by_cases hl:(i:Int)<((bP .i64 M).length:Nat)
   · refine fF hl ?_;have hr2:(leI (0:Int) (i:Int)&&dG (i:Int) (((bP .i64 M).length:Nat):Int))=true:=by simp at hl ⊢;omega
     rw[hr2,cond_true,v1,v2,v3];by_cases hneg:(N.getD i 0:Int)-c-M.getD i 0<0
     · refine fF hneg ?_;have:=key (N.getD i 0+1000000000-c-M.getD i 0) 1 (by omega) (by omega) (by omega);rw[show ((N.getD i 0+1000000000-c-M.getD i 0:Nat):Int)=(N.getD i 0:Int)-c-M.getD i 0+1000000000 by omega]at this;exact this
     · refine dO hneg ?_;have:=key (N.getD i 0-c-M.getD i 0) 0 (by omega) (by omega) (by omega);rw[show ((N.getD i 0-c-M.getD i 0:Nat):Int)=(N.getD i 0:Int)-c-M.getD i 0 by omega]at this;exact this
   · refine dO hl ?_;have h0:M.getD i 0=0:=by rw[qLb,List.getElem?_eq_none (by simp at hl;omega)];rfl
     rw[v1,v4];by_cases hneg:(N.getD i 0:Int)-c<0
     · refine fF hneg ?_;have:=key (N.getD i 0+1000000000-c) 1 (by omega) (by omega) (by omega);rw[show ((N.getD i 0+1000000000-c:Nat):Int)=(N.getD i 0:Int)-c+1000000000 by omega]at this;exact this
     · refine dO hneg ?_;have:=key (N.getD i 0-c) 0 (by omega) (by omega) (by omega);rw[show ((N.getD i 0-c:Nat):Int)=(N.getD i 0:Int)-c by omega]at this;exact this
theorem c175 (N M:List Nat) (hN:ok B9 N) (hM:ok B9 M) (hn:N.length≤100000000) (hm:M.length≤N.length) (hle:val B9 M≤val B9 N):run tab X 175 [.p (.list false kI (bP .i64 N)),.p (.list false kI (bP .i64 M))] []=some ([.fresh false kI (bP .i64 (bK B9 (val B9 N-val B9 M)))],[]) :=
 bF (hX _ rfl) (by rw[amI];exact aok X hX N M hN hM hn hm hle N.length 0 0 [] (by omega) rfl (wo _) (by omega) rfl)
end
end Go.Skm.Fen
namespace Go.Skm.Fen
open Go Go.Skm Go.Skm.Dig
theorem XT {b:Nat} (hb:2≤b) {l:List Nat} (h1:ok b l) (h2:l≠[]→b ^ (l.length-1)≤val b l):Dig.tight l:=by
 intro d hd h0;subst h0;have hne:l≠[]:=by intro h;rw[h]at hd;simp at hd
 obtain⟨init,rfl⟩:=List.getLast?_eq_some_iff.1 hd;have h3:val b init<b ^ init.length:=rW (fun x hx=>h1 x (List.mem_append_left _ hx));have h4:=h2 hne;rw[lT,Nat.mul_zero,Nat.add_zero,List.length_append,List.length_singleton,Nat.add_sub_cancel]at h4;omega
theorem F6 {l:List Nat} {i:Nat} (h:l.length≤i):l.getD i 0=0:=by rw[qLb,List.getElem?_eq_none h];rfl
theorem aa4 (s k:Nat):((s:Int)).tdiv (k:Int)=((s / k:Nat):Int):=by rw[Int.tdiv_eq_ediv_of_nonneg (by omega)];norm_cast
theorem aa5 (s k:Nat):((s:Int)).tmod (k:Int)=((s%k:Nat):Int):=by rw[Int.tmod_eq_emod_of_nonneg (by omega)];norm_cast
section
variable (X:Ext) (hX:Mine X)
include hX
theorem aol (N M : List Nat) (hN : ok B9 N) (hM : ok B9 M) (tN : Dig.tight N) (tM : Dig.tight M) (hn : N.length ≤ 100000000) (hm : M.length ≤ 100000000) : ∀ (k i c : Nat) (pre : List Nat),i + k = max N.length M.length + 1 → pre.length = i → ok B9 pre → c ≤ 1 →
    (k=0→c=0∧B9 ^ (max N.length M.length)≤val B9 N+val B9 M) →
    val B9 pre+B9 ^ i*c=val B9 (N.take i)+val B9 (M.take i) →
    L tab (run tab X) 128 [] [.lp [1,1,1,0,1,0]] (gX (bP .i64 N) (bP .i64 M) 0 i c i (bP .i64 pre))=some ([.fresh false kI (bP .i64 (bK B9 (val B9 N+val B9 M)))],[]):=by
  have _:=hX;have hB:B9=1000000000:=rfl
  have fin : ∀ (i : Nat) (pre : List Nat),max N.length M.length ≤ i → pre.length = i → ok B9 pre → (i = max N.length M.length + 1 → B9 ^ (max N.length M.length) ≤ val B9 N + val B9 M) → i ≤ max N.length M.length + 1 → val B9 pre = val B9 (N.take i) + val B9 (M.take i) →
      some ([AV.fresh false kI (((bP .i64 pre).drop 0).take i)],([]:List cu))=some ([.fresh false kI (bP .i64 (bK B9 (val B9 N+val B9 M)))],[]):=by
    intro i pre h1 h2 h3 h4 h5 h6;rw[rE _ N _ (by omega),rE _ M _ (by omega)]at h6;have ht:Dig.tight pre:=XT b9 h3 (by
     intro hne;have hl:0<pre.length:=List.length_pos_iff.2 hne;rw[h6];rcases Nat.lt_or_ge (max N.length M.length) i with h | h
     · rw[h2,show i-1=max N.length M.length by omega];exact h4 (by omega)
     · rcases Nat.lt_or_ge N.length i with h7 | h7
       · have hM0:M≠[]:=by intro h8;rw[h8]at h1 h;simp at h1 h;omega
         have:=Qr b9 hM tM hM0;rw[show pre.length-1=M.length-1 by omega];omega
       · have hN0:N≠[]:=by intro h8;rw[h8]at h7;simp at h7;omega
         have:=Qr b9 hN tN hN0;rw[show pre.length-1=N.length-1 by omega];omega)
    rw[← h2,Zy,UR b9 h3 ht h6]
  intro k;induction k with
  | zero =>intro i c pre hi hp hok hc h0 hv;obtain⟨c0,hge⟩:=h0 rfl;subst c0;refine dW ?_;rw[Nw];refine dO (by simp;omega) (dO (by simp;omega) (dO (by simp) ?_));exact fin i pre (by omega) hp hok (fun _=>hge) (by omega) (by omega)
  | succ k ih =>
   intro i c pre hi hp hok hc _ hv;have hd:N.getD i 0<1000000000:=jL hN (by decide) i;have hx:M.getD i 0<1000000000:=jL hM (by decide) i;have w1:IntKind.i64.wrap ((i:Int)+1)=((i+1:Nat):Int):=by rw[wrap_eq (by omega) (by omega)];omega
   have hw:((bP .i64 pre).drop 0).take i=bP .i64 pre:=by rw[← hp];exact Zy .i64 pre
   have key : i < max N.length M.length ∨ c = 1 → ∀ s : Nat,s = c + N.getD i 0 + M.getD i 0 →
       (bif (Go.Skm.Fe (i+1) 2147483648) then L tab (run tab X) 128 [] [.lp [1,1,1,0,1,0]] (gX (bP .i64 N) (bP .i64 M) 0 (i+1) (IntKind.i64.wrap ((s:Int).tdiv 1000000000)) (i+1:Nat) ((((bP .i64 pre).drop 0).take i)++([.int .i64 ((s:Int).tmod 1000000000)]:List PV))) else none)=some ([.fresh false kI (bP .i64 (bK B9 (val B9 N+val B9 M)))],[]):=by
     intro hcase s hs;refine fF (show i+1≤2147483648 by omega) ?_;rw[hw,show (1000000000:Int)=((B9:Nat):Int) from rfl,aa4,aa5,show ([.int .i64 ((s%B9:Nat):Int)]:List PV)=bP .i64 [s%B9] from rfl,uK];have hstep:=WX (b:=B9) (d:=N.getD i 0) (x:=M.getD i 0) hv;rw[show N.getD i 0+M.getD i 0+c=s by omega]at hstep;have hq1:s / B9≤1:=by show s / 1000000000≤1;omega
     have hq0:i=max N.length M.length→s / B9=0:=by intro him;have hn0:N.getD i 0=0:=F6 (by omega);have hm0:M.getD i 0=0:=F6 (by omega);show s / 1000000000=0;omega
     have hmd:s%B9<B9:=Nat.mod_lt _ (by decide);revert hstep hq1 hq0 hmd;generalize s / B9=q;generalize s%B9=e;intro hstep hq1 hq0 hmd;rw[wrap_eq (by omega) (by omega)];refine ih (i+1) q _ (by omega) (by simp[hp]) (jQ.2 ⟨hok,fun d hd=>by rw[List.mem_singleton.1 hd];exact hmd⟩) hq1 ?_ ?_
     · intro hk;have him:i=max N.length M.length:=by omega
       have hc1:c=1:=by omega
       refine⟨hq0 him,?_⟩;rw[rE _ N _ (by omega),rE _ M _ (by omega),hc1,Nat.mul_one]at hv;rw[← him];omega
     · rw[lT,hp,qH,qH];exact hstep
   refine dW ?_;rw[Nw];simp only[w1,Int.toNat_natCast,gK];have v1:IntKind.i64.wrap ((c:Int)+(N.getD i 0:Int))=((c+N.getD i 0:Nat):Int):=by rw[wrap_eq (by omega) (by omega)];omega
   have v2:IntKind.i64.wrap (((c+N.getD i 0:Nat):Int)+(M.getD i 0:Int))=((c+N.getD i 0+M.getD i 0:Nat):Int):=by rw[wrap_eq (by omega) (by omega)];omega
   have v3:IntKind.i64.wrap ((c:Int)+(M.getD i 0:Int))=((c+M.getD i 0:Nat):Int):=by rw[wrap_eq (by omega) (by omega)];omega
   rw[v1,v2,v3];by_cases hNl:(i:Int)<((bP .i64 N).length:Nat)
   · have asP:i<N.length:=by simpa using hNl
     have hr:(leI (0:Int) (i:Int)&&dG (i:Int) (((bP .i64 N).length:Nat):Int))=true:=by simp;omega
     refine fF hNl (fF hNl ?_);rw[hr,cond_true];by_cases YX:(i:Int)<((bP .i64 M).length:Nat)
     · have hr2:(leI (0:Int) (i:Int)&&dG (i:Int) (((bP .i64 M).length:Nat):Int))=true:=by simp at YX ⊢;omega
       refine fF YX ?_;rw[hr2,cond_true];exact key (Or.inl (by omega)) _ rfl
     · refine dO YX ?_;have hm0:M.getD i 0=0:=F6 (by simp at YX;omega);exact key (Or.inl (by omega)) (c+N.getD i 0) (by omega)
   · have hn0:N.getD i 0=0:=F6 (by simp at hNl;omega);refine dO hNl ?_;by_cases YX:(i:Int)<((bP .i64 M).length:Nat)
     · have asQ:i<M.length:=by simpa using YX
       have hr2:(leI (0:Int) (i:Int)&&dG (i:Int) (((bP .i64 M).length:Nat):Int))=true:=by simp at YX ⊢;omega
       refine fF YX (dO hNl (fF YX ?_));rw[hr2,cond_true];exact key (Or.inl (by omega)) (c+M.getD i 0) (by omega)
     · have hm0:M.getD i 0=0:=F6 (by simp at YX;omega);refine dO YX ?_;by_cases hc1:c=1
       · refine fF (show (c:Int) > 0 by omega) (dO hNl (dO YX ?_));exact key (Or.inr hc1) c (by omega)
       · refine dO (show ¬ (c:Int) > 0 by omega) ?_;have hc0:c=0:=by omega
         rw[hc0,Nat.mul_zero,Nat.add_zero]at hv;simp at hNl YX;exact fin i pre (by omega) hp hok (fun h=>by omega) (by omega) hv
theorem aom (x y:Nat) (hx:(bK B9 x).length≤100000000) (hy:(bK B9 y).length≤100000000):run tab X 128 [.p (.list false kI (bP .i64 (bK B9 x))),.p (.list false kI (bP .i64 (bK B9 y)))] []=some ([.fresh false kI (bP .i64 (bK B9 (x+y)))],[]) :=
 bF (hX _ rfl) (by rw[e128];have:=aol X hX (bK B9 x) (bK B9 y) (yZ b9 x) (yZ b9 y) (wu b9 x) (wu b9 y) hx hy (max (bK B9 x).length (bK B9 y).length+1) 0 0 [] (by omega) rfl (wo _) (by omega) (by omega) rfl;rw[qo b9,qo b9]at this;exact this)
end
end Go.Skm.Fen
namespace Go.Skm.Fen
open Go Go.Skm Go.Skm.Dig
abbrev nI (n:Nat):List PV:=bP .i64 (bK B9 n)
theorem iok (n:Nat):ok B9 (bK B9 n):=yZ b9 n
theorem ival (n:Nat):val B9 (bK B9 n)=n:=qo b9 n
theorem aed (n:Nat):Dig.tight (bK B9 n):=wu b9 n
theorem afT:nI 0=[]:=by rw[nI,gq];rfl
theorem aa6 {n k:Nat} (h:n<B9 ^ k):(bK B9 n).length≤k:=qp b9 h
theorem Ug {a b:Nat} (h:a≤b):(bK B9 a).length≤(bK B9 b).length:=aa6 (Nat.lt_of_le_of_lt h (wZ b9))
theorem XU (a b:Nat):KC a b<0↔a<b:=by unfold KC;split<;>(try split)<;>simp<;>omega
section
variable (X:Ext) (hX:Mine X)
include hX
theorem aon (x y:Nat) (hx:(bK B9 x).length≤100000000) (hy:(bK B9 y).length≤100000000):run tab X 174 [.p (.list false kI (nI x)),.p (.list false kI (nI y))] []=some ([.p (.int .i64 (KC x y))],[]):=by rw[aoj X hX _ _ (iok x) (iok y) (aed x) (aed y) hx hy,ival,ival]
end
end Go.Skm.Fen
