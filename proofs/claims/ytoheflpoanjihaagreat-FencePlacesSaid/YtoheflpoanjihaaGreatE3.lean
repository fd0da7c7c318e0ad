import Derived.Test.YtoheflpoanjihaaGreatE2
set_option linter.all false
set_option maxRecDepth 100000
namespace Go.Skm.Fen
open Go Go.Skm Go.Proofs Go.RowKit Go.Lib Go.Sort
variable {gl:Option (List (Nat × Obj))}
theorem RP{x y:Rt}(h:mX x=mX y):x=y:=by have b:=Ie x y;rw[h]at b;have a:=Ie y y;rw[b]at a;exact of_decide_eq_true (a.trans (decide_eq_true rfl))
instance:Inhabited Vr:=⟨⟨⟨0,1⟩,by decide +kernel⟩⟩
noncomputable def RQ(p:PV):Option Vr:=open Classical in if h:∃ x:Vr,p=mX x.1 then some h.choose else none
noncomputable def Gy:SortEnc Vr where
 ks:=kR
 pc x:=[.bool (decide (x.1.n<0)),.str (jS x.1.n.natAbs),.bool (decide (x.1.d<0)),.str (jS x.1.d.natAbs)]
 dec:=RQ
 len _:=rfl
 flat x c hc:=by
  simp only[List.mem_cons,List.not_mem_nil,or_false]at hc
  rcases hc with rfl | rfl | rfl | rfl<;>rfl
 kinds _:=rfl
 enc_dec x:=by
  have h:∃ y:Vr,mX x.1=mX y.1:=⟨x,rfl⟩
  show RQ (mX x.1)=some x
  unfold RQ
  rw[dif_pos h]
  exact congrArg some (Subtype.ext (RP h.choose_spec.symm))
 dec_enc p x h:=by
  unfold RQ at h
  split at h
  . next hx =>
    cases h
    exact hx.choose_spec
  . cases h
def Ut(x y:Vr):Int:=(x.1.n*y.1.d-y.1.n*x.1.d).sign
theorem Ig(x y:Vr):ltOf Ut x y=decide (KW x.1 y.1):=by unfold ltOf Ut KW;apply decide_eq_decide.2;rw[Int.sign_neg_iff];omega
theorem Uu:SWO (ltOf Ut):=by
 have hd:∀ x:Vr,0<x.1.d:=λx=>x.2.2.2;refine⟨λx=>?_,λx y z b a=>?_,λx y z b a=>?_⟩
 . rw[Ig,decide_eq_false_iff_not];unfold KW;omega
 . rw[Ig,qDa]at b a ⊢;apply Decidable.byContradiction;intro c;have e:¬ KW y.1 x.1:=by unfold KW at b ⊢;omega
   exact BL (hd z) (hd x) (hd y) c e a
 . rw[Ig,decide_eq_false_iff_not]at b a ⊢;exact BL (hd z) (hd y) (hd x) a b
theorem MK:Mine (extL []):=λ_ _=>rfl
theorem KX(hne:gl≠none):ExtOk1 Tryz.prog tab gl 74 (sortFF Gy Ut 73):=
 ext1_sortFunc hne Tryz.laysSort Gy (by decide) (λw=>Tryz.isAgg45 w) (λw=>Tryz.sizeOf45 w) Uu (enters_of Tryz.func73 (by kernel_rfl) rfl)
  (λw x y=>cmp_calls tabTrue KO (fi:=fi73) (by kernel_rfl) rfl (t:=3) rfl Gy (c73 (extL []) MK (words MK rfl rfl) x.1 y.1 x.2 y.2) w)
  (fi:=fi74) rfl (by kernel_rfl) rfl rfl rfl
noncomputable def libX:Ext:=extL [(74,sortFF Gy Ut 73),(87,Ej),(88,cloneN true kV3),(193,cloneN false kU)]
theorem RS{f n:Nat}(a:(f==n)=false):(n==f)=false:=by rw[beq_eq_false_iff_ne]at a ⊢;exact λe=>a e.symm
theorem libMine:Mine libX:=by intro f h;simp only[extB,Bool.or_eq_false_iff]at h;obtain⟨d,c,b,h4,h5,a⟩:=h;unfold libX extL;simp only[tlook,RS d,RS c,RS b,RS a,qCf]
theorem libExt(a:gl≠none):ExtOk Tryz.prog tab gl libX:=
 extOk_cons (by kernel_rfl) (KX a) (Jm (by kernel_rfl) (KT a) (extOk_cons (by kernel_rfl) (ext1_cloneN a VG rfl) (extOk_cons (by kernel_rfl) (ext1_cloneN a VH rfl) KO)))
theorem PW:Words libX:=words libMine rfl rfl
theorem D5:Bits libX:=⟨PW,λl a=>run_ext (fi:=PN) (by kernel_rfl) rfl (cloneN_of (by simpa[aY] using a))⟩
theorem zS:zl libX:=⟨λf hf=>run_ext (fi:=lH) (by kernel_rfl) rfl (Oi f hf)⟩
theorem ML(l:List Vr):Gy.encs l=Jo l:=by unfold SortEnc.encs Jo encR;rw[List.map_map];rfl
theorem zT:Sorts libX:=⟨λl c=>⟨pdqL Ut l,(pdqL_spec Uu l).1,by
    unfold Uw;rw[List.pairwise_map];exact(pdqL_spec Uu l).2.imp λ{a b} h=>by rw[Ig,decide_eq_false_iff_not]at h;exact h,by
    refine run_ext (fi:=fi74) (by kernel_rfl) rfl ?_;have:=sortFF_eq Gy Ut 73 l c (by rfl);rwa[ML,ML]at this⟩⟩
end Go.Skm.Fen
