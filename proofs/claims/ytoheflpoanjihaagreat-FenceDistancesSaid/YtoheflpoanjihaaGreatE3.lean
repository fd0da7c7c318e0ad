import Derived.Test.YtoheflpoanjihaaGreatE2
set_option linter.all false
set_option maxRecDepth 100000
namespace Go.Skm.Fen
open Go Go.Skm Go.Proofs Go.RowKit Go.Lib Go.Sort
variable {gl:Option (List (Nat × Obj))}
theorem Qz{x y:Rt}(h:lM x=lM y):x=y:=by have b:=Gl x y;rw[h]at b;have a:=Gl y y;rw[b]at a;exact of_decide_eq_true (a.trans (decide_eq_true rfl))
instance:Inhabited Vr:=⟨⟨⟨0,1⟩,by decide +kernel⟩⟩
noncomputable def QA(p:PV):Option Vr:=open Classical in if h:∃ x:Vr,p=lM x.1 then some h.choose else none
noncomputable def EZ:SortEnc Vr where
 ks:=kR
 pc x:=[.bool (decide (x.1.n<0)),.str (jD x.1.n.natAbs),.bool (decide (x.1.d<0)),.str (jD x.1.d.natAbs)]
 dec:=QA
 len _:=rfl
 flat x c hc:=by
  simp only[List.mem_cons,List.not_mem_nil,or_false]at hc
  rcases hc with rfl | rfl | rfl | rfl<;>rfl
 kinds _:=rfl
 enc_dec x:=by
  have h:∃ y:Vr,lM x.1=lM y.1:=⟨x,rfl⟩
  show QA (lM x.1)=some x
  unfold QA
  rw[dif_pos h]
  exact congrArg some (Subtype.ext (Qz h.choose_spec.symm))
 dec_enc p x h:=by
  unfold QA at h
  split at h
  . next hx =>
    cases h
    exact hx.choose_spec
  . cases h
def Tn(x y:Vr):Int:=(x.1.n*y.1.d-y.1.n*x.1.d).sign
theorem Gm(x y:Vr):ltOf Tn x y=decide (JI x.1 y.1):=by unfold ltOf Tn JI;apply decide_eq_decide.2;rw[Int.sign_neg_iff];omega
theorem Tt:SWO (ltOf Tn):=by
 have hd:∀ x:Vr,0<x.1.d:=λx=>x.2.2.2;refine⟨λx=>?_,λx y z b a=>?_,λx y z b a=>?_⟩
 . rw[Gm,decide_eq_false_iff_not];unfold JI;omega
 . rw[Gm,qDa]at b a ⊢;apply Decidable.byContradiction;intro c;have e:¬ JI y.1 x.1:=by unfold JI at b ⊢;omega
   exact zY (hd z) (hd x) (hd y) c e a
 . rw[Gm,decide_eq_false_iff_not]at b a ⊢;exact zY (hd z) (hd y) (hd x) a b
theorem Ld:Mine (extL []):=λ_ _=>rfl
theorem JJ(hne:gl≠none):ExtOk1 Tryz.prog tab gl 74 (sortFF EZ Tn 73):=
 ext1_sortFunc hne Tryz.laysSort EZ (by decide) (λw=>Tryz.isAgg45 w) (λw=>Tryz.sizeOf45 w) Tt (enters_of Tryz.func73 (by kernel_rfl) rfl)
  (λw x y=>cmp_calls tabTrue JD (fi:=fi73) (by kernel_rfl) rfl (t:=3) rfl EZ (c73 (extL []) Ld (words Ld rfl rfl) x.1 y.1 x.2 y.2) w)
  (fi:=fi74) rfl (by kernel_rfl) rfl rfl rfl
noncomputable def libX:Ext:=extL [(74,sortFF EZ Tn 73),(87,Dc),(88,cloneN true kV3),(193,cloneN false kU)]
theorem QB{f n:Nat}(a:(f==n)=false):(n==f)=false:=by rw[beq_eq_false_iff_ne]at a ⊢;exact λe=>a e.symm
theorem libMine:Mine libX:=by intro f h;simp only[extB,Bool.or_eq_false_iff]at h;obtain⟨d,c,b,h4,h5,a⟩:=h;unfold libX extL;simp only[tlook,QB d,QB c,QB b,QB a,qCf]
theorem libExt(a:gl≠none):ExtOk Tryz.prog tab gl libX:=
 extOk_cons (by kernel_rfl) (JJ a) (Il (by kernel_rfl) (JG a) (extOk_cons (by kernel_rfl) (ext1_cloneN a U1 rfl) (extOk_cons (by kernel_rfl) (ext1_cloneN a U2 rfl) JD)))
theorem OJ:Words libX:=words libMine rfl rfl
theorem QC:Bits libX:=⟨OJ,λl a=>run_ext (fi:=OE) (by kernel_rfl) rfl (cloneN_of (by simpa[aY] using a))⟩
theorem OL:Df libX:=⟨λf hf=>run_ext (fi:=kJ) (by kernel_rfl) rfl (Nl f hf)⟩
theorem Le(l:List Vr):EZ.encs l=Io l:=by unfold SortEnc.encs Io encR;rw[List.map_map];rfl
theorem OM:Sorts libX:=⟨λl c=>⟨pdqL Tn l,(pdqL_spec Tt l).1,by
    unfold Tv;rw[List.pairwise_map];exact(pdqL_spec Tt l).2.imp λ{a b} h=>by rw[Gm,decide_eq_false_iff_not]at h;exact h,by
    refine run_ext (fi:=fi74) (by kernel_rfl) rfl ?_;have:=sortFF_eq EZ Tn 73 l c (by rfl);rwa[Le,Le]at this⟩⟩
end Go.Skm.Fen
