/-
  The answers of the library and of the walk, together; condition: the world of a row.
-/
import Derived.Test.YtfmoopdnamdobaaDoorAllX
import Derived.Test.YtfmoopdnamdobaaDoorP13
import Derived.Test.YtfmoopdnamdobaaDoorLine
import Derived.Test.YtfmoopdnamdobaaDoorTabOk
import Derived.Test.YtfmoopdnamdobaaDoorRows
import Derived.Test.YtfmoopdnamdobaaDoorSkmI
import Derived.Test.YtfmoopdnamdobaaDoorSkmH
import Derived.Lib.LaidTab
import Derived.MakeChecks
namespace Go.Skm.Prg
open Go Go.Skm Go.Proofs Go.Shelf
theorem lays169:Lays.n169 Tryd.prog Tryd.lays156_ren:={ Tryd.lays156 with }
theorem str69 {G:Bool→World→Prop}:PrimC Tryd.prog G 69 [112,114] 5 .str:=str_ok lays169 Tryd.Builder_Extra_156 [112,114]
theorem prims_only:(tab.funcs.all fun p=>Nat.beq p.1 68||(Nat.beq p.1 69||!p.2.cfg.prim.is))=true:=by kernel_rfl
theorem hf68:tlook tab.funcs 68=some fi68:=by kernel_rfl
theorem hf69:tlook tab.funcs 69=some fi69:=by kernel_rfl
theorem tlook_mem {β:Type}:∀ {l:List (Nat × β)} {s:Nat} {x:β},tlook l s=some x→(s,x)∈l
 | [],s,x,h=>by simp[tlook]at h
 | (k,y)::r,s,x,h=>by
  simp only[tlook]at h
  cases e:k==s with
  | true =>
   rw[e]at h
   simp only[cond_true,Option.some.injEq]at h
   simp only[beq_iff_eq]at e
   subst h e
   simp
  | false =>
   rw[e]at h
   exact List.mem_cons_of_mem _ (tlook_mem h)
theorem primsOk:PrimsOk Tryd.prog tab:=by
 intro f fi hf hp
 have h:=List.all_eq_true.1 prims_only _ (tlook_mem hf)
 simp only[Bool.or_eq_true,Bool.not_eq_true']at h
 rcases h with h | h | h
 · have e:f=68:=Nat.eq_of_beq_eq_true h
   subst e
   rw[hf68]at hf
   cases hf
   exact⟨⟨_,rfl⟩,line_ok⟩
 · have e:f=69:=Nat.eq_of_beq_eq_true h
   subst e
   rw[hf69]at hf
   cases hf
   exact⟨⟨_,rfl⟩,str69⟩
 · rw[hp]at h;cases h
theorem tabTrue:TabOk Tryd.prog tab:=tabOk primsOk
theorem infoMv:∃ i0 z,Tryd.prog.info? 34=some i0∧i0.zero=some z∧i0.size=kMv.length∧z.cells.size=kMv.length∧i0.bytes≤1000:=by
 have h:(Tryd.prog.info? 34).map (fun i=>(i.zero.map (fun z:Value=>z.cells.size),i.size,decide (i.bytes≤1000)))=some (some 6,6,true):=by kernel_rfl
 cases hi:Tryd.prog.info? 34 with
 | none=>rw[hi]at h;cases h
 | some i =>
  rw[hi]at h
  cases hz:i.zero with
  | none=>rw[Option.map_some,hz]at h;cases h
  | some z =>
   rw[Option.map_some,hz]at h
   simp only[Option.map_some,Option.some.injEq,Prod.mk.injEq,decide_eq_true_eq]at h
   exact⟨i,z,rfl,hz,h.2.1,h.1,h.2.2⟩
theorem infoStr:∃ i0 z,Tryd.prog.info? 9=some i0∧i0.zero=some z∧i0.size=1∧z.cells.size=1∧i0.bytes≤1000:=by
 have h:(Tryd.prog.info? 9).map (fun i=>(i.zero.map (fun z:Value=>z.cells.size),i.size,decide (i.bytes≤1000)))=some (some 1,1,true):=by kernel_rfl
 cases hi:Tryd.prog.info? 9 with
 | none=>rw[hi]at h;cases h
 | some i =>
  rw[hi]at h
  cases hz:i.zero with
  | none=>rw[Option.map_some,hz]at h;cases h
  | some z =>
   rw[Option.map_some,hz]at h
   simp only[Option.map_some,Option.some.injEq,Prod.mk.injEq,decide_eq_true_eq]at h
   exact⟨i,z,rfl,hz,h.2.1,h.1,h.2.2⟩
theorem infoV:∃ i0 z,Tryd.prog.info? 31=some i0∧i0.zero=some z∧i0.size=3∧z.cells.size=3∧i0.bytes≤1000:=by
 have h:(Tryd.prog.info? 31).map (fun i=>(i.zero.map (fun z:Value=>z.cells.size),i.size,decide (i.bytes≤1000)))=some (some 3,3,true):=by kernel_rfl
 cases hi:Tryd.prog.info? 31 with
 | none=>rw[hi]at h;cases h
 | some i =>
  rw[hi]at h
  cases hz:i.zero with
  | none=>rw[Option.map_some,hz]at h;cases h
  | some z =>
   rw[Option.map_some,hz]at h
   simp only[Option.map_some,Option.some.injEq,Prod.mk.injEq,decide_eq_true_eq]at h
   exact⟨i,z,rfl,hz,h.2.1,h.1,h.2.2⟩
theorem infoA:∃ i0 z,Tryd.prog.info? 37=some i0∧i0.zero=some z∧i0.size=3∧z.cells.size=3∧i0.bytes≤1000:=by
 have h:(Tryd.prog.info? 37).map (fun i=>(i.zero.map (fun z:Value=>z.cells.size),i.size,decide (i.bytes≤1000)))=some (some 3,3,true):=by kernel_rfl
 cases hi:Tryd.prog.info? 37 with
 | none=>rw[hi]at h;cases h
 | some i =>
  rw[hi]at h
  cases hz:i.zero with
  | none=>rw[Option.map_some,hz]at h;cases h
  | some z =>
   rw[Option.map_some,hz]at h
   simp only[Option.map_some,Option.some.injEq,Prod.mk.injEq,decide_eq_true_eq]at h
   exact⟨i,z,rfl,hz,h.2.1,h.1,h.2.2⟩
theorem at45:CloneAt Tryd.prog tab Tryd.laysClone45_ren 45 fi45 28 34 true kMv:=⟨Tryd.laysClone45,rfl,by kernel_rfl,⟨_,rfl⟩,rfl,by kernel_rfl,by kernel_rfl,by kernel_rfl,infoMv,by decide,fun w=>Tryd.sizeOf34 w⟩
theorem at54:CloneAt Tryd.prog tab Tryd.laysClone54_ren 54 fi54 23 9 false [.str]:=⟨Tryd.laysClone54,rfl,by kernel_rfl,⟨_,rfl⟩,rfl,by kernel_rfl,by kernel_rfl,by kernel_rfl,infoStr,by decide,fun w=>Tryd.sizeOf9 w⟩
theorem at55:CloneAt Tryd.prog tab Tryd.laysClone55_ren 55 fi55 24 31 true kV3:=⟨Tryd.laysClone55,rfl,by kernel_rfl,⟨_,rfl⟩,rfl,by kernel_rfl,by kernel_rfl,by kernel_rfl,infoV,by decide,fun w=>Tryd.sizeOf31 w⟩
theorem at56:CloneAt Tryd.prog tab Tryd.laysClone56_ren 56 fi56 25 37 true kAc:=⟨Tryd.laysClone56,rfl,by kernel_rfl,⟨_,rfl⟩,rfl,by kernel_rfl,by kernel_rfl,by kernel_rfl,infoA,by decide,fun w=>Tryd.sizeOf37 w⟩
noncomputable def libX0:Ext:=extL [(45,cloneD true kMv),(54,cloneD false [.str]),(55,cloneD true kV3),(56,cloneN true kAc)]
noncomputable def libX:Ext:=extL [(47,allF),(45,cloneD true kMv),(54,cloneD false [.str]),(55,cloneD true kV3),(56,cloneN true kAc)]
theorem cloneD_of {a:Bool} {ks:List Kd} {xs:List PV} (h:xs.length≤100000):cloneD a ks [.p (.list a ks xs)] []=some ([.p (.list a ks xs)],[]):=by
 unfold cloneD
 simp only
 rw[if_pos (by simp[Kd.beqs_refl,h])]
theorem cloneN_of {a:Bool} {ks:List Kd} {xs:List PV} (h:xs.length≤100000):cloneN a ks [.p (.list a ks xs)] []=some ([.fresh a ks xs],[]):=by
 unfold cloneN
 simp only
 rw[if_pos (by simp[Kd.beqs_refl,h])]
theorem clones0:Clones libX0 where
 c45 _ h:=run_ext (fi:=fi45) (s:=cloneD true kMv) (by kernel_rfl) rfl (cloneD_of h)
 c54 _ h:=run_ext (fi:=fi54) (s:=cloneD false [.str]) (by kernel_rfl) rfl (cloneD_of h)
 c55 _ h:=run_ext (fi:=fi55) (s:=cloneD true kV3) (by kernel_rfl) rfl (cloneD_of h)
 c56 _ h:=run_ext (fi:=fi56) (s:=cloneN true kAc) (by kernel_rfl) rfl (cloneN_of h)
theorem libClones:Clones libX where
 c45 _ h:=run_ext (fi:=fi45) (s:=cloneD true kMv) (by kernel_rfl) rfl (cloneD_of h)
 c54 _ h:=run_ext (fi:=fi54) (s:=cloneD false [.str]) (by kernel_rfl) rfl (cloneD_of h)
 c55 _ h:=run_ext (fi:=fi55) (s:=cloneD true kV3) (by kernel_rfl) rfl (cloneD_of h)
 c56 _ h:=run_ext (fi:=fi56) (s:=cloneN true kAc) (by kernel_rfl) rfl (cloneN_of h)
theorem libAll:AllOk libX where
 c47 p hp hv:=run_ext (fi:=fi47) (s:=allF) hf47 rfl (allF_eq p hp hv)
theorem beqN {f n:Nat} (hn:(f==n)=false):(n==f)=false:=by
 rw[beq_eq_false_iff_ne]at hn ⊢
 exact fun e=>hn e.symm
theorem mine0:Mine libX0:=by
 intro f h
 simp only[extB,Bool.or_eq_false_iff]at h
 unfold libX0 extL
 simp only[tlook,beqN h.1,beqN h.2.2.1,beqN h.2.2.2.1,beqN h.2.2.2.2,cond_false]
theorem libMine:Mine libX:=by
 intro f h
 simp only[extB,Bool.or_eq_false_iff]at h
 unfold libX extL
 simp only[tlook,beqN h.1,beqN h.2.1,beqN h.2.2.1,beqN h.2.2.2.1,beqN h.2.2.2.2,cond_false]
theorem libKnown:Known libX:=known libX libMine libClones libAll
open Go.Proofs.YtfmoopdnamdobaaDoor
def laidL : List (String × DataW Unit) := [("math/bits.deBruijn32tab", Rows.laid_math_bits_deBruijn32tab), ("math/bits.deBruijn64tab", Rows.laid_math_bits_deBruijn64tab), ("internal/strconv.uint64pow10", Rows.laid_internal_strconv_uint64pow10)]
theorem pow10_laid:Rows.laid_internal_strconv_uint64pow10 (H:=Unit)=Lib.tabData .u64 Lib.pow10Tab:=by kernel_rfl
def gls:List Nat:=[0]
theorem g_pow10 : Tryd.prog.globalNamed "internal/strconv.uint64pow10" = some 0 := by kernel_rfl
theorem libExt {W:World} (hL:laidMetH Tryd.prog laidL W) (_hS:W.ShapedOpen Tryd.prog):ExtOk Tryd.prog tab (some (glOf W gls)) libX:=by
 rw[MakeChecks.laidMetH_plain _ _ _ (by kernel_rfl)]at hL
 have hP : Lib.TabIs Tryd.prog W "internal/strconv.uint64pow10" .u64 Lib.pow10Tab := by
  have h : laidMet Tryd.prog (("internal/strconv.uint64pow10", Rows.laid_internal_strconv_uint64pow10) :: laidL.drop 3) W := laid_drop 2 hL
  rw[pow10_laid]at h
  exact Lib.tabIs_of_head g_pow10 (t:=156) (e:=144) (n:=20) (by kernel_rfl) (by kernel_rfl) (by kernel_rfl) (by kernel_rfl) (by kernel_rfl) h
 have hne:some (glOf W gls)≠none:=by simp
 have hglob:∀ w:World,(∀ p∈(some (glOf W gls)).getD [],w.heap[p.1]?=some p.2)→tab.glob (some (glOf W gls)).isSome w:=fun w hw=>⟨rfl,glOf_var hw (g:=0) (by decide) g_pow10 hP⟩
 have h0:ExtOk Tryd.prog tab (some (glOf W gls)) libX0 :=
  extOk_cons (ext1_cloneD hne at45 rfl (by kernel_rfl)) (extOk_cons (ext1_cloneD hne at54 rfl (by kernel_rfl)) (extOk_cons (ext1_cloneD hne at55 rfl (by kernel_rfl)) (extOk_cons (ext1_cloneN hne at56 rfl) (extOk_nil hglob))))
 exact extOk_cons (ext1_all hne mine0 (run_sound tabTrue h0) (run_seq tabTrue h0) clones0) h0
end Go.Skm.Prg
