import Derived.Test.YtfmoopdnamdobaaDoorAllX
import Derived.Test.YtfmoopdnamdobaaDoorP12
import Derived.Test.YtfmoopdnamdobaaDoorLine
import Derived.Test.YtfmoopdnamdobaaDoorTabOk
import Derived.Test.YtfmoopdnamdobaaDoorRows
import Derived.Test.YtfmoopdnamdobaaDoorSkmI
import Derived.Test.YtfmoopdnamdobaaDoorSkmH
import Derived.Lib.LaidTab
import Derived.MakeChecks
namespace Go.Skm.Prg
open Go Go.Skm Go.Proofs Go.Shelf
theorem lays169:Lays.n169 Tryd.prog Tryd.lays156_ren:={ Tryd.lays156 with }
theorem aeE {G:Bool→World→Prop}:KF Tryd.prog G 69 [112,114] 5 .str:=acV lays169 Tryd.Builder_Extra_156 [112,114]
theorem Uy:(tab.funcs.all fun p=>Nat.beq p.1 68||(Nat.beq p.1 69||!p.2.cfg.Bd.is))=true:=by kernel_rfl
theorem ajH:bI tab.funcs 68=some acW:=by kernel_rfl
theorem ajI:bI tab.funcs 69=some acX:=by kernel_rfl
theorem Ov {β:Type}:∀ {l:List (Nat × β)} {s:Nat} {x:β},bI l s=some x→(s,x)∈l
 | [],s,x,h=>by simp[bI]at h
 | (k,y)::r,s,x,h=>by
  simp only[bI]at h
  cases e:k==s with
  | true =>
   rw[e]at h
   simp only[cond_true,qOa]at h
   simp only[beq_iff_eq]at e
   subst h e
   simp
  | false =>
   rw[e]at h
   exact List.mem_cons_of_mem _ (Ov h)
theorem aaW:PX Tryd.prog tab:=by
 intro f fi hf hp
 have h:=List.all_eq_true.1 Uy _ (Ov hf)
 simp only[Bool.or_eq_true,qBb]at h
 rcases h with h | h | h
 · have e:f=68:=Nat.eq_of_beq_eq_true h
   subst e
   rw[ajH]at hf
   cases hf
   exact⟨⟨_,rfl⟩,aaX⟩
 · have e:f=69:=Nat.eq_of_beq_eq_true h
   subst e
   rw[ajI]at hf
   cases hf
   exact⟨⟨_,rfl⟩,aeE⟩
 · rw[hp]at h;cases h
theorem PY:bJ Tryd.prog tab:=aeF aaW
theorem acY:∃ i0 z,Tryd.prog.info? 34=some i0∧i0.zero=some z∧i0.size=kR.length∧z.cells.size=kR.length∧i0.bytes≤1000:=by
 have h:(Tryd.prog.info? 34).map (fun i=>(i.zero.map (fun z:Value=>z.cells.size),i.size,decide (i.bytes≤1000)))=some (some 6,6,true):=by kernel_rfl
 cases hi:Tryd.prog.info? 34 with
 | none=>rw[hi]at h;cases h
 | some i =>
  rw[hi]at h
  cases hz:i.zero with
  | none=>rw[Option.map_some,hz]at h;cases h
  | some z =>
   rw[Option.map_some,hz]at h
   simp only[Option.map_some,qOa,Prod.mk.injEq,qDa]at h
   exact⟨i,z,rfl,hz,h.2.1,h.1,h.2.2⟩
theorem aaY:∃ i0 z,Tryd.prog.info? 9=some i0∧i0.zero=some z∧i0.size=1∧z.cells.size=1∧i0.bytes≤1000:=by
 have h:(Tryd.prog.info? 9).map (fun i=>(i.zero.map (fun z:Value=>z.cells.size),i.size,decide (i.bytes≤1000)))=some (some 1,1,true):=by kernel_rfl
 cases hi:Tryd.prog.info? 9 with
 | none=>rw[hi]at h;cases h
 | some i =>
  rw[hi]at h
  cases hz:i.zero with
  | none=>rw[Option.map_some,hz]at h;cases h
  | some z =>
   rw[Option.map_some,hz]at h
   simp only[Option.map_some,qOa,Prod.mk.injEq,qDa]at h
   exact⟨i,z,rfl,hz,h.2.1,h.1,h.2.2⟩
theorem aeG:∃ i0 z,Tryd.prog.info? 31=some i0∧i0.zero=some z∧i0.size=3∧z.cells.size=3∧i0.bytes≤1000:=by
 have h:(Tryd.prog.info? 31).map (fun i=>(i.zero.map (fun z:Value=>z.cells.size),i.size,decide (i.bytes≤1000)))=some (some 3,3,true):=by kernel_rfl
 cases hi:Tryd.prog.info? 31 with
 | none=>rw[hi]at h;cases h
 | some i =>
  rw[hi]at h
  cases hz:i.zero with
  | none=>rw[Option.map_some,hz]at h;cases h
  | some z =>
   rw[Option.map_some,hz]at h
   simp only[Option.map_some,qOa,Prod.mk.injEq,qDa]at h
   exact⟨i,z,rfl,hz,h.2.1,h.1,h.2.2⟩
theorem aeH:∃ i0 z,Tryd.prog.info? 37=some i0∧i0.zero=some z∧i0.size=3∧z.cells.size=3∧i0.bytes≤1000:=by
 have h:(Tryd.prog.info? 37).map (fun i=>(i.zero.map (fun z:Value=>z.cells.size),i.size,decide (i.bytes≤1000)))=some (some 3,3,true):=by kernel_rfl
 cases hi:Tryd.prog.info? 37 with
 | none=>rw[hi]at h;cases h
 | some i =>
  rw[hi]at h
  cases hz:i.zero with
  | none=>rw[Option.map_some,hz]at h;cases h
  | some z =>
   rw[Option.map_some,hz]at h
   simp only[Option.map_some,qOa,Prod.mk.injEq,qDa]at h
   exact⟨i,z,rfl,hz,h.2.1,h.1,h.2.2⟩
theorem YR:CS Tryd.prog tab Tryd.Ah 45 YS 28 34 true kR:=⟨Tryd.RD,rfl,by kernel_rfl,⟨_,rfl⟩,rfl,by kernel_rfl,by kernel_rfl,by kernel_rfl,acY,by decide,fun w=>Tryd.sizeOf34 w⟩
theorem YT:CS Tryd.prog tab Tryd.Ai 54 YU 23 9 false [.str]:=⟨Tryd.RF,rfl,by kernel_rfl,⟨_,rfl⟩,rfl,by kernel_rfl,by kernel_rfl,by kernel_rfl,aaY,by decide,fun w=>Tryd.sizeOf9 w⟩
theorem YV:CS Tryd.prog tab Tryd.Aj 55 YW 24 31 true bZ:=⟨Tryd.RG,rfl,by kernel_rfl,⟨_,rfl⟩,rfl,by kernel_rfl,by kernel_rfl,by kernel_rfl,aeG,by decide,fun w=>Tryd.sizeOf31 w⟩
theorem YX:CS Tryd.prog tab Tryd.Ak 56 YZ 25 37 true dD:=⟨Tryd.RH,rfl,by kernel_rfl,⟨_,rfl⟩,rfl,by kernel_rfl,by kernel_rfl,by kernel_rfl,aeH,by decide,fun w=>Tryd.sizeOf37 w⟩
noncomputable def VT:Ext:=RI [(45,nM true kR),(54,nM false [.str]),(55,nM true bZ),(56,Bf true dD)]
noncomputable def Uz:Ext:=RI [(47,Xf),(45,nM true kR),(54,nM false [.str]),(55,nM true bZ),(56,Bf true dD)]
theorem uq {a:Bool} {ks:List Kd} {xs:List PV} (h:xs.length≤100000):nM a ks [.p (.list a ks xs)] []=some ([.p (.list a ks xs)],[]):=by
 unfold nM
 simp only
 rw[if_pos (by simp[Kd.jy,h])]
theorem Ox {a:Bool} {ks:List Kd} {xs:List PV} (h:xs.length≤100000):Bf a ks [.p (.list a ks xs)] []=some ([.fresh a ks xs],[]):=by
 unfold Bf
 simp only
 rw[if_pos (by simp[Kd.jy,h])]
theorem aaZ:jI VT where
 c45 _ h:=tq (fi:=YS) (s:=nM true kR) (by kernel_rfl) rfl (uq h)
 c54 _ h:=tq (fi:=YU) (s:=nM false [.str]) (by kernel_rfl) rfl (uq h)
 c55 _ h:=tq (fi:=YW) (s:=nM true bZ) (by kernel_rfl) rfl (uq h)
 c56 _ h:=tq (fi:=YZ) (s:=Bf true dD) (by kernel_rfl) rfl (Ox h)
theorem Oy:jI Uz where
 c45 _ h:=tq (fi:=YS) (s:=nM true kR) (by kernel_rfl) rfl (uq h)
 c54 _ h:=tq (fi:=YU) (s:=nM false [.str]) (by kernel_rfl) rfl (uq h)
 c55 _ h:=tq (fi:=YW) (s:=nM true bZ) (by kernel_rfl) rfl (uq h)
 c56 _ h:=tq (fi:=YZ) (s:=Bf true dD) (by kernel_rfl) rfl (Ox h)
theorem acZ:Y0 Uz where
 c47 p hp hv:=tq (fi:=Us) (s:=Xf) aep rfl (aaL p hp hv)
theorem NC {f n:Nat} (hn:(f==n)=false):(n==f)=false:=by
 rw[beq_eq_false_iff_ne]at hn ⊢
 exact fun e=>hn e.symm
theorem aeI:Mine VT:=by
 intro f h
 simp only[ac0,Bool.or_eq_false_iff]at h
 unfold VT RI
 simp only[bI,NC h.1,NC h.2.2.1,NC h.2.2.2.1,NC h.2.2.2.2,cond_false]
theorem VU:Mine Uz:=by
 intro f h
 simp only[ac0,Bool.or_eq_false_iff]at h
 unfold Uz RI
 simp only[bI,NC h.1,NC h.2.1,NC h.2.2.1,NC h.2.2.2.1,NC h.2.2.2.2,cond_false]
theorem Y1:Known Uz:=known Uz VU Oy acZ
open Go.Proofs.YtfmoopdnamdobaaDoor
def Oz : List (String × DataW Unit) := [("math/bits.deBruijn32tab", Rows.laid_math_bits_deBruijn32tab), ("math/bits.deBruijn64tab", Rows.laid_math_bits_deBruijn64tab), ("internal/strconv.uint64pow10", Rows.laid_internal_strconv_uint64pow10)]
theorem UA:Rows.laid_internal_strconv_uint64pow10 (H:=Unit)=Lib.tabData .u64 Lib.pow10Tab:=by kernel_rfl
def gls:List Nat:=[0]
theorem VW : Tryd.prog.globalNamed "internal/strconv.uint64pow10" = some 0 := by kernel_rfl
theorem ac1 {W:World} (hL:laidMetH Tryd.prog Oz W) (_hS:W.ShapedOpen Tryd.prog):Ae Tryd.prog tab (some (RJ W gls)) Uz:=by
 rw[MakeChecks.laidMetH_plain _ _ _ (by kernel_rfl)]at hL
 have hP : Lib.TabIs Tryd.prog W "internal/strconv.uint64pow10" .u64 Lib.pow10Tab := by
  have h : laidMet Tryd.prog (("internal/strconv.uint64pow10", Rows.laid_internal_strconv_uint64pow10) :: Oz.drop 3) W := OA 2 hL
  rw[UA]at h
  exact Lib.tabIs_of_head VW (t:=156) (e:=144) (n:=20) (by kernel_rfl) (by kernel_rfl) (by kernel_rfl) (by kernel_rfl) (by kernel_rfl) h
 have hne:some (RJ W gls)≠none:=by simp
 have aeJ:∀ w:World,(∀ p∈(some (RJ W gls)).getD [],w.heap[p.1]?=some p.2)→tab.glob (some (RJ W gls)).isSome w:=fun w hw=>⟨rfl,Y3 hw (g:=0) (by decide) VW hP⟩
 have h0:Ae Tryd.prog tab (some (RJ W gls)) VT :=
  uZ (Bg hne YR rfl (by kernel_rfl)) (uZ (Bg hne YT rfl (by kernel_rfl)) (uZ (Bg hne YV rfl (by kernel_rfl)) (uZ (RN hne YX rfl) (Xj aeJ))))
 exact uZ (YC hne aeI (OB PY h0) (run_seq PY h0) aaZ) h0
end Go.Skm.Prg
