/-
  A machine that runs this program's functions on pure values, and the proof that what it returns is true of the program; no condition beside the hypotheses of each.
-/
import Derived.Test.YtipkmkmngcjdbaaGreatDoorSkmD
import Derived.RangeFuncLeaves
import Derived.ProofKit
namespace Go.Skm
section
variable {P:Program} {T:Tab} {w0:Base} {Pr M0 M:Nat→Prop} {β β0:Nat→Option (Nat × Nat)} {hp0:Heap} {st st':St} {a:Act} {w:World}
def resultOf (tmps:Array Value):ResultVar→Sem Value
 | .tmp t=>pure (tmps.getD t undef)
 | .cell a t=>do loadVar t (← asAddr (tmps.getD a undef))
theorem resOf_ok (ok:TabOk P T) (r:Rel w0 Pr M0 M β st a w) {x:ResultVar} {v:AV} (h:resOf T st.env (look st.heap) x=some v):∃ c,(resultOf a.tmps x).run P w=.ok c w∧AR w M β (look st.heap) v c:=by
 cases x with
 | tmp t =>
  simp only[resOf,Option.some.injEq]at h
  subst h
  exact⟨_,by simp[resultOf],r.slot t⟩
 | cell t ty =>
  simp only[resOf]at h
  split at h
  · rename_i s n hs hn
    split at h
    · rename_i cs hl
      have hx:=r.slot t
      rw[hs]at hx
      have hst:(stepLoad T (look st.heap) ty (.ptr s 0 0)).run some=some { val:=v }:=by
       simp only[stepLoad,hn,hl,h];rfl
      obtain⟨v',c,h1,h2,h3⟩:=(sim_load ok (h':=look st.heap) (fun _ _ h=>h) r.heap hx).sim Eff some _ hst
      cases h1
      refine⟨c,?_,h2⟩
      generalize hc:a.tmps.getD t undef=p at hx h3
      cases hx with
      | ptrB _ _ cs' b o p1 p2 =>
       simp only[Instr.loadAt,Instr.sureAddr]at h3
       simp only[resultOf,hc,asAddr]
       simpa using h3
      | ptrA _ _ _ sa ks xs b o p1 p2 p3=>rw[hl]at p1;cases p1
      | ptrT _ _ _ _ _ b p1 p2=>rw[hl]at p1;cases p1
    · cases h
  · cases h
theorem resAll_ok (ok:TabOk P T) (r:Rel w0 Pr M0 M β st a w):∀ {l:List ResultVar} {vs:List AV},resAll T st.env (look st.heap) l=some vs→∃ cs,(l.mapM (resultOf a.tmps)).run P w=.ok cs w∧ListR w M β (look st.heap) vs cs
 | [],vs,h=>by
  simp[resAll]at h;subst h
  exact⟨[],by simp,rfl,fun i x c h=>by simp at h⟩
 | x::l,vs,h=>by
  simp only[resAll]at h
  split at h
  · rename_i v vs' h1 h2
    cases h
    obtain⟨c,g1,g2⟩:=resOf_ok ok r h1
    obtain⟨cs,g3,g4⟩:=resAll_ok ok r h2
    refine⟨c::cs,by simp[g1,g3],by simp[g4.1],fun i y d hy hd=>?_⟩
    cases i with
    | zero=>simp at hy hd;subst hy hd;exact g2
    | succ i=>simp at hy hd;exact g4.2 i y d hy hd
  · cases h
theorem run_results {fn:Func} {tmps:Array Value} {cs:List Value} (h:(fn.results.toList.mapM (resultOf tmps)).run P w=.ok cs w):(results fn tmps).run P w=.ok (wrapV cs) w:=by
 have e:results fn tmps=(do let vs ← fn.results.mapM (resultOf tmps);pure (if h:vs.size=1 then vs[0] else .tuple vs)):=rfl
 rw[e,Array.mapM_eq_mapM_toList]
 simp only[map_eq_pure_bind,bind_assoc,pure_bind,Sem.run_bind,h,Result.andThen_ok,Sem.run_pure]
 congr 1
 match cs with
 | []=>rfl
 | [c]=>rfl
 | _::_::_=>rfl
theorem dropAll_sub {ss:List Nat} {hp:Heap} {s:Nat} {b:Blk} (h:look (dropAll hp ss) s=some b):look hp s=some b∧s ∉ ss:=by
 rw[look_dropAll]at h
 by_cases hm:s∈ss
 · rw[if_pos hm]at h;cases h
 · rw[if_neg hm]at h;exact⟨h,hm⟩
theorem deep1_sites {h:Nat→Option Blk} {v:AV} {x:PV} {ss:List Nat} (hd:deep1 h v=some (x,ss)):∀ s∈ss,(h s).isSome=true:=by
 unfold deep1 at hd
 split at hd
 · cases hd;simp
 · split at hd
   · rename_i hs;cases hd;simp[hs]
   · cases hd
 · split at hd
   · rename_i hs
     split at hd
     · cases hd;simp[hs]
     · cases hd
   · cases hd
 · split at hd
   · rename_i hs;cases hd;simp[hs]
   · cases hd
 · cases hd
theorem deeps1_sites {h:Nat→Option Blk}:∀ {vs:List AV} {xs:List PV} {ss:List Nat},deeps1 h vs=some (xs,ss)→∀ s∈ss,(h s).isSome=true
 | [],xs,ss,hd=>by simp[deeps1]at hd;obtain⟨_,rfl⟩:=hd;simp
 | v::r,xs,ss,hd=>by
  simp only[deeps1]at hd
  split at hd
  · rename_i h1 h2
    cases hd
    intro s hs
    rcases List.mem_append.1 hs with hs | hs
    · exact deep1_sites h1 s hs
    · exact deeps1_sites h2 s hs
  · cases hd
theorem deepC_sites {h:Nat→Option Blk} {v:AV} {x:PV} {ss:List Nat} (hd:deepC h v=some (x,ss)):∀ s∈ss,(h s).isSome=true:=by
 unfold deepC at hd
 split at hd
 · split at hd
   · rename_i hs
     split at hd
     · rename_i h1
       cases hd
       intro s hs'
       rcases List.mem_cons.1 hs' with rfl | hs'
       · rw[hs];rfl
       · exact deeps1_sites h1 s hs'
     · cases hd
   · cases hd
 · exact deep1_sites hd
theorem deepCs_sites {h:Nat→Option Blk}:∀ {vs:List AV} {xs:List PV} {ss:List Nat},deepCs h vs=some (xs,ss)→∀ s∈ss,(h s).isSome=true
 | [],xs,ss,hd=>by simp[deepCs]at hd;obtain⟨_,rfl⟩:=hd;simp
 | v::r,xs,ss,hd=>by
  simp only[deepCs]at hd
  split at hd
  · rename_i h1 h2
    cases hd
    intro s hs
    rcases List.mem_append.1 hs with hs | hs
    · exact deepC_sites h1 s hs
    · exact deepCs_sites h2 s hs
  · cases hd
theorem deep_sites {h:Nat→Option Blk} {v:AV} {x:PV} {ss:List Nat} (hd:deep h v=some (x,ss)):∀ s∈ss,(h s).isSome=true:=by
 unfold deep at hd
 split at hd
 · split at hd
   · rename_i h1;cases hd;exact deeps1_sites h1
   · cases hd
 · split at hd
   · rename_i h1;cases hd;exact deepCs_sites h1
   · cases hd
 · exact deepC_sites hd
mutual
theorem AR.flat {w:World} {M M':Nat→Prop} {β:Nat→Option (Nat × Nat)} {h:Nat→Option Blk}:∀ {v:AV} {c:Value},flatL v=true→AR w M β h v c→AR w M' β h v c
 | .p v,c,hf,hv=>by
  cases hv with
  | p _ _ hv=>cases v<;>simp[flatL]at hf<;>(cases hv;exact .p _ _ (by constructor))
 | .undef,c,_,hv=>.undef c
 | .slice s z o l,c,_,hv=>by
  cases hv with
  | slice _ _ _ a ks xs b o cap h1 hl hb hcap hr=>exact .slice _ _ _ a ks xs b o cap h1 hl hb hcap hr
  | sliceE _ _ a ks xs base h1 hl=>exact .sliceE _ _ a ks xs base h1 hl
 | .bslice s o l,c,_,hv=>by
  cases hv with
  | bslice _ _ _ cs b o cap h1 hl hb hcap=>exact .bslice _ _ _ cs b o cap h1 hl hb hcap
  | bsliceE _ _ cs base h1 hl=>exact .bsliceE _ _ cs base h1 hl
 | .ptr s i o,c,_,hv=>by
  cases hv with
  | ptrB _ _ cs b o h1 hb=>exact .ptrB _ _ cs b o h1 hb
  | ptrA _ _ _ a ks xs b o h1 hi hb=>exact .ptrA _ _ _ a ks xs b o h1 hi hb
  | ptrT _ _ t c0 c1 b h1 hb=>exact .ptrT _ _ t c0 c1 b h1 hb
 | .fn f cs,c,hf,hv=>by
  cases hv with
  | fn _ _ vs hn hc=>exact .fn f cs vs hn fun i c hi=>AR.flats (by simpa [flatL] using hf) i c hi (hc i c hi)
 | .agg cs,c,hf,hv=>by
  cases hv with
  | agg _ vs hn hl hc=>exact .agg cs vs hn hl fun i c hi=>AR.flats (by simpa [flatL] using hf) i c hi (hc i c hi)
 | .tup cs,c,hf,hv=>by
  cases hv with
  | tup _ vs hn hc=>exact .tup cs vs hn fun i c hi=>AR.flats (by simpa [flatL] using hf) i c hi (hc i c hi)
 | .lptr ..,_,hf,_=>by simp[flatL]at hf
 | .fresh ..,_,hf,_=>by simp[flatL]at hf
 | .yld,_,hf,_=>by simp[flatL]at hf
 | .mref _,_,hf,_=>by simp[flatL]at hf
theorem AR.flats {w:World} {M M':Nat→Prop} {β:Nat→Option (Nat × Nat)} {h:Nat→Option Blk}:∀ {vs:List AV},flatLs vs=true→∀ (i:Nat) (v:AV) {c:Value},vs[i]?=some v→AR w M β h v c→AR w M' β h v c
 | [],_,i,v,c,hi,_=>by simp at hi
 | x::r,hf,0,v,c,hi,hv=>by
  simp only[flatLs,Bool.and_eq_true]at hf
  simp at hi;subst hi
  exact AR.flat hf.1 hv
 | x::r,hf,i+1,v,c,hi,hv=>by
  simp only[flatLs,Bool.and_eq_true]at hf
  exact AR.flats hf.2 i v (by simpa using hi) hv
end
theorem flatH_sub {h:Nat→Option Blk} {s:Nat} {b:Blk} (hb:flatH h s=some b):h s=some b:=by
 unfold flatH at hb
 split at hb
 · rename_i a ks xs hs
   cases hc:ks.all Kd.flat with
   | false=>rw[hc]at hb;cases hb
   | true=>rw[hc]at hb;cases hb;exact hs
 · rename_i cs hs
   cases hc:flatLs cs with
   | false=>rw[hc]at hb;cases hb
   | true=>rw[hc]at hb;cases hb;exact hs
 · cases hb
theorem flatH_live {hp:Heap} {s:Nat} (h:(flatH (look hp) s).isSome=true):(look hp s).isSome=true:=by
 obtain⟨b,hb⟩:=Option.isSome_iff_exists.1 h
 rw[flatH_sub hb];rfl
theorem BR.flatM {w:World} {M M':Nat→Prop} {β:Nat→Option (Nat × Nat)} {h h':Nat→Option Blk} {s:Nat} {b:Blk} (hb:flatH h' s=some b) (hr:BR w M β h s b):BR w M' β h s b:=by
 unfold flatH at hb
 split at hb
 · rename_i a ks xs _
   cases hc:ks.all Kd.flat with
   | false=>rw[hc]at hb;cases hb
   | true =>
    rw[hc]at hb;cases hb
    cases hr with
    | arrE=>exact .arrE _ _
    | arr _ _ _ b o C e' fr g1 g2 g3 g4 g5 g6 =>
     refine .arr _ _ _ b o C e' fr g1 g2 g3 g4 g5 fun i x j y hx hy=>?_
     have hk:=kindsOk_get (shapeOk_cells (g5 x (List.mem_of_getElem? hx)))
     have hj:j<ks.length:=by
      have:=(List.getElem?_eq_some_iff.1 hy).1
      have:=hk.1
      omega
     exact(g6 i x j y hx hy).flat1 (List.all_eq_true.1 hc ks[j] (by simp)) (hk.2 j ks[j] y (by simp) hy)
 · rename_i cs _
   cases hc:flatLs cs with
   | false=>rw[hc]at hb;cases hb
   | true =>
    rw[hc]at hb;cases hb
    cases hr with
    | box _ b o C e fr g1 g2 g3 g4 g5 g6=>exact .box cs b o C e fr g1 g2 g3 g4 g5 fun j c hj=>AR.flats hc j c hj (g6 j c hj)
 · cases hb
theorem deep_flat {w : World} {M : Nat → Prop} {β : Nat → Option (Nat × Nat)} {hp hp' : Heap} (hh : ∀ s b,look hp s = some b → BR w M β (look hp) s b) (hsub : ∀ s b,look hp' s = some b → look hp s = some b) {v : AV} {x : PV} {ss : List Nat} {c : Value}
    (hf:flatL v=true) (hd:deep (flatH (look hp')) v=some (x,ss)) (hv:AR w M β (look hp) v c):VR w (Mplus (fun _=>False) β ss) x c :=
  (deep_ok (M:=fun _=>False) (h':=flatH (look hp')) (fun s b h=>(hh s b (hsub s b (flatH_sub h))).flatM h) (fun s b h=>hsub s b (flatH_sub h)) hd (hv.flat hf)).1
theorem unsnoc_eq {β:Type}:∀ {l:List β} {r:List β} {x:β},unsnoc l=some (r,x)→l=r++[x]
 | [],r,x,h=>by cases h
 | [y],r,x,h=>by simp[unsnoc]at h;obtain⟨rfl,rfl⟩:=h;rfl
 | y::z::l,r,x,h=>by
  simp only[unsnoc]at h
  split at h
  · rename_i r' x' e
    simp only[Option.some.injEq,Prod.mk.injEq]at h
    obtain⟨rfl,rfl⟩:=h
    rw[unsnoc_eq e];rfl
  · cases h
theorem aggCells_ok {w:World} {M:Nat→Prop} {β:Nat→Option (Nat × Nat)} {h:Nat→Option Blk} {v:AV} {c:Value} {cs:List AV} (hv:AR w M β h v c) (hc:v.aggCells=some cs):∃ vs,c=.agg vs∧vs.size=cs.length∧∀ (i:Nat) (x:AV),cs[i]?=some x→AR w M β h x (vs.getD i undef):=by
 unfold AV.aggCells at hc
 split at hc
 · rename_i ps
   cases hc
   cases hv
   rename_i hv
   cases hv with
   | agg _ vs hn _ hh =>
    refine⟨vs,rfl,by simp[hn],fun i x hx=>?_⟩
    rw[List.getElem?_map]at hx
    cases hp:ps[i]? with
    | none=>rw[hp]at hx;cases hx
    | some y =>
     rw[hp]at hx
     simp only[Option.map_some,Option.some.injEq]at hx
     subst hx
     exact .p _ _ (hh i y hp)
 · rename_i ps
   cases hc
   cases hv with
   | agg _ vs hn _ hh=>exact⟨vs,rfl,hn,hh⟩
 · cases hc
theorem fresh_ok {w : World} {M M' : Nat → Prop} {β : Nat → Option (Nat × Nat)} {h : Nat → Option Blk} (hM : ∀ b,M b → M' b) {s z off len : Nat} {a : Bool} {ks : List Kd} {ys : List PV} {c : Value} (hs' : h s = some (.arr a ks ys)) (hbr : BR w M β h s (.arr a ks ys)) (hv : AR w M β h (.slice s z off len) c) :
    ∃ p:Option (Nat × Nat),BR w M' (fun _=>p) (fun _=>some (.arr a ks ((ys.drop off).take len))) 0 (.arr a ks ((ys.drop off).take len)) ∧
     AR w M' (fun _=>p) (fun _=>some (.arr a ks ((ys.drop off).take len))) (.slice 0 ks.length 0 ((ys.drop off).take len).length) c∧(∀ b o,p=some (b,o)→∃ o0,β s=some (b,o0)):=by
  cases hv with
  | sliceE _ _ a' ks' xs' base h1 h2 =>
   rw[hs']at h1;cases h1
   refine⟨none,?_,?_,fun b o h=>by cases h⟩
   · simp only[List.take_zero];exact .arrE _ _
   · simp only[List.take_zero,List.length_nil]
     exact .sliceE 0 0 _ _ [] base rfl (by simp)
  | slice _ _ _ a' ks' xs' b o cap h1 h2 h3 h4 h5 =>
   rw[hs']at h1;cases h1
   have hlen:((ys.drop off).take len).length=len:=by simp;omega
   refine⟨some (b,o+off*ks.length),?_,?_,fun b' o' h=>by cases h;exact⟨o,h3⟩⟩
   · cases hbr with
     | arrE=>simp only[List.drop_nil,List.take_nil];exact .arrE _ _
     | arr _ _ _ b' o' C e' fr g1 g2 g3 g4 g5 g6 =>
      rw[h3]at g1;cases g1
      refine .arr _ _ _ b _ C e' fr rfl g2 ?_ g4 (fun x hx=>g5 x (List.mem_of_mem_drop (List.mem_of_mem_take hx))) fun i x j c hx hj=>?_
      · rw[hlen,Nat.add_assoc,← Nat.add_mul]
        exact Nat.le_trans (Nat.add_le_add_left (Nat.mul_le_mul_right _ (by omega)) _) g3
      · have hi : i < len := by
          have:=(List.getElem?_eq_some_iff.1 hx).1
          omega
        rw[List.getElem?_take,if_pos hi,List.getElem?_drop]at hx
        have:=(g6 (off+i) x j c hx hj).mono (M':=M') fun b hb=>⟨hM b hb,rfl⟩
        rw[Nat.add_mul]at this
        rwa[show o+off*ks.length+i*ks.length=o+(off*ks.length+i*ks.length) from by omega]
   · rw[hlen]
     have:=AR.slice (M:=M') (β:=fun _=>some (b,o+off*ks.length)) (h:=fun _=>some (.arr a ks ((ys.drop off).take len))) 0 0 len a ks ((ys.drop off).take len) b (o+off*ks.length) cap rfl (by rw[hlen];omega) rfl h4 (by
      refine h5.mono ?_
      rw[Nat.zero_add,Nat.add_assoc,← Nat.add_mul];exact Nat.le_refl _)
     rwa[Nat.zero_mul,Nat.add_zero]at this
theorem retVals_ok (r : Rel w0 Pr M0 M β st a w) {hA : Nat → Option Blk} {βA : Nat → Option (Nat × Nat)} (hend : ∀ j blk,look st.heap (argSite + j) = some blk → hA (argSite + j) = some blk ∧ βA (argSite + j) = β (argSite + j)) :
    ∀ {ts:List TypeId} {ms:List RetMode} {vs:List AV} {cs:List Value} {rs:List AV} {hp:Heap},retVals T hp ms ts vs=some rs→(∀ s b,look hp s=some b→look st.heap s=some b)→ListR w M β (look st.heap) vs cs →
    ∃ (S:List Nat) (ps:List (Option (Nat × Nat))),ResL T w (Mplus M β S) βA hA ms ts rs cs ps∧(∀ s∈S,(look hp s).isSome=true∧s<argSite) ∧
     (∀ b o,some (b,o)∈ps→∃ s o0,(look hp s).isSome=true∧s ∉ S∧s<argSite∧β s=some (b,o0))∧(retsFlat T ms ts=true→ResL T w (Mplus (fun _=>False) β S) βA hA ms ts rs cs ps)
  | [],ms,[],cs,rs,hp,h,_,hl=>by
   simp[retVals]at h;subst h
   have:cs=[]:=by have:=hl.1;simpa using this.symm
   subst this
   exact⟨[],[],.nil ms,by simp,by simp,fun _=>.nil ms⟩
  | t::ts,ms,v::vs,[],rs,hp,h,_,hl=>by have:=hl.1;simp at this
  | t::ts,ms,v::vs,c::cs,rs,hp,h,hsub,hl=>by
   simp only[retVals]at h
   obtain⟨hv,hls⟩:=hl.cons
   split at h
   · rename_i x ss hx
     split at h
     · rename_i xs hxs
       cases h
       have hsub':∀ s b,look (dropAll hp ss) s=some b→look st.heap s=some b:=fun s b h=>hsub s b (dropAll_sub h).1
       obtain⟨S,ps,k1,k2,k3,k4⟩:=retVals_ok r hend hxs hsub' hls
       have upF:∀ (ss:List Nat) b,Mplus (fun _=>False) β S b→Mplus (fun _=>False) β (ss++S) b:=fun ss b hb=>hb.imp id fun ⟨s,o,h1,h2⟩=>⟨s,o,by simp[h1],h2⟩
       have live:∀ s,(look (dropAll hp ss) s).isSome=true→(look hp s).isSome=true∧s ∉ ss:=fun s h=>by
        obtain⟨b,hb⟩:=Option.isSome_iff_exists.1 h
        obtain⟨g1,g2⟩:=dropAll_sub hb
        exact⟨by rw[g1];rfl,g2⟩
       revert hx
       generalize hm:ms.headD .deep=m
       intro hx
       have plain : ∀ (x' : AV),x = x' → ResR T w (Mplus M β S) βA hA (ms.headD .deep) t x' c none → (retFlat T (ms.headD .deep) t = true → ResR T w (Mplus (fun _ => False) β S) βA hA (ms.headD .deep) t x' c none) → ∃ (S : List Nat) (ps : List (Option (Nat × Nat))),ResL T w (Mplus M β S) βA hA ms (t::ts) (x::xs) (c::cs) ps ∧ (∀ s ∈ S,(look hp s).isSome = true ∧ s < argSite) ∧
           (∀ b o,some (b,o)∈ps→∃ s o0,(look hp s).isSome=true∧s ∉ S∧s<argSite∧β s=some (b,o0))∧(retsFlat T ms (t::ts)=true→ResL T w (Mplus (fun _=>False) β S) βA hA ms (t::ts) (x::xs) (c::cs) ps):=by
         intro x' e hr hrF
         subst e
         refine⟨S,none::ps,.cons ms t ts x xs c cs none ps hr k1 (fun b o o' h=>by cases h),fun s hs=>⟨(live s (k2 s hs).1).1,(k2 s hs).2⟩,fun b o hb=>?_,fun hf=>by
          simp only[retsFlat,Bool.and_eq_true]at hf
          exact .cons ms t ts x xs c cs none ps (hrF hf.1) (k4 hf.2) (fun b o o' h=>by cases h)⟩
         rcases List.mem_cons.1 hb with hb | hb
         · cases hb
         · obtain⟨s,o0,q1,q2,q3,q4⟩:=k3 b o hb
           exact⟨s,o0,(live s q1).1,q2,q3,q4⟩
       cases m with
       | deep =>
        simp only[retVal]at hx
        split at hx
        · rename_i y ss' hd
          cases hc:shapeOk (shapeT T t).1 (shapeT T t).2 y&&ss'.all (fun s=>Nat.blt s 100000) with
          | false=>rw[hc]at hx;cases hx
          | true =>
           rw[hc]at hx
           simp only[cond_true,Option.some.injEq,Prod.mk.injEq]at hx
           obtain⟨rfl,rfl⟩:=hx
           simp only[Bool.and_eq_true]at hc
           obtain⟨d1,d2⟩:=deep_ok (M:=M) (β:=β) (fun s b h=>r.heap s b (hsub s b h)) hsub hd hv
           have hlt:∀ s∈ss',s<argSite:=fun s hs=>Nat.le_of_ble_eq_true (List.all_eq_true.1 hc.2 s hs)
           have hlive:∀ s∈ss',(look hp s).isSome=true:=deep_sites hd
           have up:∀ b,Mplus M β S b→Mplus M β (ss'++S) b:=fun b hb=>hb.imp id fun ⟨s,o,h1,h2⟩=>⟨s,o,by simp[h1],h2⟩
           have hd1:ResR T w (Mplus M β (ss'++S)) βA hA .deep t (.p y) c none:=.deep t y c hc.1 (d1.mono fun b hb=>⟨hb.imp id fun ⟨s,o,h1,h2⟩=>⟨s,o,by simp[h1],h2⟩,rfl⟩)
           refine⟨ss'++S,none::ps,.cons ms t ts _ xs c cs none ps ?_ (k1.mono up) (fun b o o' h=>by cases h),fun s hs=>?_,fun b o hb=>?_,fun hf=>?_⟩
           · rw[hm]
             exact hd1
           · rcases List.mem_append.1 hs with hs | hs
             · exact⟨hlive s hs,hlt s hs⟩
             · exact⟨(live s (k2 s hs).1).1,(k2 s hs).2⟩
           · rcases List.mem_cons.1 hb with hb | hb
             · cases hb
             · obtain⟨s,o0,q1,q2,q3,q4⟩:=k3 b o hb
               exact⟨s,o0,(live s q1).1,by simp[(live s q1).2,q2],q3,q4⟩
           · simp only[retsFlat,Bool.and_eq_true]at hf
             refine .cons ms t ts _ xs c cs none ps ?_ ((k4 hf.2).mono (upF _)) (fun b o o' h=>by cases h)
             have hf1:=hf.1
             rw[hm]at hf1 ⊢
             exact hd1.flat hf1 (.inl rfl)
        · cases hx
       | fresh =>
        simp only[retVal]at hx
        split at hx
        · rename_i e hu
          split at hx
          · rename_i s z off len
            split at hx
            · rename_i sa ks ys hs
              cases hc:sa==(shapeT T e).1&&Kd.beqs ks (shapeT T e).2&&Nat.blt s 100000 with
              | false=>rw[hc]at hx;cases hx
              | true =>
               rw[hc]at hx
               simp only[cond_true,Option.some.injEq,Prod.mk.injEq]at hx
               obtain⟨rfl,rfl⟩:=hx
               simp only[Bool.and_eq_true,beq_iff_eq]at hc
               obtain⟨⟨rfl,hks⟩,hlt⟩:=hc
               have hks:=Kd.beqs_eq _ _ hks
               subst hks
               have hlt:s<argSite:=Nat.le_of_ble_eq_true hlt
               have hs':=hsub _ _ hs
               have hbr:=r.heap s _ hs'
               obtain ⟨p,hp1,hp2,hp3⟩ : ∃ p : Option (Nat × Nat),BR w (Mplus M β S) (fun _ => p) (fun _ => some (.arr (shapeT T e).1 (shapeT T e).2 ((ys.drop off).take len))) 0 (.arr (shapeT T e).1 (shapeT T e).2 ((ys.drop off).take len)) ∧
                   AR w (Mplus M β S) (fun _=>p) (fun _=>some (.arr (shapeT T e).1 (shapeT T e).2 ((ys.drop off).take len))) (.slice 0 (shapeT T e).2.length 0 ((ys.drop off).take len).length) c∧(∀ b o,p=some (b,o)→∃ o0,β s=some (b,o0)):=by
                 cases hv with
                 | sliceE _ _ a' ks' xs' base h1 h2 =>
                  refine⟨none,?_,?_,fun b o h=>by cases h⟩
                  · simp only[List.take_zero];exact .arrE _ _
                  · simp only[List.take_zero,List.length_nil]
                    exact .sliceE 0 0 _ _ [] base rfl (by simp)
                 | slice _ _ _ a' ks' xs' b o cap h1 h2 h3 h4 h5 =>
                  rw[hs']at h1;cases h1
                  have hlen:((ys.drop off).take len).length=len:=by simp;omega
                  refine⟨some (b,o+off*(shapeT T e).2.length),?_,?_,fun b' o' h=>by cases h;exact⟨o,h3⟩⟩
                  · cases hbr with
                    | arrE=>simp only[List.drop_nil,List.take_nil];exact .arrE _ _
                    | arr _ _ _ b' o' C e' fr g1 g2 g3 g4 g5 g6 =>
                     rw[h3]at g1;cases g1
                     refine .arr _ _ _ b _ C e' fr rfl g2 ?_ g4 (fun x hx=>g5 x (List.mem_of_mem_drop (List.mem_of_mem_take hx))) fun i x j c hx hj=>?_
                     · rw[hlen,Nat.add_assoc,← Nat.add_mul]
                       exact Nat.le_trans (Nat.add_le_add_left (Nat.mul_le_mul_right _ (by omega)) _) g3
                     · have hi : i < len := by
                         have:=(List.getElem?_eq_some_iff.1 hx).1
                         omega
                       rw[List.getElem?_take,if_pos hi,List.getElem?_drop]at hx
                       have:=(g6 (off+i) x j c hx hj).mono (M':=Mplus M β S) fun b hb=>⟨.inl hb,rfl⟩
                       rw[Nat.add_mul]at this
                       rwa[show o+off*(shapeT T e).2.length+i*(shapeT T e).2.length=o+(off*(shapeT T e).2.length+i*(shapeT T e).2.length) from by omega]
                  · rw[hlen]
                    have:=AR.slice (M:=Mplus M β S) (β:=fun _=>some (b,o+off*(shapeT T e).2.length)) (h:=fun _=>some (.arr (shapeT T e).1 (shapeT T e).2 ((ys.drop off).take len))) 0 0 len (shapeT T e).1 (shapeT T e).2 ((ys.drop off).take len) b (o+off*(shapeT T e).2.length) cap rfl (by rw[hlen];omega) rfl h4 (by
                     refine h5.mono ?_
                     rw[Nat.zero_add,Nat.add_assoc,← Nat.add_mul];exact Nat.le_refl _)
                    rwa[Nat.zero_mul,Nat.add_zero]at this
               have hsl:(look hp s).isSome=true:=by rw[hs];rfl
               have hfr:ResR T w (Mplus M β S) βA hA .fresh t (.fresh (shapeT T e).1 (shapeT T e).2 ((ys.drop off).take len)) c p:=.fresh t e _ c p hu hp1 hp2
               have hap:∀ b o o',p=some (b,o)→some (b,o') ∉ ps:=fun b o o' e1 e2=>by
                obtain⟨o0,q0⟩:=hp3 b o e1
                obtain⟨s',o0',q1,q2,q3,q4⟩:=k3 b o' e2
                obtain⟨g1,g2⟩:=live s' q1
                obtain⟨blk,hb⟩:=Option.isSome_iff_exists.1 g1
                have:=r.inj s' s b o0' o0 (by rw[hsub _ _ hb];rfl) (by rw[hs'];rfl) q4 q0
                exact g2 (by simp[this])
               refine⟨S,p::ps,.cons ms t ts _ xs c cs p ps ?_ k1 hap,fun s' hs'=>⟨(live s' (k2 s' hs').1).1,(k2 s' hs').2⟩,fun b o hb=>?_,fun hf=>?_⟩
               · rw[hm];exact hfr
               · rcases List.mem_cons.1 hb with hb | hb
                 · obtain⟨o0,q0⟩:=hp3 b o hb.symm
                   exact⟨s,o0,hsl,fun hS=>(live s (k2 s hS).1).2 (by simp),hlt,q0⟩
                 · obtain⟨s',o0,q1,q2,q3,q4⟩:=k3 b o hb
                   exact⟨s',o0,(live s' q1).1,q2,q3,q4⟩
               · simp only[retsFlat,Bool.and_eq_true]at hf
                 refine .cons ms t ts _ xs c cs p ps ?_ (k4 hf.2) hap
                 have hf1:=hf.1
                 rw[hm]at hf1 ⊢
                 exact hfr.flat hf1 (.inr (.inl rfl))
            · cases hx
          · simp only[Option.some.injEq,Prod.mk.injEq]at hx
            obtain⟨rfl,rfl⟩:=hx
            have hc:c=.slice none 0 0:=by cases hv;rename_i hv;cases hv;rfl
            subst hc
            have hne:∀ M,ResR T w M βA hA (ms.headD .deep) t (.fresh (shapeT T e).1 (shapeT T e).2 []) (.slice none 0 0) none:=fun M=>by
             rw[hm];exact .fresh t e [] _ none hu (.arrE _ _) (.sliceE 0 0 _ _ [] none rfl (by simp))
            exact plain _ rfl (hne _) fun _=>hne _
          · cases hx
        · cases hx
       | nilF=>simp[retVal]at hx
       | fnAny =>
        simp only[retVal]at hx
        split at hx
        · rename_i f ys ss' hd
          cases hc:ss'.all (fun s=>Nat.blt s 100000) with
          | false=>rw[hc]at hx;cases hx
          | true =>
           rw[hc]at hx
           simp only[cond_true,Option.some.injEq,Prod.mk.injEq]at hx
           obtain⟨rfl,rfl⟩:=hx
           obtain⟨d1,d2⟩:=deep_ok (M:=M) (β:=β) (fun s b h=>r.heap s b (hsub s b h)) hsub hd hv
           have hlt:∀ s∈ss',s<argSite:=fun s hs=>Nat.le_of_ble_eq_true (List.all_eq_true.1 hc s hs)
           have hlive:∀ s∈ss',(look hp s).isSome=true:=deep_sites hd
           have up:∀ b,Mplus M β S b→Mplus M β (ss'++S) b:=fun b hb=>hb.imp id fun ⟨s,o,h1,h2⟩=>⟨s,o,by simp[h1],h2⟩
           refine⟨ss'++S,none::ps,.cons ms t ts _ xs c cs none ps ?_ (k1.mono up) (fun b o o' h=>by cases h),fun s hs=>?_,fun b o hb=>?_,fun hf=>?_⟩
           · rw[hm]
             exact .fnAny f t ys c (d1.mono fun b hb=>⟨hb.imp id fun ⟨s,o,h1,h2⟩=>⟨s,o,by simp[h1],h2⟩,rfl⟩)
           · rcases List.mem_append.1 hs with hs | hs
             · exact⟨hlive s hs,hlt s hs⟩
             · exact⟨(live s (k2 s hs).1).1,(k2 s hs).2⟩
           · rcases List.mem_cons.1 hb with hb | hb
             · cases hb
             · obtain⟨s,o0,q1,q2,q3,q4⟩:=k3 b o hb
               exact⟨s,o0,(live s q1).1,by simp[(live s q1).2,q2],q3,q4⟩
           · simp only[retsFlat,Bool.and_eq_true,hm,retFlat]at hf
             exact absurd hf.1 (by simp)
        · cases hx
       | func g qs =>
        simp only[retVal]at hx
        split at hx
        · rename_i f ys ss' hd
          cases hc:(f==g&&capsOk qs ys)&&ss'.all (fun s=>Nat.blt s 100000) with
          | false=>rw[hc]at hx;cases hx
          | true =>
           rw[hc]at hx
           simp only[cond_true,Option.some.injEq,Prod.mk.injEq]at hx
           obtain⟨rfl,rfl⟩:=hx
           simp only[Bool.and_eq_true,beq_iff_eq]at hc
           obtain⟨⟨rfl,hcq⟩,hcs⟩:=hc
           obtain⟨d1,d2⟩:=deep_ok (M:=M) (β:=β) (fun s b h=>r.heap s b (hsub s b h)) hsub hd hv
           have hlt:∀ s∈ss',s<argSite:=fun s hs=>Nat.le_of_ble_eq_true (List.all_eq_true.1 hcs s hs)
           have hlive:∀ s∈ss',(look hp s).isSome=true:=deep_sites hd
           have up:∀ b,Mplus M β S b→Mplus M β (ss'++S) b:=fun b hb=>hb.imp id fun ⟨s,o,h1,h2⟩=>⟨s,o,by simp[h1],h2⟩
           refine⟨ss'++S,none::ps,.cons ms t ts _ xs c cs none ps ?_ (k1.mono up) (fun b o o' h=>by cases h),fun s hs=>?_,fun b o hb=>?_,fun hf=>?_⟩
           · rw[hm]
             exact .func f qs t ys c hcq (d1.mono fun b hb=>⟨hb.imp id fun ⟨s,o,h1,h2⟩=>⟨s,o,by simp[h1],h2⟩,rfl⟩)
           · rcases List.mem_append.1 hs with hs | hs
             · exact⟨hlive s hs,hlt s hs⟩
             · exact⟨(live s (k2 s hs).1).1,(k2 s hs).2⟩
           · rcases List.mem_cons.1 hb with hb | hb
             · cases hb
             · obtain⟨s,o0,q1,q2,q3,q4⟩:=k3 b o hb
               exact⟨s,o0,(live s q1).1,by simp[(live s q1).2,q2],q3,q4⟩
           · simp only[retsFlat,Bool.and_eq_true,hm,retFlat]at hf
             exact absurd hf.1 (by simp)
        · cases hx
       | funcN g qs =>
        simp only[retVal]at hx
        split at hx
        · rename_i f ys ss' hfl hd
          cases hc:(f==g&&capsOk qs ys)&&ss'.all (fun s=>Nat.blt s 100000) with
          | false=>rw[hc]at hx;cases hx
          | true =>
           rw[hc]at hx
           simp only[cond_true,Option.some.injEq,Prod.mk.injEq]at hx
           obtain⟨rfl,rfl⟩:=hx
           simp only[Bool.and_eq_true,beq_iff_eq]at hc
           obtain⟨⟨rfl,hcq⟩,hcs⟩:=hc
           have hd1:VR w (Mplus (fun _=>False) β ss') (.fn f ys) c:=deep_flat r.heap hsub hfl hd hv
           have hlt:∀ s∈ss',s<argSite:=fun s hs=>Nat.le_of_ble_eq_true (List.all_eq_true.1 hcs s hs)
           have hlive:∀ s∈ss',(look hp s).isSome=true:=fun s hs=>flatH_live (deep_sites hd s hs)
           have up:∀ b,Mplus M β S b→Mplus M β (ss'++S) b:=fun b hb=>hb.imp id fun ⟨s,o,h1,h2⟩=>⟨s,o,by simp[h1],h2⟩
           have hres:∀ M1:Nat→Prop,ResR T w (Mplus M1 β (ss'++S)) βA hA (ms.headD .deep) t (.p (.fn f ys)) c none:=fun M1=>by
            rw[hm]
            exact .funcN f qs t ys c hcq (hd1.mono fun b hb=>⟨hb.elim (fun h=>h.elim) fun ⟨s,o,h1,h2⟩=>.inr ⟨s,o,by simp[h1],h2⟩,rfl⟩)
           refine⟨ss'++S,none::ps,.cons ms t ts _ xs c cs none ps (hres _) (k1.mono up) (fun b o o' h=>by cases h),fun s hs=>?_,fun b o hb=>?_,fun hf=>?_⟩
           · rcases List.mem_append.1 hs with hs | hs
             · exact⟨hlive s hs,hlt s hs⟩
             · exact⟨(live s (k2 s hs).1).1,(k2 s hs).2⟩
           · rcases List.mem_cons.1 hb with hb | hb
             · cases hb
             · obtain⟨s,o0,q1,q2,q3,q4⟩:=k3 b o hb
               exact⟨s,o0,(live s q1).1,by simp[(live s q1).2,q2],q3,q4⟩
           · simp only[retsFlat,Bool.and_eq_true]at hf
             exact .cons ms t ts _ xs c cs none ps (hres _) ((k4 hf.2).mono (upF _)) (fun b o o' h=>by cases h)
        · rename_i hfl hd
          simp only[Option.some.injEq,Prod.mk.injEq]at hx
          obtain⟨rfl,rfl⟩:=hx
          have hd1:VR w (Mplus (fun _=>False) β []) .nilfn c:=deep_flat r.heap hsub hfl hd hv
          cases hd1
          have hne:∀ M,ResR T w M βA hA (ms.headD .deep) t (.p .nilfn) .nilFunc none:=fun M=>by
           rw[hm];exact .funcNil g qs t
          exact plain _ rfl (hne _) fun _=>hne _
        · cases hx
       | aggF =>
        simp only[retVal]at hx
        split at hx
        · rename_i ks0 hsh
          split at hx
          · rename_i ks a ls cells hla hcells
            split at hx
            · rename_i cs0 y hcl
              split at hx
              · rename_i ys zs ss' hpu hfo
                cases hc:kindsOk ks ys&&ks.all Kd.flat with
                | false=>rw[hc]at hx;cases hx
                | true =>
                 rw[hc]at hx
                 simp only[cond_true,Option.some.injEq,Prod.mk.injEq]at hx
                 obtain⟨rfl,rfl⟩:=hx
                 simp only[Bool.and_eq_true]at hc
                 obtain⟨hck,hcf⟩:=hc
                 obtain⟨va,rfl,hvn,hva⟩:=aggCells_ok hv hcells
                 have e1:=unsnoc_eq hcl
                 subst e1
                 have e2:=pures_ok hpu
                 subst e2
                 have hy:AR w M β (look st.heap) y (va.getD ys.length undef):=hva ys.length y (by simp)
                 obtain ⟨p,hp1,hp2,hp3⟩ : ∃ p : Option (Nat × Nat),BR w (Mplus M β S) (fun _ => p) (fun _ => some (.arr a ls zs)) 0 (.arr a ls zs) ∧
                     AR w (Mplus M β S) (fun _=>p) (fun _=>some (.arr a ls zs)) (.slice 0 ls.length 0 zs.length) (va.getD ys.length undef)∧(∀ b o,p=some (b,o)→∃ s o0,s∈ss'∧(look hp s).isSome=true∧s<argSite∧β s=some (b,o0)):=by
                   unfold freshOf at hfo
                   split at hfo
                   · rename_i s z off len
                     split at hfo
                     · rename_i sa ks' ws hs
                       cases hc:sa==a&&Kd.beqs ks' ls&&Nat.blt s 100000 with
                       | false=>rw[hc]at hfo;cases hfo
                       | true =>
                        rw[hc]at hfo
                        simp only[cond_true,Option.some.injEq,Prod.mk.injEq]at hfo
                        obtain⟨rfl,rfl⟩:=hfo
                        simp only[Bool.and_eq_true,beq_iff_eq]at hc
                        obtain⟨⟨rfl,hks⟩,hlt⟩:=hc
                        have hks:=Kd.beqs_eq _ _ hks
                        subst hks
                        obtain⟨p,q1,q2,q3⟩:=fresh_ok (M':=Mplus M β S) (fun b hb=>.inl hb) (hsub _ _ hs) (r.heap s _ (hsub _ _ hs)) hy
                        refine⟨p,q1,q2,fun b o e=>?_⟩
                        obtain⟨o0,q⟩:=q3 b o e
                        exact⟨s,o0,by simp,by rw[hs];rfl,Nat.le_of_ble_eq_true hlt,q⟩
                     · cases hfo
                   · simp only[Option.some.injEq,Prod.mk.injEq]at hfo
                     obtain⟨rfl,rfl⟩:=hfo
                     refine⟨none,.arrE _ _,?_,fun b o e=>by cases e⟩
                     generalize va.getD ys.length undef=c0 at hy
                     cases hy
                     rename_i hy
                     cases hy
                     exact .sliceE 0 0 _ _ [] none rfl (by simp)
                   · cases hfo
                 have hfr:ResR T w (Mplus M β S) βA hA .aggF t (.agg (ys.map .p++[.fresh a ls zs])) (.agg va) p :=
                  .aggF t ks0 ks a ls ys zs va p hsh hla hck hcf (by simpa using hvn) (fun i c hc=>by
                   have:=hva i (.p c) (by rw[List.getElem?_append_left (by simpa using (List.getElem?_eq_some_iff.1 hc).1),List.getElem?_map,hc];rfl)
                   cases this
                   rename_i this
                   exact this.mono fun b hb=>⟨.inl hb,rfl⟩) hp1 hp2
                 have hap:∀ b o o',p=some (b,o)→some (b,o') ∉ ps:=fun b o o' e1 e2=>by
                  obtain⟨s,o0,hs1,hs2,_,q0⟩:=hp3 b o e1
                  obtain⟨s',o0',q1,q2,q3,q4⟩:=k3 b o' e2
                  obtain⟨g1,g2⟩:=live s' q1
                  obtain⟨blk,hb⟩:=Option.isSome_iff_exists.1 g1
                  obtain⟨blk2,hb2⟩:=Option.isSome_iff_exists.1 hs2
                  have:=r.inj s' s b o0' o0 (by rw[hsub _ _ hb];rfl) (by rw[hsub _ _ hb2];rfl) q4 q0
                  exact g2 (by rw[this];exact hs1)
                 refine⟨S,p::ps,.cons ms t ts _ xs (.agg va) cs p ps ?_ k1 hap,fun s' hs'=>⟨(live s' (k2 s' hs').1).1,(k2 s' hs').2⟩,fun b o hb=>?_,fun hf=>?_⟩
                 · rw[hm];exact hfr
                 · rcases List.mem_cons.1 hb with hb | hb
                   · obtain⟨s,o0,hs1,hs2,hs3,q0⟩:=hp3 b o hb.symm
                     exact⟨s,o0,hs2,fun hS=>(live s (k2 s hS).1).2 hs1,hs3,q0⟩
                   · obtain⟨s',o0,q1,q2,q3,q4⟩:=k3 b o hb
                     exact⟨s',o0,(live s' q1).1,q2,q3,q4⟩
                 · simp only[retsFlat,Bool.and_eq_true]at hf
                   refine .cons ms t ts _ xs (.agg va) cs p ps ?_ (k4 hf.2) hap
                   have hf1:=hf.1
                   rw[hm]at hf1 ⊢
                   exact hfr.flat hf1 (.inr (.inr rfl))
              · cases hx
            · cases hx
          · cases hx
        · cases hx
       | alias j =>
        simp only[retVal]at hx
        split at hx
        · rename_i s z off len e hu
          cases hc:s==argSite+j&&z==(shapeT T e).2.length with
          | false=>rw[hc]at hx;cases hx
          | true =>
           rw[hc]at hx
           simp only[cond_true,Option.some.injEq,Prod.mk.injEq]at hx
           obtain⟨rfl,rfl⟩:=hx
           simp only[Bool.and_eq_true,beq_iff_eq]at hc
           obtain⟨rfl,rfl⟩:=hc
           have:∃ blk,look st.heap (argSite+j)=some blk:=by
            generalize (shapeT T e).2.length=z at hv
            cases hv with
            | slice _ _ _ a ks xs b o cap hs hl hb hcap hr=>exact⟨_,hs⟩
            | sliceE _ _ a ks xs base hs hl=>exact⟨_,hs⟩
           obtain⟨blk,hb⟩:=this
           obtain⟨g1,g2⟩:=hend j blk hb
           have hne:∀ M,ResR T w M βA hA (ms.headD .deep) t (.slice (argSite+j) (shapeT T e).2.length off len) c none:=fun M=>by
            rw[hm];exact .alias j t e off len c hu (hv.slice_move hb g1 g2)
           exact plain _ rfl (hne _) fun _=>hne _
        · cases hx
     · cases h
   · cases h
  | [],ms,v::vs,cs,rs,hp,h,_,_=>by simp[retVals]at h
  | t::ts,ms,[],cs,rs,hp,h,_,_=>by simp[retVals]at h
theorem back_pure {b0 b:Blk} (h0:pureBlk b0=true) (h1:backBlkOk b=true) (h2:backOk b0 b=true):pureBlk b=true:=by
 cases b with
 | log=>cases b0<;>simp[backOk,pureBlk]at h0 h2
 | _=>exact h1
theorem argsBack_ok {hp:Heap}:∀ {bl bl':List Blk} {k:Nat},(∀ b∈bl,pureBlk b=true)→argsBack hp k bl=some bl'→bl'.length=bl.length∧∀ (i:Nat) (b0 b1:Blk),bl[i]?=some b0→bl'[i]?=some b1→look hp (argSite+(k+i))=some b1∧pureBlk b1=true∧backOk b0 b1=true
 | [],bl',k,_,h=>by
  simp[argsBack]at h;subst h
  exact⟨rfl,fun i b0 b1 h=>by simp at h⟩
 | b0::r,bl',k,hbl,h=>by
  simp only[argsBack]at h
  split at h
  · rename_i b bs h1 h2
    cases hc:backBlkOk b&&backOk b0 b with
    | false=>rw[hc]at h;cases h
    | true =>
     rw[hc]at h
     simp only[cond_true,Option.some.injEq]at h
     subst h
     simp only[Bool.and_eq_true]at hc
     obtain⟨g1,g2⟩:=argsBack_ok (fun b hb=>hbl b (by simp[hb])) h2
     refine⟨by simp[g1],fun i c0 c1 e1 e2=>?_⟩
     cases i with
     | zero=>simp at e1 e2;subst e1 e2;exact⟨h1,back_pure (hbl b0 (by simp)) hc.1 hc.2,hc.2⟩
     | succ i =>
      simp at e1 e2
      rw[show k+(i+1)=k+1+i from by omega]
      exact g2 i c0 c1 e1 e2
  · cases h
theorem BR.pure_mono {M':Nat→Prop} {β':Nat→Option (Nat × Nat)} {h h':Nat→Option Blk} {s s':Nat} {blk:Blk} (hM:∀ b,M b→M' b) (hb:BR w M β h s blk) (hp:pureBlk blk=true) (e:β' s'=β s):BR w M' β' h' s' blk:=by
 have hM':∀ b,M b→M' b∧w.heap[b]?=w.heap[b]?:=fun b h=>⟨hM b h,rfl⟩
 have hb1:=hb.pure_move (β':=β') (h':=h') hp e
 cases hb1 with
 | log=>simp[pureBlk]at hp
 | tb=>simp[pureBlk]at hp
 | mp=>simp[pureBlk]at hp
 | br=>simp[pureBlk]at hp
 | brE=>simp[pureBlk]at hp
 | arrE=>exact .arrE _ _
 | arr _ _ _ b o C e' fr g1 g2 g3 g4 g5 g6=>exact .arr _ _ _ b o C e' fr g1 g2 g3 g4 g5 fun i x j c h1 h2=>(g6 i x j c h1 h2).mono hM'
 | box cs b o C e' fr g1 g2 g3 g4 g5 g6 =>
  refine .box cs b o C e' fr g1 g2 g3 g4 g5 fun j c hc=>?_
  simp only[pureBlk,Option.isSome_iff_exists]at hp
  obtain⟨vs,hp⟩:=hp
  have hcs:=pures_ok hp
  subst hcs
  have hc':=g6 j c hc
  simp only[List.getElem?_map,Option.map_eq_some_iff]at hc
  obtain⟨x,_,rfl⟩:=hc
  generalize C.getD (o+j) undef=u at hc'
  cases hc' with
  | p _ _ hv=>exact .p _ _ (hv.mono hM')
theorem Rel.start {args : List AV} {bl : List Blk} {cargs : Array Value} (hp : CallPre w M β args bl cargs) {gl : Option (List (Nat × Obj))} (hgl : ∀ p ∈ gl.getD [],M p.1 ∧ w.heap[p.1]? = some p.2) (fn : Func) :
    Rel ⟨w,w.heap.size,Nat.le_refl _,gl⟩ (fun b=>∃ i o,i<bl.length∧β (argSite+i)=some (b,o)) M M β (startSt fn args bl) { tmps:=cargs++Array.replicate (fn.ntmps-cargs.size) undef,defers:=[] } w:=by
  have hn:=hp.num
  refine⟨?_,fun t v ht=>?_,fun s blk hs=>?_,fun s b o hs hb=>?_,fun s s' b o o' hs hs' hb hb'=>?_,hp.msub,fun b h=>.inl h,fun b h=>h,fun b _ _=>rfl,fun b n _ _ h=>h,Nat.le_refl _,rfl,rfl,rfl,hgl⟩
  · simp[startSt,hn]
  · by_cases hlt:t<args.length
    · have ht' : args[t]? = some v := by
        simp only[startSt]at ht
        rwa[List.getElem?_append_left hlt]at ht
      have:=hp.args t v ht'
      have e:(cargs++Array.replicate (fn.ntmps-cargs.size) undef).getD t undef=cargs.getD t undef:=by
       rw[Array.getD_eq_getD_getElem?,Array.getD_eq_getD_getElem?,Array.getElem?_append_left (by omega)]
      rw[e];exact this
    · have : v = .undef := by
        simp only[startSt]at ht
        rw[List.getElem?_append_right (by omega),List.getElem?_replicate]at ht
        split at ht
        · simpa using ht.symm
        · cases ht
      subst this
      exact .undef _
  · obtain⟨i,h1,rfl,h2⟩:=init_key0 hs
    exact hp.blk i blk h2
  · obtain⟨blk,hs⟩:=Option.isSome_iff_exists.1 hs
    obtain⟨i,h1,rfl,h2⟩:=init_key0 hs
    obtain⟨g1,g2⟩:=hp.own i b o h1 hb
    exact⟨g1,g2,.inr ⟨i,o,h1,hb⟩,.inr (by omega)⟩
  · obtain⟨blk,hs⟩:=Option.isSome_iff_exists.1 hs
    obtain⟨blk',hs'⟩:=Option.isSome_iff_exists.1 hs'
    obtain⟨i,h1,rfl,h2⟩:=init_key0 hs
    obtain⟨j,h1',rfl,h2'⟩:=init_key0 hs'
    rw[hp.inj i j b o o' h1 h1' hb hb']
def ExtOk (P : Program) (T : Tab) (gl : Option (List (Nat × Obj))) (X : Ext) : Prop := ∀ f fi s args bl rs bl',tlook T.funcs f = some fi → X f = some s → s args bl = some (rs,bl') → (∃ c,fi.fn.body = some c) ∧ (∀ b ∈ bl,pureBlk b = true) ∧
    ∀ (w:World) (M:Nat→Prop) (β:Nat→Option (Nat × Nat)) (cargs:Array Value),(∀ p∈gl.getD [],M p.1∧w.heap[p.1]?=some p.2)→CallPre w M β args bl cargs →
     Calls P f cargs w fun e w'=>∃ cs ps M',e=.returned (wrapV cs)∧CallPost gl T fi w M β bl rs bl' w' M' cs ps
theorem leaves_marks {fn : Func} {tmps : Array Value} {R : Ending → World → Prop} {n : Nat} : ∀ (ds : List Nat) (w : World),ds.Nodup → (∀ D ∈ ds,w.heap[D]? = some (.deferred (some []))) →
    (∀ w',(∀ b,b ∉ ds→w'.heap[b]?=w.heap[b]?)→w'.heap.size=w.heap.size→w'.os=w.os→w'.tape=w.tape→w'.output=w.output→w'.drawn=w.drawn→∃ v,(results fn tmps).run P w'=.ok v w'∧R (.returned v) w') →
    LeavesInM (FW none) n P fn tmps R (ds.map markOf) .returning w
  | [],w,_,_,h=>h w (fun _ _=>rfl) rfl rfl rfl rfl rfl
  | D::ds,w,hnd,hl,h=>by
   obtain⟨h1,h2⟩:=List.nodup_cons.1 hnd
   refine⟨by simp,.inl ⟨D,w.putObj D (.deferred none),rfl,run_takeDeferred (hl D (by simp)),?_⟩⟩
   refine leaves_marks ds _ h2 (fun D' hD'=>?_) fun w' k1 k2 k3 k4 k5 k6=>?_
   · rw[World.putObj_heap_other (show D'≠D from fun e=>h1 (e▸hD'))]
     exact hl D' (by simp[hD'])
   · refine h w' (fun b hb=>?_) (by rw[k2,World.putObj_size]) k3 k4 k5 k6
     simp only[List.mem_cons,not_or]at hb
     rw[k1 b hb.2,World.putObj_heap_other hb.1]
theorem Inv.shut {cx : Cx} {M : Nat → Prop} {β : Nat → Option (Nat × Nat)} {st : St} {a : Act} {w w' : World} {L : List (Nat × Obj)} {ds : List Nat} (r : Rel cx.w0 cx.Pr cx.M0 M β st a w) (fx : Fix cx M β st.heap a w L ds) (hn : cx.nm = cx.w0.heap.size)
    (k1:∀ b,b ∉ ds→w'.heap[b]?=w.heap[b]?) (k2:w'.heap.size=w.heap.size) (k3:w'.os=w.os) (k4:w'.tape=w.tape) (k5:w'.output=w.output):Rel cx.w0 cx.Pr cx.M0 M β st a w':=by
  have hM:∀ b,M b→b ∉ ds:=fun b hb hd=>(fx.lies _ (fx.mark b hd).1).2.2 hb
  have hO:∀ b,Owned β st.heap b→b ∉ ds:=fun b hb hd=>(fx.lies _ (fx.mark b hd).1).2.1 hb
  have hw:∀ b,b<cx.w0.heap.size→b ∉ ds:=fun b hb hd=>by have:=(fx.mark b hd).2;omega
  refine r.to rfl (fun b hb=>⟨hb,k1 b (hM b hb)⟩) (fun s b o hs hb=>?_) (fun b hb=>by rw[k2];exact r.msub b hb) r.mnew r.mold (fun b hb hp=>?_) (fun b n hb hp hr=>?_) (by rw[k2];exact r.size) (k3.trans r.os) (k4.trans r.tape) (k5.trans r.output)
  · obtain⟨g1,g2,g3⟩:=r.own s b o hs hb
    exact⟨k1 b (hO b ⟨s,o,hs,hb⟩),g1,by rw[k2];exact g2,g3⟩
  · rw[k1 b (hw b hb)];exact r.keep b hb hp
  · exact(r.room b n hb hp hr).of_block (k1 b (hw b (by have:=cx.w0.le';omega)))
theorem noLog_args {bl:List Blk} (h:∀ b∈bl,pureBlk b=true):NoLog (initHeap 0 bl):=by
 intro xs he
 have:look (initHeap 0 bl) (argSite+0)=some (.log true xs):=he
 rw[look_init0]at this
 have:=h _ (List.mem_of_getElem? this)
 simp[pureBlk]at this
theorem call_step (ok : TabOk P T) {X : Ext} {gl : Option (List (Nat × Obj))} (hX : ExtOk P T gl X) {n : Nat} (hC : CallOk P T gl (acall T X n)) (hS : SeqOk P T gl (acall T X n)) :
    ∀ f fi args bl rs bl',tlook T.funcs f=some fi→(∀ b∈bl,pureBlk b=true)→acall T X (n+1) f args bl=some (rs,bl')→(∃ c,fi.fn.body=some c) ∧
    ∀ (w:World) (M:Nat→Prop) (β:Nat→Option (Nat × Nat)) (cargs:Array Value),(∀ p∈gl.getD [],M p.1∧w.heap[p.1]?=some p.2)→CallPre w M β args bl cargs →
     Calls P f cargs w fun e w'=>∃ cs ps M',e=.returned (wrapV cs)∧CallPost gl T fi w M β bl rs bl' w' M' cs ps:=by
  intro f fi args bl rs bl' hf hpb h
  simp only[acall,hf]at h
  cases hx:X f with
  | some s =>
   rw[hx]at h
   obtain⟨h1,_,h2⟩:=hX f fi s args bl rs bl' hf hx h
   exact⟨h1,h2⟩
  | none =>
   rw[hx]at h
   simp only at h
   cases hb:fi.fn.body with
   | none=>rw[hb]at h;cases h
   | some c =>
    rw[hb]at h
    have hcb:callB fi.cfg bl=true:=by
     cases hcb:callB fi.cfg bl with
     | true=>rfl
     | false=>rw[hcb]at h;cases h
    have hvc:fi.cfg.vcall=false:=by
     cases hvc:fi.cfg.vcall with
     | false=>rfl
     | true =>
      unfold callB at hcb
      rw[hvc]at hcb
      simp only at hcb
      split at hcb
      · have:=hpb _ (List.mem_cons_self ..)
        simp[pureBlk,pures]at this
      · cases hcb
    rw[hcb]at h
    simp only[cond_true,forceAVs_eq,forceBlks_eq,forceSt_eq,startF,retF,hvc]at h
    refine⟨⟨c,rfl⟩,fun w M β cargs hgl hp=>?_⟩
    obtain⟨hfn,hname,hdr,hret⟩:=ok.funcs f fi hf
    let cx:Cx:={ w0:=⟨w,w.heap.size,Nat.le_refl _,gl⟩,Pr:=fun b=>∃ i o,i<bl.length∧β (argSite+i)=some (b,o),M0:=M,β0:=β,hp0:=initHeap 0 bl,Wr:=fun _=>True,t0:=cargs++Array.replicate (fi.fn.ntmps-cargs.size) undef,rd:=none,L0:=[],nm:=w.heap.size }
    have hi:Inv cx (startSt fi.fn args bl) { tmps:=cargs++Array.replicate (fi.fn.ntmps-cargs.size) undef,defers:=[] } w :=
     ⟨M,β,[],[],Rel.start hp hgl fi.fn,fun _ _=>rfl,fun s _ b hb=>⟨b,hb,Like.refl b⟩,.refl _ _,⟨fun p hp=>by simp at hp,fun p hp=>by simp[cx]at hp,rfl,List.nodup_nil,fun D hD=>by simp at hD,fun l hl=>(by cases hl),rfl,fun _ _=>rfl,fun _=>rfl,fun _ h=>h.elim,Nat.le_refl _⟩⟩
    refine calls_of_fw (rd:=none) (n:=0) (callsIn_of_wp_marks hfn hb trivial ?_)
    refine sim_codeG (ng:=false) (codeSim_inv (m:=0) ok hC (ok.nvars f fi hf) (rs,bl')) (fun _ f ps y z hy hz=>sim_range ok hS hy hz) c ⟨cx,noLog_args hpb,rfl⟩ _ _ w _ _ _ trivial h (hdr c hb) (fun h=>by cases h) (fun _ _=>⟨fun _ _=>trivial,fun _ _ h=>h.elim⟩) ⟨rfl,hi⟩ fun ex x' st a w1 hk i=>?_
    obtain⟨rfl,i⟩:=i
    have hk':retK T fi.cfg fi.fn bl st=some (rs,bl')∧(ex=.normal∨ex=.ret):=by
     cases ex with
     | normal=>exact⟨hk,.inl rfl⟩
     | exit id=>cases hk
     | ret=>exact⟨hk,.inr rfl⟩
    obtain⟨hk,hex⟩:=hk'
    obtain⟨M1,β1,L1,ds1,r1,e1,e2,e3',fx1⟩:=i
    have goal:LeavesInM (FW none) 0 P fi.fn a.tmps (fun e w'=>∃ cs ps M',e=.returned (wrapV cs)∧CallPost gl T fi w M β bl rs bl' w' M' cs ps) a.defers .returning w1:=by
     rw[fx1.marks]
     refine leaves_marks ds1 w1 fx1.nodup (fun D hD=>(fx1.lies _ (fx1.mark D hD).1).1) fun w' q1 q2 q3 q4 q5 q6=>?_
     have r:=Inv.shut r1 fx1 rfl q1 q2 q3 q4 q5
     have e3:DrawnLe gl w.drawn w'.drawn:=by rw[q6];exact e3'
     unfold retK at hk
     split at hk
     · cases hk
     · rename_i vs hvs
       split at hk
       · rename_i rs' bl'' hrv hab
         simp only[forceAVs_eq,forceBlks_eq,Option.some.injEq,Prod.mk.injEq]at hk
         obtain⟨rfl,rfl⟩:=hk
         obtain⟨cs,g1,g2⟩:=resAll_ok ok r hvs
         obtain⟨ab1,ab2⟩:=argsBack_ok hpb hab
         have hold:∀ j blk,look st.heap (argSite+j)=some blk→∃ b0,bl[j]?=some b0∧Like b0 blk:=by
          intro j blk hj
          obtain⟨b0,k1,k2⟩:=e2 (argSite+j) (by omega) blk hj
          rw[look_init0]at k1
          exact⟨b0,k1,k2⟩
         have hend:∀ j blk,look st.heap (argSite+j)=some blk→look (initHeap 0 bl'') (argSite+j)=some blk∧β (argSite+j)=β1 (argSite+j):=by
          intro j blk hj
          obtain⟨b0,k1,k2⟩:=hold j blk hj
          refine⟨?_,(e1 (argSite+j) (by omega)).symm⟩
          rw[look_init0]
          have hlt:j<bl''.length:=by rw[ab1];exact(List.getElem?_eq_some_iff.1 k1).1
          have:=(ab2 j b0 bl''[j] k1 (by simp)).1
          rw[Nat.zero_add,hj]at this
          cases this
          simp
         obtain⟨S,ps,q1,q2,q3,q4⟩:=retVals_ok r hend hrv (fun _ _ h=>h) g2
         have hup:∀ b,M1 b→Mplus M1 β1 S b:=fun b h=>.inl h
         refine⟨wrapV cs,run_results g1,cs,ps,Mplus M1 β1 S,rfl,⟨q1,fun b o hb=>?_,fun hb1 hs1=>⟨Mplus (fun _=>False) β1 S,fun b hb=>?_,q4 (hret hb1 hs1)⟩,fun b h=>.inl (r.mold b h),fun b h=>?_,fun b h=>?_,fun b hb hn=>?_,fun b n hb hr=>?_,r.size,r.os,r.tape,r.output,e3,ab1,fun i b0 b1 h1 h2=>?_⟩⟩
         · obtain⟨s,o0,k1,k2,k3,k4⟩:=q3 b o hb
           obtain⟨o1,o2,o3⟩:=r.own s b o0 k1 k4
           refine⟨fun h=>?_,o2,?_⟩
           · rcases h with h | ⟨s',o',hs',hb'⟩
             · exact o1 h
             · exact k2 (by rw[r.inj s s' b o0 o' k1 (q2 s' hs').1 k4 hb'];exact hs')
           · rcases o3.2 with o3 | o3
             · exact o3
             · omega
         · rcases hb with hb | ⟨s',o',hs',hb'⟩
           · exact hb.elim
           · refine⟨.inr ⟨s',o',hs',hb'⟩,?_⟩
             obtain⟨k1,k2⟩:=q2 s' hs'
             rcases(r.own s' b o' k1 hb').2.2.2 with o3 | o3
             · exact o3
             · omega
         · rcases h with h | ⟨s',o',hs',hb'⟩
           · exact(r.mnew b h).imp id And.left
           · obtain⟨k1,k2⟩:=q2 s' hs'
             rcases(r.own s' b o' k1 hb').2.2.2 with o3 | o3
             · exact .inr o3
             · omega
         · rcases h with h | ⟨s',o',hs',hb'⟩
           · exact r.msub b h
           · exact(r.own s' b o' (q2 s' hs').1 hb').2.1
         · exact r.keep b hb fun ⟨i,o,hi,h⟩=>hn i o hi h
         · by_cases hpr:∃ i o,i<bl.length∧β (argSite+i)=some (b,o)
           · exact r.room b n hb hpr hr
           · exact hr.of_block (r.keep b hb hpr)
         · obtain⟨k1,k2,k3⟩:=ab2 i b0 b1 h1 h2
           rw[Nat.zero_add]at k1
           obtain⟨b0',k4,k5⟩:=hold i b1 k1
           rw[h1]at k4;cases k4
           exact⟨(r.heap _ _ k1).pure_mono hup k2 (e1 (argSite+i) (by omega)).symm,k5,k3,k2⟩
       · cases hk
    rcases hex with rfl | rfl
    · exact goal
    · exact goal
end
end Go.Skm
namespace Go.Skm
def LogSub (st st':St):Prop:=∀ b zs,look st'.heap argSite=some (.log b zs)→look st.heap argSite=some (.log b zs)
theorem LogSub.refl (st:St):LogSub st st:=fun _ _ h=>h
theorem LogSub.trans {a b c:St} (h:LogSub a b) (k:LogSub b c):LogSub a c:=fun x zs hx=>h x zs (k x zs hx)
theorem kill_is_log {ss:List Nat} {x:Option Blk} {b:Bool} {zs:List PV} (h:x.map (Blk.kill ss)=some (.log b zs)):x=some (.log b zs):=by
 cases x with
 | none=>cases h
 | some y =>
  cases y with
  | box=>simp[Blk.kill]at h
  | arr=>simp[Blk.kill]at h
  | tb=>simp[Blk.kill]at h
  | mp=>simp[Blk.kill]at h
  | br=>simp[Blk.kill]at h
  | log=>simpa [Blk.kill] using h
theorem strike_log (st:St) (ss:List Nat):LogSub st (st.strike ss):=by
 intro b zs h
 rw[look_strike]at h
 split at h
 · cases h
 · exact kill_is_log h
theorem kill_log (st:St) (ss:List Nat):LogSub st (st.kill ss):=by
 intro b zs h
 cases ss with
 | nil=>exact h
 | cons s r =>
  have h:look (killHeap (s::r) st.heap) argSite=some (.log b zs):=h
  rw[look_killHeap]at h
  exact kill_is_log h
theorem chgOk_log {h:Heap}:∀ {c:List (Nat × Blk)},chgOk h c=true→∀ s b zs,(s,Blk.log b zs) ∉ c
 | [],_,s,b,zs=>by simp
 | (t,.log _ _)::r,hc,s,b,zs=>by simp[chgOk]at hc
 | (t,.box cs)::r,hc,s,b,zs=>by
  have:chgOk h r=true:=by
   simp only[chgOk]at hc
   cases ht:(t==argSite) with
   | false=>rw[ht]at hc;exact hc
   | true =>
    rw[ht]at hc
    simp only[cond_true]at hc
    split at hc
    · cases hc
    · exact hc
  simp[chgOk_log this s b zs]
 | (t,.arr a ks xs)::r,hc,s,b,zs=>by
  have:chgOk h r=true:=by
   simp only[chgOk]at hc
   cases ht:(t==argSite) with
   | false=>rw[ht]at hc;exact hc
   | true =>
    rw[ht]at hc
    simp only[cond_true]at hc
    split at hc
    · cases hc
    · exact hc
  simp[chgOk_log this s b zs]
 | (t,.tb u c0 c1)::r,hc,s,b,zs=>by
  have:chgOk h r=true:=by
   simp only[chgOk]at hc
   cases ht:(t==argSite) with
   | false=>rw[ht]at hc;exact hc
   | true =>
    rw[ht]at hc
    simp only[cond_true]at hc
    split at hc
    · cases hc
    · exact hc
  simp[chgOk_log this s b zs]
 | (t,.mp u es)::r,hc,s,b,zs=>by
  have:chgOk h r=true:=by
   simp only[chgOk]at hc
   cases ht:(t==argSite) with
   | false=>rw[ht]at hc;exact hc
   | true =>
    rw[ht]at hc
    simp only[cond_true]at hc
    split at hc
    · cases hc
    · exact hc
  simp[chgOk_log this s b zs]
 | (t,.br u xs)::r,hc,s,b,zs=>by
  have:chgOk h r=true:=by
   simp only[chgOk]at hc
   cases ht:(t==argSite) with
   | false=>rw[ht]at hc;exact hc
   | true =>
    rw[ht]at hc
    simp only[cond_true]at hc
    split at hc
    · cases hc
    · exact hc
  simp[chgOk_log this s b zs]
theorem apply_log {h:Heap} {st:St} {d:Option Nat} {e:Eff} (hc:chgOk h e.chg=true):LogSub st (st.apply d e):=by
 intro b zs hl
 have hl:look (putAll ((st.strike (present st.heap e.new++e.frz)).kill e.cut).heap e.chg) argSite=some (.log b zs):=hl
 rcases look_putAll _ _ _ _ hl with hl | hl
 · exact strike_log _ _ _ _ (kill_log _ _ _ _ hl)
 · exact absurd hl (chgOk_log hc _ _ _)
theorem forgetAt_log (F:FCfg) (c:Code) (st:St):LogSub st (forgetAt F c st):=by
 unfold Skm.forgetAt
 split
 · exact LogSub.refl _
 · split
   · exact LogSub.refl _
   · exact strike_log { st with env:=_ } _
theorem rehome_log {st:St} {s d:Nat} (hne:s≠d) (hs:s<argSite) (hd:d<argSite):LogSub st (st.rehome s d):=by
 intro b zs h
 have hn:look (st.strike [d]).heap d=none:=by rw[look_strike];simp
 have h:look (renHeap s d (st.strike [d]).heap) argSite=some (.log b zs):=h
 rw[look_renHeap hne argSite hn,if_neg (by omega),if_neg (by omega)]at h
 refine strike_log st [d] b zs ?_
 cases hx:look (st.strike [d]).heap argSite with
 | none=>rw[hx]at h;cases h
 | some y =>
  rw[hx]at h
  cases y with
  | box=>simp[Blk.ren]at h
  | arr=>simp[Blk.ren]at h
  | tb=>simp[Blk.ren]at h
  | mp=>simp[Blk.ren]at h
  | br=>simp[Blk.ren]at h
  | log=>simpa [Blk.ren] using h
theorem rehomes_log (nv:Nat) (hs:List Nat) (hnv:nv≤argSite):∀ (l:List Oper) (st:St),LogSub st (rehomes nv hs l st)
 | [],st=>LogSub.refl _
 | o::r,st=>by
  simp only[Skm.rehomes]
  split
  · rename_i d _ _
    split
    · rename_i s _ _ _ _
      cases hc:(Nat.ble nv s||(memN d hs&&!(s==d)))&&(Nat.blt d nv&&Nat.blt s 100000) with
      | false=>exact rehomes_log nv hs hnv r st
      | true =>
       simp only[Bool.and_eq_true]at hc
       have h2:d<nv:=Nat.le_of_ble_eq_true hc.2.1
       have h1:s≠d:=by
        intro e
        rcases(by simpa only[Bool.or_eq_true] using hc.1:Nat.ble nv s=true∨(memN d hs&&!(s==d))=true) with h | h
        · exact absurd (Nat.le_of_ble_eq_true h) (Nat.not_le_of_lt (by rw[e];exact h2))
        · simp[e]at h
       have h3:s<100000:=Nat.le_of_ble_eq_true hc.2.2
       have ea:argSite=100000:=rfl
       exact(rehome_log h1 h3 (Nat.lt_of_lt_of_le h2 hnv)).trans (rehomes_log nv hs hnv r _)
    · exact rehomes_log nv hs hnv r st
  · exact rehomes_log nv hs hnv r st
def Has (x:List AV × List Blk) (st:St):Prop:=∃ b zs,look st.heap argSite=some (.log b zs)∧∃ ys,logOf x.2=zs++ys
theorem Has.sub {x:List AV × List Blk} {st st':St} (h:LogSub st st'):Has x st'→Has x st:=fun ⟨b,zs,h1,h2⟩=>⟨b,zs,h b zs h1,h2⟩
def KP (k:Ex→St→Option (List AV × List Blk)):Prop:=∀ ex st x,k ex st=some x→Has x st
section
variable {T:Tab} {C:CallF} {F:FI} {n:Nat}
theorem step1_log {hd:List Nat} {all:List Oper} {o:Oper} {st st':St} (h:step1 T C false hd all o st=some st'):LogSub st st':=by
 unfold step1 at h
 split at h
 · cases h
 · cases h;exact fun _ _ h=>h
 · split at h
   · rename_i hc
     simp only[Bool.and_eq_true]at hc
     cases h
     exact apply_log hc.2
   · cases h
theorem yieldAt_log {draw:Bool} {st:St} {o:Oper} {xs vs:List PV} (h:yieldAt draw st o=some (xs,vs)):∃ c ss t,draw=false∧o.op=.call c∧c.callee=.value (.tmp t)∧st.env.getD t .undef=.yld∧look st.heap argSite=some (.log true xs)∧deeps (look st.heap) (evalOs st.env c.args.toList)=some (vs,ss):=by
 cases draw with
 | true=>cases h
 | false =>
  have h:yieldOf st o=some (xs,vs):=h
  unfold yieldOf at h
  split at h
  · rename_i c hop
    split at h
    · rename_i t hce
      split at h
      · rename_i hy
        split at h
        · rename_i xs' vs' ss h1 h2
          cases h
          exact⟨c,ss,t,rfl,hop,hce,hy,h1,h2⟩
        · cases h
      · cases h
    · cases h
  · cases h
theorem afterYield_look (st:St) (d:Option Nat) (xs vs:List PV) (b:Bool):look (afterYield st d xs vs b).heap argSite=some (.log b (xs++[.agg vs])):=by
 show look (put _ argSite _) argSite=_
 rw[look_put,if_pos rfl]
theorem has_ops {hd:List (List Nat)} {all:List Oper} {k:St→Option (List AV × List Blk)} (hk:∀ st x,k st=some x→Has x st):∀ (l:List Oper) (j:Nat) (st:St) (x:List AV × List Blk),runOps T C false hd all l j st k=some x→Has x st
 | [],j,st,x,h=>hk st x h
 | o::rest,j,st,x,h=>by
  cases hy:yieldAt false st o with
  | none =>
   rw[runOps_cons _ _ hy]at h
   cases h1:step1 T C false (hd.getD j []) all o st with
   | none=>rw[h1]at h;cases h
   | some st1 =>
    rw[h1]at h
    exact(has_ops hk rest (j+1) st1 x h).sub (step1_log h1)
  | some p =>
   obtain⟨xs,vs⟩:=p
   rw[runOps_yield _ _ hy]at h
   obtain⟨_,_,_,_,_,_,_,hl,_⟩:=yieldAt_log hy
   cases hg:guardOf all o st.env with
   | none=>rw[hg]at h;cases h
   | some b =>
    rw[hg]at h
    cases b with
    | false=>exact(has_ops hk rest (j+1) _ x h).sub fun _ _ h=>h
    | true =>
     obtain⟨r,_,h3⟩:=fork_some h
     obtain⟨b,zs,h4,ys,h5⟩:=has_ops hk rest (j+1) _ x h3
     rw[afterYield_look]at h4
     cases h4
     exact⟨true,xs,hl,.agg vs::ys,by rw[h5];simp⟩
theorem has_relog {b:Option Blk} {st:St} {k:St→Option (List AV × List Blk)} {x:List AV × List Blk} (hk:∀ st x,k st=some x→Has x st) (h:relog b st k=some x):∃ on zs,b=some (.log on zs)∧∃ ys,logOf x.2=zs++ys:=by
 unfold relog at h
 split at h
 · split at h
   · rename_i on xs
     obtain⟨b',zs,h1,h2⟩:=hk _ _ h
     have h1:look (put st.heap argSite (.log on xs)) argSite=_:=h1
     rw[look_put,if_pos rfl]at h1
     cases h1
     exact⟨_,_,rfl,h2⟩
   · cases h
 · rename_i hno
   obtain⟨b',zs,h1,h2⟩:=hk _ _ h
   exact absurd h1 (hno _ _)
theorem freezes_log (ts:List Nat):∀ (l:List Oper) (st:St),LogSub st (freezes ts l st)
 | [],st=>LogSub.refl _
 | o::r,st=>by
  simp only[freezes]
  split
  · cases hm:memN _ ts with
    | false=>exact freezes_log ts r st
    | true =>
     simp only[cond_true]
     split
     · rename_i v ss _
       cases hf:frzOk ss with
       | false=>exact freezes_log ts r st
       | true =>
        refine LogSub.trans ?_ (freezes_log ts r _)
        exact fun b zs h=>strike_log st ss b zs h
     · exact freezes_log ts r st
  · exact freezes_log ts r st
theorem frehomes_log (hs:List Nat):∀ (l:List Oper) (st:St),LogSub st (frehomes hs l st)
 | [],st=>LogSub.refl _
 | o::r,st=>by
  simp only[Skm.frehomes]
  split
  · rename_i x _
    split
    · rename_i s _ _ _ _
      cases hc:memN x hs&&(Nat.blt s 5000&&Nat.blt x 5000) with
      | false=>exact frehomes_log hs r st
      | true =>
       simp only[Bool.and_eq_true]at hc
       have h1:s<5000:=Nat.le_of_ble_eq_true hc.2.1
       have h2:x<5000:=Nat.le_of_ble_eq_true hc.2.2
       have k:∀ s y:Nat,s<5000→y<5000→s≠5000+y∧s<argSite∧5000+y<argSite:=fun s y h1 h2=>by
        have ea:argSite=100000:=rfl
        omega
       obtain⟨k1,k2,k3⟩:=k s x h1 h2
       exact(rehome_log k1 k2 k3).trans (frehomes_log hs r _)
    · exact frehomes_log hs r st
  · exact frehomes_log hs r st
theorem settle_log {F:FCfg} (hnv:F.nvars≤argSite) (l:List Oper) (st:St):LogSub st (settle F l st):=by
 unfold settle
 split
 · exact(rehomes_log _ _ hnv l st).trans (freezes_log _ l _)
 · exact((rehomes_log _ _ hnv l st).trans (frehomes_log _ l _)).trans (freezes_log _ l _)
theorem has_region (hnv:F.cfg.nvars≤argSite) {id:Nat} {ops:Array Oper} {draw:Bool} {k:Ex→St→Option (List AV × List Blk)} (hk:KP k) (st:St) (x:List AV × List Blk) (h:runCode T C F n (.region id ops draw) st k=some x):Has x st:=by
 have hk':∀ st x,(forceSt (settle F.cfg ops.toList st) fun st'=>k .normal st')=some x→Has x st:=fun st x h=>by
  rw[forceSt_eq]at h
  exact(hk .normal _ x h).sub (settle_log hnv _ _)
 simp only[runCode]at h
 obtain⟨h,-⟩:=altSt_path h
 cases draw with
 | false =>
  exact has_ops hk' _ _ _ _ h
 | true =>
  simp only at h
  split at h
  · simp only[forceSt_eq]at h
    obtain⟨fin,_,h2⟩:=runsL_of h
    obtain⟨on,zs,h3,h4⟩:=has_relog (fun st x h=>(hk .normal _ x h).sub (settle_log hnv _ _)) h2
    exact⟨on,zs,strike_log _ _ _ _ h3,h4⟩
  · cases h
theorem has_code (hnv:F.cfg.nvars≤argSite):∀ (c:Code) (k:Ex→St→Option (List AV × List Blk)),KP k→∀ st x,runCode T C F n c st k=some x→Has x st
 | .skip,k,hk,st,x,h=>hk .normal st x h
 | .region id ops draw,k,hk,st,x,h=>has_region hnv hk st x h
 | .seq y z,k,hk,st,x,h=>by
  rw[runCode_seq]at h
  refine has_code hnv y _ (fun ex st x h=>?_) st x h
  cases ex with
  | normal=>exact(has_code hnv z k hk _ x h).sub (forgetAt_log _ _ _)
  | exit id=>exact hk (.exit id) st x h
  | ret=>exact hk .ret st x h
 | .cond c y z,k,hk,st,x,h=>by
  simp only[runCode]at h
  split at h
  · rename_i b _
    cases b with
    | true=>exact has_code hnv y k hk st x h
    | false=>exact has_code hnv z k hk st x h
  · cases h
 | .block id c,k,hk,st,x,h=>by
  rw[runCode_block]at h
  refine has_code hnv c _ (fun ex st x h=>?_) st x h
  cases ex with
  | normal=>exact hk .normal st x h
  | exit j =>
   simp only[blockK]at h
   cases hj:(j==id) with
   | true=>rw[hj]at h;exact hk .normal st x h
   | false=>rw[hj]at h;exact hk (.exit j) st x h
  | ret=>exact hk .ret st x h
 | .loop c,k,hk,st,x,h=>by
  simp only[runCode]at h
  have key:∀ (m:Nat) (st:St) (x:List AV × List Blk),loopN (forgetAt F.cfg c) (fun st' k'=>runCode T C F n c st' k') m st k=some x→Has x st:=by
   intro m
   induction m with
   | zero=>intro st x h;simp[loopN]at h
   | succ m ih =>
    intro st x h
    rw[loopN_loopK]at h
    refine has_code hnv c _ (fun ex st x h=>?_) st x h
    cases ex with
    | normal =>
     simp only[loopK,forceSt_eq]at h
     exact(ih _ x h).sub (forgetAt_log _ _ _)
    | exit id=>exact hk (.exit id) st x h
    | ret=>exact hk .ret st x h
  exact(key n _ x h).sub (forgetAt_log _ _ _)
 | .exit id,k,hk,st,x,h=>hk (.exit id) st x h
 | .ret,k,hk,st,x,h=>hk .ret st x h
 | .label _,k,hk,st,x,h=>hk .normal st x h
 | .rangeFunc f ps y z,k,hk,st,x,h=>by
  obtain⟨g,caps,fi,r,_,_,_,_,_,h⟩:=runCode_range h
  have key:∀ (l:List PV) (st:St) (x:List AV × List Blk),rangeL (forgetAt F.cfg (.seq y z)) fi.cfg.yk ps.toList (rngWs ps y z) (roundC T C F n y z) l st k=some x→Has x st:=by
   intro l
   induction l with
   | nil=>intro st x h;exact hk .normal st x h
   | cons v l ih =>
    intro st x h
    simp only[rangeL]at h
    split at h
    · cases h
    · rename_i env _
      rw[forceSt_eq]at h
      have hkr:KP (rnext (forgetAt F.cfg (.seq y z)) (rngWs ps y z) (fun st=>rangeL (forgetAt F.cfg (.seq y z)) fi.cfg.yk ps.toList (rngWs ps y z) (roundC T C F n y z) l st k) k):=by
       intro ex st x h
       cases ex with
       | normal =>
        simp only[rnext,forceSt_eq]at h
        exact((ih _ x h).sub (forgetAt_log _ _ _)).sub fun _ _ h=>h
       | exit id =>
        simp only[rnext,forceSt_eq]at h
        exact(hk (.exit id) _ x h).sub fun _ _ h=>h
       | ret =>
        simp only[rnext,forceSt_eq]at h
        exact(hk .ret _ x h).sub fun _ _ h=>h
      refine(has_code hnv y (seqK T C F n z _) (fun ex st x h=>?_) { st with env:=env } x h).sub fun _ _ h=>h
      cases ex with
      | normal=>exact(has_code hnv z _ hkr _ x h).sub (forgetAt_log _ _ _)
      | exit id=>exact hkr (.exit id) st x h
      | ret=>exact hkr .ret st x h
  exact(key _ _ x h).sub (forgetAt_log _ _ _)
 | .scope c,k,hk,st,x,h=>has_code hnv c k hk st x h
 | .goto ..,_,_,_,_,h | .refuse ..,_,_,_,_,h=>by simp[runCode]at h
theorem KP.seq (hnv:F.cfg.nvars≤argSite) {k:Ex→St→Option (List AV × List Blk)} (hk:KP k) (z:Code):KP (seqK T C F n z k):=by
 intro ex st x h
 cases ex with
 | normal=>exact(has_code hnv z k hk _ x h).sub (forgetAt_log _ _ _)
 | exit id=>exact hk (.exit id) st x h
 | ret=>exact hk .ret st x h
theorem KP.block {k:Ex→St→Option (List AV × List Blk)} (hk:KP k) (id:Nat):KP (blockK id k):=by
 intro ex st x h
 cases ex with
 | normal=>exact hk .normal st x h
 | exit j =>
  simp only[blockK]at h
  cases hj:(j==id) with
  | true=>rw[hj]at h;exact hk .normal st x h
  | false=>rw[hj]at h;exact hk (.exit j) st x h
 | ret=>exact hk .ret st x h
theorem KP.loop (hnv:F.cfg.nvars≤argSite) {k:Ex→St→Option (List AV × List Blk)} (hk:KP k) (c:Code) (m:Nat):KP (loopK T C F n c m k):=by
 have key:∀ (m:Nat) (st:St) (x:List AV × List Blk),loopN (forgetAt F.cfg c) (fun st' k'=>runCode T C F n c st' k') m st k=some x→Has x st:=by
  intro m
  induction m with
  | zero=>intro st x h;simp[loopN]at h
  | succ m ih =>
   intro st x h
   rw[loopN_loopK]at h
   refine has_code hnv c _ (fun ex st x h=>?_) st x h
   cases ex with
   | normal =>
    simp only[loopK,forceSt_eq]at h
    exact(ih _ x h).sub (forgetAt_log _ _ _)
   | exit id=>exact hk (.exit id) st x h
   | ret=>exact hk .ret st x h
 intro ex st x h
 cases ex with
 | normal =>
  simp only[loopK,forceSt_eq]at h
  exact(key m _ x h).sub (forgetAt_log _ _ _)
 | exit id=>exact hk (.exit id) st x h
 | ret=>exact hk .ret st x h
end
end Go.Skm
namespace Go.Skm
open Go.RowKit
def gcx (gl:Option (List (Nat × Obj))) (wd:World) (M0:Nat→Prop) (on:Bool) (done:List PV) (t0:Array Value) (ys:List Nat) (yv:Value):Cx :=
 { w0:=⟨wd,wd.heap.size,Nat.le_refl _,gl⟩,Pr:=fun _=>False,M0:=M0,β0:=fun _=>none,hp0:=[(argSite,.log on done)],Wr:=fun _=>True,t0,rd:=none,L0:=[],nm:=wd.heap.size,Ys:=fun t=>t∈ys,yv:=yv }
structure Gv where
 W0:World
 M0:Nat→Prop
 J:List PV→(Nat→Prop)→World→Prop
 Jx:World→Prop
 t0:Array Value
 l:Nat
 gl:Option (List (Nat × Obj))
 ys:List Nat
abbrev Gv.yv (G:Gv):Value:=.func (.yield G.l) #[] #[]
structure Gv.Ok (G:Gv) (P:Program):Prop where
 j:∀ r O W W',G.J r O W→Grows G.gl W W'→G.J r O W'
 jx:∀ W W',G.Jx W→Grows G.gl W W'→G.Jx W'
 lt:∀ r O W,G.J r O W→∀ b,O b→b<W.heap.size
 y:∀ vs r O W (M:Nat→Prop) cargs,G.J (.agg vs::r) O W→G.W0.heap.size≤W.heap.size→(∀ b,M b→b<W.heap.size∧¬ O b∧(G.M0 b∨G.W0.heap.size≤b))→cargs.size=vs.length→(∀ i c,vs[i]?=some c→VR W M c (cargs.getD i undef))→YldOk P G.gl G.l cargs W (G.J r) G.Jx O
def GI (G:Gv) (x:List AV × List Blk) (st:St) (a:Act) (w:World):Prop :=
 ∃ wd Mk on done,Inv (gcx G.gl wd Mk on done G.t0 G.ys G.yv) st a w∧(∀ b zs,look st.heap argSite=some (.log b zs)→b=on∧zs=done)∧G.W0.heap.size≤wd.heap.size∧(∀ b,Mk b→b<wd.heap.size∧(G.M0 b∨G.W0.heap.size≤b)) ∧
  ((on=true∧∃ rest O,logOf x.2=done++rest∧G.J rest O wd∧∀ b,Mk b→¬ O b)∨(on=false∧G.Jx wd))
section
variable {P:Program} {G:Gv} {x:List AV × List Blk} {st st':St} {a a':Act} {w w':World}
theorem GI.map (g:GI G x st a w) (h:∀ cx,Inv cx st a w→Inv cx st' a' w') (hl:LogSub st st'):GI G x st' a' w':=by
 obtain⟨wd,Mk,on,done,i,h1,h2,h3,h4⟩:=g
 exact⟨wd,Mk,on,done,h _ i,fun b zs hb=>h1 b zs (hl b zs hb),h2,h3,h4⟩
theorem AR.swap {w:World} {M:Nat→Prop} {β:Nat→Option (Nat × Nat)} {h h':Nat→Option Blk} (hh:∀ s blk,h s=some blk→(∀ b zs,blk≠.log b zs)→h' s=some blk) {v:AV} {c:Value} (hv:AR w M β h v c):AR w M β h' v c:=by
 induction hv with
 | undef c=>exact .undef c
 | p v c hv=>exact .p v c hv
 | slice s off len a ks xs b o cap h1 hl hb hcap hr=>exact .slice s off len a ks xs b o cap (hh _ _ h1 (by simp)) hl hb hcap hr
 | sliceE s off a ks xs base h1 hl=>exact .sliceE s off a ks xs base (hh _ _ h1 (by simp)) hl
 | bslice s off len cs b o cap h1 hl hb hcap=>exact .bslice s off len cs b o cap (hh _ _ h1 (by simp)) hl hb hcap
 | bsliceE s off cs base h1 hl=>exact .bsliceE s off cs base (hh _ _ h1 (by simp)) hl
 | ptrB s off cs b o h1 hb=>exact .ptrB s off cs b o (hh _ _ h1 (by simp)) hb
 | ptrA s idx off a ks xs b o h1 hi hb=>exact .ptrA s idx off a ks xs b o (hh _ _ h1 (by simp)) hi hb
 | lptr a ks x off b o f hM hx hc hv=>exact .lptr a ks x off b o f hM hx hc hv
 | fn f cs vs hn _ ih=>exact .fn f cs vs hn ih
 | agg cs vs hn hl _ ih=>exact .agg cs vs hn hl ih
 | tup cs vs hn _ ih=>exact .tup cs vs hn ih
 | yld l=>exact .yld l
 | ptrT s off t c0 c1 b h1 hb=>exact .ptrT s off t c0 c1 b (hh _ _ h1 (by simp)) hb
 | ptrM s t es b o h1 hb=>exact .ptrM s t es b o (hh _ _ h1 (by simp)) hb
 | ptrR s e xs b cap h1 hb hcap h0 hr=>exact .ptrR s e xs b cap (hh _ _ h1 (by simp)) hb hcap h0 hr
 | ptrRE s e h1=>exact .ptrRE s e (hh _ _ h1 (by simp))
theorem Rel.relist {w0:Base} {Pr M0 M:Nat→Prop} {β:Nat→Option (Nat × Nat)} (r:Rel w0 Pr M0 M β st a w) {b0:Bool} {zs0:List PV} (h0:look st.heap argSite=some (.log b0 zs0)) (b:Bool) (zs:List PV):Rel w0 Pr M0 M β { st with heap:=put st.heap argSite (.log b zs) } a w:=by
 have hlk:∀ s,look (put st.heap argSite (.log b zs)) s=if s=argSite then some (.log b zs) else look st.heap s:=fun s=>look_put _ _ _ _
 have key:∀ {v:AV} {c:Value},AR w M β (look st.heap) v c→AR w M β (look (put st.heap argSite (.log b zs))) v c:=fun hv=>hv.swap fun s blk hs hn=>by
  rw[hlk]
  by_cases e:s=argSite
  · subst e;rw[h0]at hs;cases hs;exact absurd rfl (hn _ _)
  · rw[if_neg e];exact hs
 have live:∀ s,(look (put st.heap argSite (.log b zs)) s).isSome=true→(look st.heap s).isSome=true:=by
  intro s hs
  rw[hlk]at hs
  by_cases e:s=argSite
  · subst e;rw[h0];rfl
  · rw[if_neg e]at hs;exact hs
 refine⟨r.tsize,fun t v hv=>key (r.env t v hv),fun s blk hs=>?_,fun s b o hs hb=>r.own s b o (live s hs) hb,fun s s' b o o' hs hs'=>r.inj s s' b o o' (live s hs) (live s' hs'),r.msub,r.mnew,r.mold,r.keep,r.room,r.size,r.os,r.tape,r.output,r.glob⟩
 have hs:look (put st.heap argSite (.log b zs)) s=some blk:=hs
 rw[hlk]at hs
 by_cases e:s=argSite
 · rw[if_pos e]at hs;cases hs;exact .log _ _
 · rw[if_neg e]at hs
   cases r.heap s blk hs with
   | box cs b o C e fr k1 k2 k3 k4 k5 k6=>exact .box cs b o C e fr k1 k2 k3 k4 k5 fun j c hj=>key (k6 j c hj)
   | arrE a ks=>exact .arrE a ks
   | log on ys=>exact .log on ys
   | arr a ks xs b o C e fr k1 k2 k3 k4 k5 k6=>exact .arr a ks xs b o C e fr k1 k2 k3 k4 k5 k6
   | tb t c0 c1 b C fr k1 k2 k3 k4 k5 k6 k7 k8=>exact .tb t _ _ b C fr k1 k2 k3 k4 k5 k6 (key k7) (key k8)
   | mp t es b o E k k1 k2 k3 k4=>exact .mp t es b o E k k1 k2 k3 k4
   | brE e=>exact .brE e
   | br e xs b C fr k1 k2 k3 k4 g5 g6=>exact .br e xs b C fr k1 k2 k3 k4 g5 g6
theorem keysBut_mem {s k:Nat}:∀ {h:Heap},k∈keysBut s h↔k≠s∧(look h k).isSome=true
 | []=>by simp[keysBut,look]
 | (t,c)::h=>by
  have ih:=keysBut_mem (s:=s) (k:=k) (h:=h)
  simp only[keysBut,look]
  by_cases hts:t=s
  · subst hts
    simp only[beq_self_eq_true,cond_true]
    rw[ih]
    by_cases htk:t=k
    · subst htk;simp
    · have:(t==k)=false:=by simpa using htk
      simp[this]
  · have:(t==s)=false:=by simpa using hts
    simp only[this,cond_false,List.mem_cons]
    rw[ih]
    by_cases htk:t=k
    · subst htk;simp[hts]
    · have h2:(t==k)=false:=by simpa using htk
      rw[h2]
      simp only[cond_false]
      constructor
      · rintro (rfl | h)
        · exact absurd rfl htk
        · exact h
      · exact .inr
theorem refEnv_length {h:Nat→Option Blk} {ss:List Nat}:∀ (l:List AV),(refEnv h ss l).length=l.length
 | []=>rfl
 | v::r=>by simp[refEnv,refEnv_length r]
theorem refEnv_get {h:Nat→Option Blk} {ss:List Nat}:∀ (l:List AV) (t:Nat),(refEnv h ss l)[t]?=(l[t]?).map (refKill h ss)
 | [],t=>by simp[refEnv]
 | v::r,0=>by simp[refEnv]
 | v::r,t+1=>by simp[refEnv,refEnv_get r t]
theorem refOf_ok {w0:Base} {Pr M0 M:Nat→Prop} {β:Nat→Option (Nat × Nat)} (r:Rel w0 Pr M0 M β st a w) {v:AV} {y:PV} {c:Value} (h:refOf (hideH [argSite] (look st.heap)) v=some y) (hv:AR w M β (look st.heap) v c):VR w (Mplus M β (keysBut argSite st.heap)) y c:=by
 unfold refOf at h
 split at h
 · rename_i s
   split at h
   · rename_i cs hs
     split at h
     · rename_i vs hp
       cases h
       have hne:s≠argSite:=by
        rintro rfl
        simp[hideH,memN]at hs
       have hs':look st.heap s=some (.box cs):=by
        have:memN s [argSite]=false:=memN_false.2 (by simp[hne])
        simpa only[hideH,this,cond_false] using hs
       have hd:deepC (look st.heap) (.ptr s 0 0)=some (.ref vs,[s]):=by
        have hcs:=pures_ok hp
        have:∀ l:List PV,deeps1 (look st.heap) (l.map .p)=some (l,[]):=by
         intro l
         induction l with
         | nil=>rfl
         | cons x l ih=>simp only[List.map_cons,deeps1,deep1,ih];rfl
        simp only[deepC,hs',hcs,this]
       obtain⟨d1,_,_⟩:=deepC_ok r.heap (fun _ _ h=>h) hd hv
       refine d1.mono fun b hb=>⟨hb.imp id fun ⟨s',o,h1,h2⟩=>⟨s',o,?_,h2⟩,rfl⟩
       simp only[List.mem_singleton]at h1
       subst h1
       exact keysBut_mem.2 ⟨hne,by rw[hs'];rfl⟩
     · cases h
   · cases h
 · cases h
theorem GI.after {wd : World} {Mk : Nat → Prop} {done : List PV} (hG : G.Ok P) (i : Inv (gcx G.gl wd Mk true done G.t0 G.ys G.yv) st a w) (hl : look st.heap argSite = some (.log true done)) (h2 : G.W0.heap.size ≤ wd.heap.size) (h3 : ∀ b,Mk b → b < wd.heap.size ∧ (G.M0 b ∨ G.W0.heap.size ≤ b)) {O : Nat → Prop} {vs rest : List PV}
    (hJ:G.J (.agg vs::rest) O wd) (hMO:∀ b,Mk b→¬ O b) {W':World} (ht:Turns G.gl O w W') {d:Option Nat} (hd:∀ t,d=some t→t ∉ G.ys) (b:Bool)
    (h4:(b=true∧(∃ O',G.J rest O' W'∧∀ c,O' c→O c∨w.heap.size≤c)∧∃ ys,logOf x.2=(done++[.agg vs])++ys∧ys=rest)∨(b=false∧G.Jx W')):GI G x (afterYield st d done vs b) (a.put d (.bool b)) W':=by
  obtain⟨M,β,L,ds,r,i1,i2,i3,fx⟩:=i
  have hds:ds=[]:=fx.one fun h=>h done (by simp[gcx,look])
  subst hds
  have hgs:wd.heap.size≤w.heap.size:=r.size
  have hts:=ht.size
  have hOlt:=hG.lt _ _ _ hJ
  have hn0:∀ c s o,s∈keysBut argSite st.heap→β s=some (c,o)→wd.heap.size≤c:=fun c s o hs hb=>by
   rcases(r.own s c o (keysBut_mem.1 hs).2 hb).2.2.1 with h | h
   · exact h
   · exact h.elim
  have r0:=r.strike (keysBut argSite st.heap) (M':=Mplus M β (keysBut argSite st.heap)) (fun _ h=>.inl h) (fun c h=>by
   rcases h with h | ⟨s,o,h1,h2⟩
   · exact .inl h
   · exact .inr ⟨hn0 c s o h1 h2,s,o,h1,(keysBut_mem.1 h1).2,h2⟩)
  have r1:Rel _ _ _ (Mplus M β (keysBut argSite st.heap)) β { env:=refEnv (hideH [argSite] (look st.heap)) (keysBut argSite st.heap) st.env,heap:=(st.strike (keysBut argSite st.heap)).heap } a w:=r0.slots (by rw[refEnv_length];exact r.tsize) fun t v hv=>by
   rw[refEnv_get]at hv
   cases he:st.env[t]? with
   | none=>rw[he]at hv;cases hv
   | some u =>
    rw[he]at hv
    simp only[Option.map_some,Option.some.injEq]at hv
    have hu:=r.env t u he
    unfold refKill at hv
    cases hr:refOf (hideH [argSite] (look st.heap)) u with
    | some y =>
     rw[hr]at hv
     subst hv
     exact .p _ _ (refOf_ok r hr hu)
    | none =>
     rw[hr]at hv
     subst hv
     refine r0.env t _ ?_
     have hs:∀ ss:List Nat,(st.strike ss).env=killEnv ss st.env:=fun ss=>by
      cases ss with
      | nil=>show st.env=_;rw[killEnv_nil]
      | cons _ _=>rfl
     rw[hs,killEnv_get,he]
     rfl
  have hls:look (st.strike (keysBut argSite st.heap)).heap argSite=some (.log true done):=by
   rw[look_strike,if_neg (fun h=>(keysBut_mem.1 h).1 rfl),hl];rfl
  have hon:∀ s,(look (st.strike (keysBut argSite st.heap)).heap s).isSome=true→s=argSite:=fun s hs=>by
   rw[look_strike]at hs
   by_cases h:s∈keysBut argSite st.heap
   · rw[if_pos h]at hs;cases hs
   · rw[if_neg h]at hs
     by_cases e:s=argSite
     · exact e
     · exact absurd (keysBut_mem.2 ⟨e,by simpa using hs⟩) h
  have hMn:∀ c,Mplus M β (keysBut argSite st.heap) c→c<w.heap.size∧¬ O c∧(G.M0 c∨G.W0.heap.size≤c):=fun c hc=>by
   refine⟨r0.msub c hc,fun ho=>?_,?_⟩
   · rcases r0.mnew c hc with h | ⟨h,_⟩
     · exact hMO c h ho
     · have:=hOlt c ho
       have h:wd.heap.size≤c:=h
       omega
   · rcases r0.mnew c hc with h | ⟨h,_⟩
     · exact(h3 c h).2
     · have h:wd.heap.size≤c:=h
       right;omega
  let Mn:Nat→Prop:=fun c=>c<w.heap.size∧¬ O c∧(G.M0 c∨G.W0.heap.size≤c)
  have hβ:∀ c o,β argSite≠some (c,o):=fun c o h=>by rw[i1 argSite (Nat.le_refl _)]at h;cases h
  have hno:∀ s c o,(look (st.strike (keysBut argSite st.heap)).heap s).isSome=true→β s≠some (c,o):=fun s c o hs h=>by rw[hon s hs]at h;exact hβ c o h
  have r2:Rel ⟨W',W'.heap.size,Nat.le_refl _,G.gl⟩ (fun _=>False) Mn Mn β { env:=refEnv (hideH [argSite] (look st.heap)) (keysBut argSite st.heap) st.env,heap:=(st.strike (keysBut argSite st.heap)).heap } a W' :=
   r1.to rfl (fun c hc=>⟨hMn c hc,ht.keep c (hMn c hc).1 (hMn c hc).2.1⟩) (fun s c o hs h=>absurd h (hno s c o hs)) (fun c hc=>Nat.lt_of_lt_of_le hc.1 hts) (fun c hc=>.inl hc) (fun c hc=>hc) (fun _ _ _=>rfl) (fun _ _ _ h=>h.elim) (Nat.le_refl _) rfl rfl rfl
  have r3:=(r2.setEnv d (v:=.p (.bool b)) (c:=.bool b) (.p _ _ (.bool b))).relist (b0:=true) (zs0:=done) hls b (done++[.agg vs])
  refine⟨W',Mn,b,done++[.agg vs],⟨Mn,β,[],[],r3,i1,fun s hs blk hb=>?_,.refl _ _,⟨fun p hp=>by simp at hp,fun p hp=>hp,?_,List.nodup_nil,fun D hD=>by simp at hD,fun l hl=>(by cases hl),(put_size _ _ _).trans fx.size,fun t ht=>absurd trivial ht,fun _=>rfl,fun t ht=>?_,Nat.le_refl _⟩⟩,fun c zs hc=>?_,by omega,fun c hc=>⟨Nat.lt_of_lt_of_le hc.1 hts,hc.2.2⟩,?_⟩
  · have hb:look (put (st.strike (keysBut argSite st.heap)).heap argSite (.log b (done++[.agg vs]))) s=some blk:=hb
    rw[look_put]at hb
    by_cases e:s=argSite
    · subst e
      rw[if_pos rfl]at hb;cases hb
      exact⟨.log b (done++[.agg vs]),by simp[gcx,look],rfl⟩
    · rw[if_neg e]at hb
      exact absurd (hon s (by rw[hb];rfl)) e
  · rw[put_defers];exact fx.marks
  · rw[put_get fun e=>hd t e ht];exact fx.yl t ht
  · rw[afterYield_look]at hc;cases hc;exact⟨rfl,rfl⟩
  · rcases h4 with ⟨rfl,⟨O',k1,k2⟩,ys,k3,rfl⟩ | ⟨rfl,k1⟩
    · refine .inl ⟨rfl,_,O',k3,k1,fun c hc ho=>?_⟩
      rcases k2 c ho with h | h
      · exact hc.2.1 h
      · have:=hc.1;omega
    · exact .inr ⟨rfl,k1⟩
theorem wanted_guard {all:List Oper} {ops:Array Oper} (he:ops.toList=all) {cx:Cx} (i:Inv cx st a w) {o:Oper} {b:Bool} (h:guardOf all o st.env=some b):Region.wanted o (yielded ops a.tmps)=b:=by
 unfold guardOf at h
 cases hg:o.guard with
 | none=>rw[hg]at h;cases h;simp[Region.wanted,hg]
 | some gw =>
  obtain⟨g,want⟩:=gw
  rw[hg]at h
  simp only at h
  cases hd:dstOf all g with
  | none=>rw[hd]at h;cases h
  | some t =>
   rw[hd]at h
   simp only at h
   split at h
   · rename_i c hc
     cases h
     have hy:=yielded_of he hd i hc
     simp only[Region.wanted,hg,hy]
     cases c<;>cases want<;>rfl
   · rename_i hc
     cases h
     have hy:=yielded_hole he hd i hc
     simp only[Region.wanted,hg,hy]
     rfl
   · cases h
theorem exec_yield {ρ : Operand → Value} {dst : Option Tmp} {fo : Operand} {args : Array Operand} {ts : Array TypeId} {type : TypeId} {pos : String} {after : Array Edge} {guard : Option (Nat × Bool)} {l : Nat} (h : ρ fo = .func (.yield l) #[] #[]) :
    (execOp ρ ⟨dst,.call ⟨.value fo,args,ts⟩,type,pos,after,guard⟩)=Instr.yield l (args.map ρ):=by
  simp only[execOp,resolve,h,Deferred.ofValue]
  simp[invoke]
end
end Go.Skm
namespace Go.Skm
section
variable {P:Program} {T:Tab} {w0:Base} {Pr M0 M:Nat→Prop} {β β0:Nat→Option (Nat × Nat)} {hp0:Heap} {st st':St} {a:Act} {w:World}
theorem var_live {keep:Bool} {b0 b1:Blk} {x:Nat} (hx:(look (varHeap keep [b0,b1]) x).isSome=true):x=argSite∨x=varSite keep:=by
 rw[look_var]at hx
 by_cases h1:x=argSite
 · exact .inl h1
 · rw[if_neg h1]at hx
   by_cases h2:x=varSite keep
   · exact .inr h2
   · rw[if_neg h2]at hx;cases hx
theorem Rel.startV {keep : Bool} {args : List AV} {b0 b1 : Blk} {cargs : Array Value} (hp : VarPre keep w M β args [b0,b1] cargs) {gl : Option (List (Nat × Obj))} (hgl : ∀ p ∈ gl.getD [],M p.1 ∧ w.heap[p.1]? = some p.2) (fn : Func) {n0 : Nat} (le : n0 ≤ w.heap.size) (hn0 : keep = true ∨ n0 = 0) :
    Rel ⟨w,n0,le,gl⟩ (fun b=>∃ x o,(look (varHeap keep [b0,b1]) x).isSome=true∧β x=some (b,o)) M M β { env:=args++List.replicate (fn.ntmps-args.length) .undef,heap:=varHeap keep [b0,b1] } { tmps:=cargs++Array.replicate (fn.ntmps-cargs.size) undef,defers:=[] } w:=by
  have hn:=hp.num
  refine⟨?_,fun t v ht=>?_,fun s blk hs=>hp.blk s blk hs,fun s b o hs hb=>?_,hp.inj,hp.msub,fun b h=>.inl h,fun b h=>h,fun b _ _=>rfl,fun b n _ _ h=>h,Nat.le_refl _,rfl,rfl,rfl,hgl⟩
  · simp[hn]
  · by_cases hlt:t<args.length
    · have ht' : args[t]? = some v := by
        rwa[List.getElem?_append_left hlt]at ht
      have:=hp.args t v ht'
      have e:(cargs++Array.replicate (fn.ntmps-cargs.size) undef).getD t undef=cargs.getD t undef:=by
       rw[Array.getD_eq_getD_getElem?,Array.getD_eq_getD_getElem?,Array.getElem?_append_left (by omega)]
      rw[e];exact this
    · have : v = .undef := by
        rw[List.getElem?_append_right (by omega),List.getElem?_replicate]at ht
        split at ht
        · simpa using ht.symm
        · cases ht
      subst this
      exact .undef _
  · obtain⟨g1,g2⟩:=hp.own s b o hs hb
    refine⟨g1,g2,.inr ⟨s,o,hs,hb⟩,?_⟩
    rcases var_live hs with rfl | rfl
    · exact .inr (Nat.le_refl _)
    · rcases hn0 with rfl | rfl
      · right;simp[varSite,argSite]
      · exact .inl (Nat.zero_le _)
theorem deepRets_none {h:Nat→Option Blk} {ms:List RetMode} {ts:List TypeId} {rs:List AV} {cs:List Value} {ps:List (Option (Nat × Nat))} (hr:ResL T w M β h ms ts rs cs ps) (hd:deepRets ms=true):∀ p∈ps,p=none:=by
 induction hr with
 | nil ms=>intro p hp;simp at hp
 | cons ms t ts v vs c cs p ps h1 h2 h3 ih =>
  have hm:ms.headD .deep=.deep∧deepRets ms.tail=true:=by
   cases ms with
   | nil=>exact⟨rfl,rfl⟩
   | cons m ms =>
    cases m<;>simp[deepRets]at hd
    exact⟨rfl,hd⟩
  intro q hq
  rcases List.mem_cons.1 hq with rfl | hq
  · rw[hm.1]at h1;cases h1;rfl
  · exact ih hm.2 q hq
theorem noLog_var {keep:Bool} {z off len:Nat} {sa:Bool} {ks:List Kd} {xs:List PV}:NoLog (varHeap keep [.box [.slice (varSite keep) z off len],.arr sa ks xs]):=by
 intro ys he
 rw[look_var,if_pos rfl]at he
 cases he
theorem call_stepV (ok : TabOk P T) {X : Ext} {gl : Option (List (Nat × Obj))} (hX : ExtOk P T gl X) {n : Nat} (hC : CallOk P T gl (acall T X n)) (hS : SeqOk P T gl (acall T X n)) :
    ∀ f fi args z off len sa ks xs rs bl',tlook T.funcs f=some fi→fi.cfg.vcall=true→acall T X (n+1) f args [.box [.slice (varSite fi.cfg.vkeep) z off len],.arr sa ks xs]=some (rs,bl')→(∃ c,fi.fn.body=some c) ∧
    ∀ (w:World) (M:Nat→Prop) (β:Nat→Option (Nat × Nat)) (cargs:Array Value),(∀ p∈gl.getD [],M p.1∧w.heap[p.1]?=some p.2)→VarPre fi.cfg.vkeep w M β args [.box [.slice (varSite fi.cfg.vkeep) z off len],.arr sa ks xs] cargs →
     Calls P f cargs w fun e w'=>∃ cs M',e=.returned (wrapV cs)∧VarPost gl T fi w M β sa ks xs rs bl' w' M' cs:=by
  intro f fi args z off0 len0 sa ks xs rs bl' hf hvc h
  simp only[acall,hf]at h
  cases hx:X f with
  | some s =>
   rw[hx]at h
   obtain⟨_,h1,_⟩:=hX f fi s args _ rs bl' hf hx h
   have:=h1 _ (List.mem_cons_self ..)
   simp[pureBlk,pures]at this
  | none =>
   rw[hx]at h
   simp only at h
   cases hb:fi.fn.body with
   | none=>rw[hb]at h;cases h
   | some c =>
    rw[hb]at h
    simp only[callB,hvc,cond_true,forceAVs_eq,forceBlks_eq,forceSt_eq,startF,retF]at h
    refine⟨⟨c,rfl⟩,fun w M β cargs hgl hp=>?_⟩
    obtain⟨hfn,hname,hdr,hret⟩:=ok.funcs f fi hf
    have hle:cond fi.cfg.vkeep w.heap.size 0≤w.heap.size:=by cases fi.cfg.vkeep<;>simp
    let cx:Cx:={ w0:=⟨w,cond fi.cfg.vkeep w.heap.size 0,hle,gl⟩,Pr:=fun b=>∃ x o,(look (varHeap fi.cfg.vkeep [.box [.slice (varSite fi.cfg.vkeep) z off0 len0],.arr sa ks xs]) x).isSome=true∧β x=some (b,o),M0:=M,β0:=β,hp0:=varHeap fi.cfg.vkeep [.box [.slice (varSite fi.cfg.vkeep) z off0 len0],.arr sa ks xs],Wr:=fun _=>True,t0:=cargs++Array.replicate (fi.fn.ntmps-cargs.size) undef,rd:=none,L0:=[],nm:=w.heap.size }
    have hi:Inv cx { env:=args++List.replicate (fi.fn.ntmps-args.length) .undef,heap:=varHeap fi.cfg.vkeep [.box [.slice (varSite fi.cfg.vkeep) z off0 len0],.arr sa ks xs] } { tmps:=cargs++Array.replicate (fi.fn.ntmps-cargs.size) undef,defers:=[] } w :=
     ⟨M,β,[],[],Rel.startV hp hgl fi.fn hle (by cases fi.cfg.vkeep<;>simp),fun _ _=>rfl,fun s _ b hb=>⟨b,hb,Like.refl b⟩,.refl _ _,⟨fun p hp=>by simp at hp,fun p hp=>by simp[cx]at hp,rfl,List.nodup_nil,fun D hD=>by simp at hD,fun l hl=>(by cases hl),rfl,fun _ _=>rfl,fun _=>rfl,fun _ h=>h.elim,Nat.le_refl _⟩⟩
    refine calls_of_fw (rd:=none) (n:=0) (callsIn_of_wp_marks hfn hb trivial ?_)
    refine sim_codeG (ng:=false) (codeSim_inv (m:=0) ok hC (ok.nvars f fi hf) (rs,bl')) (fun _ f ps y z hy hz=>sim_range ok hS hy hz) c ⟨cx,noLog_var,rfl⟩ _ _ w _ _ _ trivial h (hdr c hb) (fun h=>by cases h) (fun _ _=>⟨fun _ _=>trivial,fun _ _ h=>h.elim⟩) ⟨rfl,hi⟩ fun ex x' st a w1 hk i=>?_
    obtain⟨rfl,i⟩:=i
    have hk':retV T fi.cfg fi.fn [.box [.slice (varSite fi.cfg.vkeep) z off0 len0],.arr sa ks xs] st=some (rs,bl')∧(ex=.normal∨ex=.ret):=by
     cases ex with
     | normal=>exact⟨hk,.inl rfl⟩
     | exit id=>cases hk
     | ret=>exact⟨hk,.inr rfl⟩
    obtain⟨hk,hex⟩:=hk'
    obtain⟨M1,β1,L1,ds1,r1,e1,e2,e3',fx1⟩:=i
    have goal:LeavesInM (FW none) 0 P fi.fn a.tmps (fun e w'=>∃ cs M',e=.returned (wrapV cs)∧VarPost gl T fi w M β sa ks xs rs bl' w' M' cs) a.defers .returning w1:=by
     rw[fx1.marks]
     refine leaves_marks ds1 w1 fx1.nodup (fun D hD=>(fx1.lies _ (fx1.mark D hD).1).1) fun w' q1 q2 q3 q4 q5 q6=>?_
     have r:=Inv.shut r1 fx1 rfl q1 q2 q3 q4 q5
     have e3:DrawnLe gl w.drawn w'.drawn:=by rw[q6];exact e3'
     unfold retV at hk
     split at hk
     case h_2=>cases hk
     rename_i vs b0 a0 ks0 xs0 hvs hbl
     simp only[List.cons.injEq,Blk.arr.injEq,and_true]at hbl
     obtain⟨_,rfl,rfl,rfl⟩:=hbl
     split at hk
     case h_2=>cases hk
     rename_i X z1 off len hbox
     split at hk
     case h_2=>cases hk
     rename_i a1 ks1 ys harr
     cases hcd:(a1==sa&&Kd.beqs ks1 ks)&&(deepRets fi.cfg.rets&&cond fi.cfg.vkeep (X==100001) (Nat.blt X 100000)) with
     | false=>rw[hcd]at hk;cases hk
     | true =>
     rw[hcd]at hk
     simp only[Bool.and_eq_true,beq_iff_eq]at hcd
     obtain⟨⟨rfl,hks⟩,hdeep,hXs⟩:=hcd
     have:=Kd.beqs_eq _ _ hks
     subst this
     simp only[cond_true]at hk
     split at hk
     case h_2=>cases hk
     rename_i rs' hrv
     simp only[forceAVs_eq,forceBlks_eq,Option.some.injEq,Prod.mk.injEq]at hk
     obtain⟨rfl,rfl⟩:=hk
     obtain⟨cs,g1,g2⟩:=resAll_ok ok r hvs
     have hsub:∀ s b,look (dropAll st.heap [argSite,X]) s=some b→look st.heap s=some b:=fun s b hb=>(dropAll_sub hb).1
     obtain⟨S,ps,p1,p2,p3,p4⟩:=retVals_ok r (hA:=look st.heap) (βA:=β1) (fun j blk hj=>⟨hj,rfl⟩) hrv hsub g2
     have hps:=deepRets_none p1 hdeep
     have hS2:∀ s∈S,(look st.heap s).isSome=true∧s≠argSite∧s≠X:=by
      intro s hs
      obtain⟨b,hb⟩:=Option.isSome_iff_exists.1 (p2 s hs).1
      obtain⟨k1,k2⟩:=dropAll_sub hb
      simp only[List.mem_cons,List.not_mem_nil,or_false,not_or]at k2
      exact⟨by rw[k1];rfl,k2⟩
     have hup:∀ b,M1 b→Mplus M1 β1 S b:=fun b h=>.inl h
     have e0:β1 argSite=β argSite:=e1 argSite (Nat.le_refl _)
     have hnS:∀ x b o,(look st.heap x).isSome=true→β1 x=some (b,o)→(x=argSite∨x=X)→¬ Mplus M1 β1 S b:=by
      intro x b o hx hb hxx hm
      rcases hm with hm | ⟨s',o',hs',hb'⟩
      · exact(r.own x b o hx hb).1 hm
      · have:=r.inj x s' b o o' hx (hS2 s' hs').1 hb hb'
        subst this
        rcases hxx with h | h
        · exact(hS2 _ hs').2.1 h
        · exact(hS2 _ hs').2.2 h
     have hib:(look st.heap argSite).isSome=true:=by rw[hbox];rfl
     have hiX:(look st.heap X).isSome=true:=by rw[harr];rfl
     have hXne:X≠argSite:=by rintro rfl;rw[hbox]at harr;cases harr
     have hPr:∀ x b o,(look st.heap x).isSome=true→β1 x=some (b,o)→x≠argSite→w.heap.size≤b∨∃ o',β (varSite fi.cfg.vkeep)=some (b,o'):=by
      intro x b o hx hb hne
      rcases(r.own x b o hx hb).2.2.1 with h | ⟨y,o',hy,hby⟩
      · exact .inl h
      · rcases var_live hy with rfl | rfl
        · exact absurd (r.inj x argSite b o o' hx hib hb (e0.trans hby)) hne
        · exact .inr ⟨o',hby⟩
     refine⟨wrapV cs,run_results g1,cs,Mplus M1 β1 S,rfl,⟨β1,look st.heap,ps,p1,hps⟩,fun b h=>.inl (r.mold b h),fun b h=>?_,fun b h=>?_,fun b hb h1 h2=>?_,r.size,r.os,r.tape,r.output,e3,?_⟩
     · rcases h with h | ⟨s',o',hs',hb'⟩
       · rcases r.mnew b h with h' | ⟨_,h' | ⟨y,o',hy,hby⟩⟩
         · exact .inl h'
         · exact .inr (.inl h')
         · rcases var_live hy with rfl | rfl
           · exact absurd h (r.own argSite b o' hib (e0.trans hby)).1
           · exact .inr (.inr ⟨o',hby⟩)
       · exact .inr (hPr s' b o' (hS2 s' hs').1 hb' (hS2 s' hs').2.1)
     · rcases h with h | ⟨s',o',hs',hb'⟩
       · exact r.msub b h
       · exact(r.own s' b o' (hS2 s' hs').1 hb').2.1
     · refine r.keep b hb fun ⟨y,o,hy,hby⟩=>?_
       rcases var_live hy with rfl | rfl
       · exact h1 o hby
       · exact h2 o hby
     · have hB:=r.heap argSite _ hbox
       have hA:=r.heap X _ harr
       cases hB with
       | box _ bb bo C e fr k1 k2 k3 k4 k5 k6 =>
       have hcell:=k6 0 _ rfl
       have hz:z1=ks1.length:=by
        generalize C.getD (bo+0) undef=u at hcell
        cases hcell with
        | slice _ _ _ a' ks' xs' b' o' cap h1 hl hb hcap hr=>rw[harr]at h1;cases h1;rfl
        | sliceE _ _ a' ks' xs' base h1 hl=>rw[harr]at h1;cases h1;rfl
       subst hz
       refine⟨off,len,ys,bb,bo,C,e,fr,β1 X,rfl,e0▸k1,hnS argSite bb bo hib k1 (.inl rfl),k2,by simpa using k3,k4,?_,hA.arr_mono hup rfl,fun b o hb=>?_,fun hkp=>?_⟩
       · exact hcell.slice_move harr rfl rfl
       · refine⟨hnS X b o hiX hb (.inr rfl),(r.own X b o hiX hb).2.1,?_,hPr X b o hiX hb hXne⟩
         rintro rfl
         exact hXne (r.inj X argSite b o bo hiX hib hb k1)
       · rw[hkp]at hXs
         have hXs:X=100001:=by simpa using hXs
         have hXv:X=varSite true:=hXs
         have hge:argSite≤X:=by rw[hXs];simp[argSite]
         have eX:β1 X=β X:=e1 X hge
         refine⟨by rw[eX,hXv],?_,fun b o n hb hr=>?_⟩
         · obtain⟨b0,m1,m2⟩:=e2 X hge _ harr
           have m1:look (varHeap fi.cfg.vkeep [.box [.slice (varSite fi.cfg.vkeep) z off0 len0],.arr a1 ks1 xs]) X=some b0:=m1
           rw[look_var,if_neg hXne,hkp,if_pos hXv]at m1
           cases m1
           exact m2.2.2
         · have hlv : (look (varHeap fi.cfg.vkeep [.box [.slice (varSite fi.cfg.vkeep) z off0 len0],.arr a1 ks1 xs]) X).isSome = true := by
             rw[look_var,if_neg hXne,hkp,if_pos hXv];rfl
           have hlt:=(hp.own X b o hlv (eX▸hb)).2
           refine r.room b n ?_ ⟨X,o,hlv,eX▸hb⟩ hr
           show b<cond fi.cfg.vkeep w.heap.size 0
           rw[hkp];exact hlt
    rcases hex with rfl | rfl
    · exact goal
    · exact goal
end
end Go.Skm
namespace Go.Skm
open Go.RowKit
section
variable {P:Program} {T:Tab} {C:CallF} {G:Gv}
theorem rep_get (n i:Nat):((Array.replicate n undef)[i]?).getD undef=undef:=by
 by_cases h:i<n<;>simp[h]
theorem arr_get {A:Array Value} {i:Nat} (h:i<A.toList.length):A.toList[i]?=some (A.getD i undef):=by
 rw[List.getElem?_eq_getElem h]
 simp only[Array.length_toList]at h
 simp[h]
theorem yOp_fit {gl:Option (List (Nat × Obj))} {wd:World} {Mk:Nat→Prop} {on:Bool} {done:List PV} {t0:Array Value} {ys:List Nat} {yv:Value} {o:Oper} (h:yOp ys o=true):OpFit (gcx gl wd Mk on done t0 ys yv) o:=by
 refine⟨fun _ _=>trivial,fun t ht hy=>?_⟩
 have hy:t∈ys:=hy
 simp only[yOp,ht,Bool.and_eq_true]at h
 have h1:=h.1
 simp only[memN_iff.2 hy,cond_true]at h1
 split at h1
 · rename_i s hs;exact⟨s,memN_iff.1 h1,.inl hs⟩
 · rename_i s hs;exact⟨s,memN_iff.1 h1,.inr hs⟩
 · cases h1
theorem ysFrom_mem {n:Nat}:∀ {l:List Nat},ysFrom n l=true→∀ t∈l,t=0∨n<t
 | [],_,t,ht=>by simp at ht
 | x::r,h,t,ht=>by
  simp only[ysFrom,Bool.and_eq_true,Bool.or_eq_true]at h
  rcases List.mem_cons.1 ht with rfl | ht
  · exact h.1.imp Nat.eq_of_beq_eq_true Nat.le_of_ble_eq_true
  · exact ysFrom_mem h.2 t ht
theorem yOps_mem {ys:List Nat}:∀ {l:List Oper},yOps ys l=true→∀ o∈l,yOp ys o=true
 | [],_,o,ho=>by simp at ho
 | x::r,h,o,ho=>by
  simp only[yOps,Bool.and_eq_true]at h
  rcases List.mem_cons.1 ho with rfl | ho
  · exact h.1
  · exact yOps_mem h.2 o ho
theorem sim_textG (ok : TabOk P T) (hC : CallOk P T G.gl C) (hG : G.Ok P) {hd : List (List Nat)} {ops : Array Oper} {k : St → Option (List AV × List Blk)} (hk : ∀ st x,k st = some x → Has x st) {Q : Exit → Act → World → Prop}
    (hQ:∀ x st' a' w',k st'=some x→GI G x st' a' w'→Q .normal a' w'):∀ (l:List Oper) (j:Nat) (st:St) (a:Act) (w:World) (x:List AV × List Blk),(∀ o∈l,yOp G.ys o=true)→runOps T C false hd ops.toList l j st k=some x→GI G x st a w →
    wpListIn (FW none) 0 P ops Q l a w
  | [],j,st,a,w,x,_,h,i=>hQ x st a w h i
  | o::rest,j,st,a,w,x,hw,h,gi=>by
   have ih:=fun st' a' w' x' h i=>sim_textG (hd:=hd) (ops:=ops) ok hC hG hk hQ rest (j+1) st' a' w' x' (fun o ho=>hw o (by simp[ho])) h i
   have step:∀ st1,step1 T C false (hd.getD j []) ops.toList o st=some st1→runOps T C false hd ops.toList rest (j+1) st1 k=some x→wpListIn (FW none) 0 P ops Q (o::rest) a w:=by
    intro st1 h1 h
    obtain⟨wd,Mk,on,done,i,g1,g2⟩:=gi
    have:=sim1 ok hC rfl (yOp_fit (hw o (by simp))) i h1 (rd:=none) (n:=0) (K:=wpListIn (FW none) 0 P ops Q rest) (fun a' w' i'=>ih st1 a' w' x h ⟨wd,Mk,on,done,i',fun b zs hb=>g1 b zs (step1_log h1 b zs hb),g2⟩) (Q:=Q)
    unfold wpListIn
    split
    · rename_i hw;rw[if_pos hw]at this;exact this
    · rename_i hw;rw[if_neg hw]at this;exact⟨fun _ _=>trivial,this⟩
   cases hy:yieldAt false st o with
   | none =>
    rw[runOps_cons _ _ hy]at h
    cases h1:step1 T C false (hd.getD j []) ops.toList o st with
    | none=>rw[h1]at h;cases h
    | some st1=>rw[h1]at h;exact step st1 h1 h
   | some p =>
    obtain⟨xs,vs⟩:=p
    rw[runOps_yield _ _ hy]at h
    cases hg:guardOf ops.toList o st.env with
    | none=>rw[hg]at h;cases h
    | some b =>
     rw[hg]at h
     cases b with
     | false=>exact step _ (by unfold step1;rw[act1_guard,hg]) h
     | true =>
      obtain⟨no,hno,hyes⟩:=fork_some h
      obtain⟨c,ss,ty,_,hop,hce,hyl,hlog,hdp⟩:=yieldAt_log hy
      obtain⟨wd,Mk,on,done,i,g1,g2,g3,g4⟩:=gi
      obtain⟨rfl,rfl⟩:=g1 _ _ hlog
      have hwant:=wanted_guard rfl i hg
      rcases g4 with ⟨_,restL,O,k1,k2,k3⟩ | ⟨hf,_⟩
      case inr=>cases hf
      have i0:=i
      obtain⟨M,β,L,ds,r,i1,i2,i3,fx⟩:=i0
      have hgrow:Grows G.gl wd w:=r.turns i3
      have hgs:wd.heap.size≤w.heap.size:=r.size
      obtain⟨b',zs,q1,ys,q2⟩:=has_ops hk rest (j+1) _ x hyes
      rw[afterYield_look]at q1
      cases q1
      have hrest:restL=.agg vs::ys:=by
       rw[q2,List.append_assoc]at k1
       exact(List.append_cancel_left k1).symm
      subst hrest
      unfold wpListIn
      rw[hwant,if_pos rfl]
      refine wpIn_exec (fun c' hc'=>by rw[hop]at hc';cases hc') ?_
      obtain⟨dst,op,type,pos,after,guard⟩:=o
      simp only at hop
      subst hop
      obtain⟨callee,args,ts⟩:=c
      simp only at hce hdp
      subst hce
      have hyo:=hw _ List.mem_cons_self
      simp only[yOp,Bool.and_eq_true]at hyo
      have hty:ty∈G.ys:=memN_iff.1 hyo.2
      have hdst:∀ t,dst=some t→t ∉ G.ys:=fun t e ht=>by
       subst e
       have:=hyo.1
       simp only[memN_iff.2 ht,cond_true]at this
       cases this
      have hev:a.eval (.tmp ty)=.func (.yield G.l) #[] #[]:=by
       show a.tmps.getD ty undef=_
       rcases fx.yl ty hty with h | h
       · exact h
       · have hs:=r.slot ty
         rw[hyl,h]at hs
         cases hs
      rw[exec_yield hev]
      have hls:ListR w M β (look st.heap) (evalOs st.env args.toList) (args.map a.eval).toList:=by
       rw[Array.toList_map]
       exact r.evalOs _
      obtain⟨d1,d2,d3⟩:=deeps_ok r.heap (fun _ _ h=>h) hdp hls
      have hlt:=hG.lt _ _ _ k2
      obtain⟨fn,tmps,asg,body,hrun,hround⟩:=hG.y vs ys O w (Mplus M β ss) (args.map a.eval) (hG.j _ _ _ _ k2 hgrow) (by omega) (fun b hb=>by
       have out:∀ b,wd.heap.size≤b→¬ O b∧(G.M0 b∨G.W0.heap.size≤b):=fun b hb=>⟨fun ho=>by have:=hlt b ho;omega,by right;omega⟩
       rcases hb with hb | ⟨s,o',hs,hb⟩
       · refine⟨r.msub b hb,?_⟩
         rcases r.mnew b hb with h | ⟨h,_⟩
         · exact⟨k3 b h,(g3 b h).2⟩
         · exact out b h
       · obtain⟨o1,o2,o3,_⟩:=r.own s b o' (d3 s hs) hb
         refine⟨o2,?_⟩
         rcases o3 with h | h
         · exact out b h
         · exact h.elim) (by rw[← Array.length_toList];exact d1.symm) (fun i c hc=>by
       have hi:i<(args.map a.eval).toList.length:=by rw[← d1];exact(List.getElem?_eq_some_iff.1 hc).1
       exact d2 i c _ hc (arr_get hi))
      rw[hrun,Oper.uponIn_round]
      refine⟨FW_depth none,RoundIn.mono hround fun e W' hR=>?_⟩
      obtain⟨ht,(⟨rfl,O',hJ,hO⟩ | ⟨rfl,hJx⟩)⟩:=hR
      · exact ih _ _ W' x hyes (GI.after hG i hlog g2 g3 k2 k3 ht hdst true (.inl ⟨rfl,⟨O',hJ,hO⟩,ys,q2,rfl⟩))
      · exact ih _ _ W' no hno (GI.after hG i hlog g2 g3 k2 k3 ht hdst false (.inr ⟨rfl,hJx⟩))
theorem codeSim_gen (ok:TabOk P T) (hC:CallOk P T G.gl C) (hG:G.Ok P) {F:FI} {n:Nat} (hnv:F.cfg.nvars≤argSite):CodeSim T C F n P 0 KP (fun _:Unit=>none) (fun _ o=>yOp G.ys o=true) (fun _ x st a w=>GI G x st a w) where
 reg:=by
  intro _ id ops draw st a w k x Q hk h hd hw gi hQ
  have hw':∀ o∈ops.toList,yOp G.ys o=true:=hw
  have hk':∀ st x,(forceSt (settle F.cfg ops.toList st) fun st'=>k .normal st')=some x→Has x st:=fun st x h=>by
   rw[forceSt_eq]at h
   exact(hk .normal _ x h).sub (settle_log hnv _ _)
  simp only[runCode]at h
  obtain⟨h,-⟩:=altSt_path h
  cases draw with
  | false =>
   refine wpIn_region_list (sim_textG ok hC hG hk' (fun x' st' a' w' h1 g=>?_) ops.toList 0 st a w x hw' h gi)
   rw[forceSt_eq]at h1
   exact hQ x' _ a' w' h1 (g.map (fun _ i=>i.settle hnv _) (settle_log hnv _ _))
  | true =>
   simp only[drawsOk]at hd
   cases hh:tlook F.hides id with
   | none=>rw[hh]at h;cases h
   | some hid =>
    rw[hh]at h hd
    simp only[Bool.and_eq_true]at hd
    simp only[forceSt_eq]at h
    obtain⟨wd,Mk,on,done,i,g1,g2⟩:=gi.map (st':=st.strike (present st.heap (allSites ops.toList ops.toList))) (fun _ i=>i.strike _) (strike_log _ _)
    refine sim_draw ok hC hd.1 hd.2 h (fun o ho=>yOp_fit (hw' o ho)) i fun st' a' w' h1 i'=>?_
    obtain⟨st2,h2,i2,hl2⟩:=i'.relog (fun on' xs he=>by
     obtain⟨rfl,rfl⟩:=g1 _ _ he
     exact⟨xs,by simp[gcx,look]⟩) h1
    exact hQ x _ a' w' h2 (GI.map (st:=st2) ⟨wd,Mk,on,done,i2,fun b zs hb=>g1 b zs (hl2 b zs hb),g2⟩ (fun _ i=>i.settle hnv _) (settle_log hnv _ _))
 forget:=fun _ x st a w c g=>g.map (fun _ i=>i.forgetAt _ _) (forgetAt_log _ _ _)
 cond:=by
  intro _ x st a w c b g hv
  obtain⟨wd,Mk,on,done,⟨M,β,L,ds,r,_⟩,_⟩:=g
  have hc:=r.evalO c
  rw[hv]at hc
  exact hc.p_bool
 kseq:=fun z k hk=>hk.seq hnv z
 kblock:=fun id k hk=>hk.block id
 kloop:=fun c j k hk=>hk.loop hnv c j
theorem seq_step (ok:TabOk P T) {X:Ext} {gl:Option (List (Nat × Obj))} (hX:ExtOk P T gl X) {n:Nat} (hC:CallOk P T gl (acall T X n)):SeqOk P T gl (acall T X (n+1)):=by
 intro g fi caps x hf hpb h
 simp only[acall,hf]at h
 cases hx:X g with
 | some s =>
  rw[hx]at h
  obtain⟨rs,bl'⟩:=x
  obtain⟨_,h1,_⟩:=hX g fi s _ _ rs bl' hf hx h
  have:=h1 _ (List.mem_singleton.2 rfl)
  simp[pureBlk]at this
 | none =>
  rw[hx]at h
  simp only at h
  cases hb:fi.fn.body with
  | none=>rw[hb]at h;cases h
  | some c =>
   rw[hb]at h
   simp only at h
   have hpb':noRange c=true∧(∀ o∈opsOf c,yOp fi.cfg.ys o=true)∧∀ t∈fi.cfg.ys,t=0∨caps.length<t:=by
    unfold bodyPlain at hpb
    rw[hb]at hpb
    simp only[Bool.and_eq_true]at hpb
    exact⟨hpb.1,yOps_mem hpb.2.2.1,ysFrom_mem hpb.2.1⟩
   have hvc:fi.cfg.vcall=false:=by
    unfold bodyPlain at hpb
    rw[hb]at hpb
    simp only[Bool.and_eq_true,Bool.not_eq_true']at hpb
    exact hpb.2.2.2
   have hcb:callB fi.cfg [.log true []]=true:=by simp[callB,hvc]
   rw[hcb]at h
   simp only[cond_true,forceAVs_eq,forceBlks_eq,forceSt_eq,startF,retF,hvc]at h
   obtain⟨hfn,hname,hdr,hret⟩:=ok.funcs g fi hf
   refine⟨hfn,?_⟩
   intro W0 M0 l lb J Jx O0 hgl hlb hlv hM0 hJ hJx hlt hY h0
   let cargs:Array Value:=#[.func (.yield l) #[] #[]]++lb
   let t0:Array Value:=cargs++Array.replicate (fi.fn.ntmps-cargs.size) undef
   let G:Gv:={ W0,M0,J,Jx,t0,l,gl,ys:=fi.cfg.ys }
   have hc0:cargs[0]?=some (.func (.yield l) #[] #[]):=by
    show (#[Value.func (.yield l) #[] #[]]++lb)[0]?=_
    rw[Array.getElem?_append_left (by simp)];rfl
   have hcs:0<cargs.size:=by
    show 0<(#[Value.func (.yield l) #[] #[]]++lb).size
    rw[Array.size_append]
    show 0<1+lb.size
    omega
   have hG:G.Ok P:=⟨hJ,hJx,hlt,hY⟩
   have hrep:∀ i,((Array.replicate (fi.fn.ntmps-cargs.size) undef)[i]?).getD undef=undef:=fun i=>rep_get _ i
   have hp:CallPre W0 M0 (fun _=>none) (.yld::caps.map .p) [.log true []] cargs:=by
    refine⟨by simp[cargs,hlb];omega,fun i v hi=>?_,fun i b0 hi=>?_,fun i b o hi hb=>(by cases hb),fun i j b o o' hi hj hb=>(by cases hb),fun b hb=>(hM0 b hb).1⟩
    · cases i with
      | zero =>
       simp at hi;subst hi
       have:cargs.getD 0 undef=.func (.yield l) #[] #[]:=by rw[Array.getD_eq_getD_getElem?,hc0];rfl
       rw[this];exact .yld l
      | succ i =>
       simp only[List.getElem?_cons_succ,List.getElem?_map,Option.map_eq_some_iff]at hi
       obtain⟨c,hc,rfl⟩:=hi
       have:cargs.getD (i+1) undef=lb.getD i undef:=by
        simp only[cargs,Array.getD_eq_getD_getElem?]
        rw[Array.getElem?_append_right (by simp)]
        simp
       rw[this];exact .p _ _ (hlv i c hc)
    · cases i with
      | zero=>simp at hi;subst hi;exact .log _ _
      | succ i=>simp at hi
   have hr:Rel ⟨W0,W0.heap.size,Nat.le_refl _,gl⟩ (fun _=>False) M0 M0 (fun _=>none) (startSt fi.fn (.yld::caps.map .p) [.log true []]) { tmps:=t0,defers:=[] } W0:=by
    have:=Rel.start hp hgl fi.fn
    rwa[show (fun b=>∃ i o,i<[Blk.log true []].length∧(none:Option (Nat × Nat))=some (b,o))=fun _=>False from funext fun b=>propext ⟨fun ⟨_,_,_,h⟩=>(by cases h),fun h=>h.elim⟩]at this
   have hlk:look (startSt fi.fn (.yld::caps.map .p) [.log true []]).heap argSite=some (.log true []):=by
    show look (initHeap 0 [.log true []]) (argSite+0)=_
    rw[look_init0];rfl
   have hgi:GI G x (startSt fi.fn (.yld::caps.map .p) [.log true []]) { tmps:=t0,defers:=[] } W0:=by
    refine⟨W0,M0,true,[],⟨M0,fun _=>none,[],[],hr,fun _ _=>rfl,fun s _ blk hb=>⟨blk,?_,Like.refl _⟩,.refl _ _,⟨fun p hp=>by simp at hp,fun p hp=>hp,rfl,List.nodup_nil,fun D hD=>by simp at hD,fun l hl=>(by cases hl),rfl,fun _ _=>rfl,fun _=>rfl,fun t ht=>?_,Nat.le_refl _⟩⟩,fun b zs hb=>?_,Nat.le_refl _,fun b hb=>⟨(hM0 b hb).1,.inl hb⟩,.inl ⟨rfl,logOf x.2,O0,rfl,h0,fun b hb=>(hM0 b hb).2⟩⟩
    · exact hb
    · rcases hpb'.2.2 t ht with rfl | hlt
      · left
        show t0.getD 0 undef=_
        rw[Array.getD_eq_getD_getElem?]
        show ((cargs++Array.replicate (fi.fn.ntmps-cargs.size) undef)[0]?).getD undef=_
        rw[Array.getElem?_append_left hcs,hc0];rfl
      · right
        show t0.getD t undef=_
        have hsz:cargs.size=1+lb.size:=by
         show (#[Value.func (.yield l) #[] #[]]++lb).size=_
         rw[Array.size_append];rfl
        rw[Array.getD_eq_getD_getElem?]
        show ((cargs++Array.replicate (fi.fn.ntmps-cargs.size) undef)[t]?).getD undef=_
        rw[Array.getElem?_append_right (by omega)]
        exact hrep _
    · rw[hlk]at hb;cases hb;exact⟨rfl,rfl⟩
   let kf:Ex→St→Option (List AV × List Blk):=fun ex st=>match ex with
    | .exit _=>none
    | _=>retK T fi.cfg fi.fn [.log true []] st
   have hlast:∀ st x',retK T fi.cfg fi.fn [.log true []] st=some x'→∃ b zs vs,look st.heap argSite=some (.log b zs)∧logOf x'.2=zs∧resAll T st.env (look st.heap) fi.fn.results.toList=some vs:=by
    intro st x' hk
    unfold retK at hk
    split at hk
    · cases hk
    · rename_i vs hvs
      split at hk
      · rename_i rs' bl'' hrv hab
        simp only[forceAVs_eq,forceBlks_eq,Option.some.injEq]at hk
        subst hk
        simp only[argsBack]at hab
        split at hab
        · rename_i b bs h1 h2
          cases h2
          cases hc:backBlkOk b&&backOk (.log true []) b with
          | false=>rw[hc]at hab;cases hab
          | true =>
           rw[hc]at hab
           simp only[cond_true,Option.some.injEq]at hab
           subst hab
           simp only[Bool.and_eq_true]at hc
           cases b with
           | box=>simp[backOk]at hc
           | arr=>simp[backOk]at hc
           | tb=>simp[backOk]at hc
           | mp=>simp[backOk]at hc
           | br=>simp[backOk]at hc
           | log on zs=>exact⟨on,zs,vs,h1,rfl,hvs⟩
        · cases hab
      · cases hk
   have hkp:KP kf:=by
    intro ex st x' hk
    have hk:retK T fi.cfg fi.fn [.log true []] st=some x':=by
     cases ex with
     | normal=>exact hk
     | exit id=>cases hk
     | ret=>exact hk
    obtain⟨b,zs,_,h1,h2,_⟩:=hlast st x' hk
    exact⟨b,zs,h1,[],by rw[h2];simp⟩
   refine calls_of_fw (rd:=none) (n:=0) (callsIn_of_wp_marks hfn hb trivial ?_)
   refine sim_codeG (ng:=true) (codeSim_gen ok hC hG (ok.nvars g fi hf)) (fun h=>by cases h) c () _ _ W0 kf x _ hkp h (hdr c hb) (fun _=>hpb'.1) hpb'.2.1 hgi fun ex x' st a w1 hk gi=>?_
   have hk':retK T fi.cfg fi.fn [.log true []] st=some x'∧(ex=.normal∨ex=.ret):=by
    cases ex with
    | normal=>exact⟨hk,.inl rfl⟩
    | exit id=>cases hk
    | ret=>exact⟨hk,.inr rfl⟩
   obtain⟨hk,hex⟩:=hk'
   obtain⟨b,zs,vs,q1,q2,q3⟩:=hlast st x' hk
   obtain⟨wd,Mk,on,done,⟨M,β,L,ds,r,i1,i2,i3,fx⟩,g1,g2,g3,g4⟩:=gi
   obtain⟨rfl,rfl⟩:=g1 _ _ q1
   have goal:LeavesInM (FW none) 0 P fi.fn a.tmps (fun e W'=>(∃ v,e=.returned v)∧((∃ O,J [] O W')∨Jx W')) a.defers .returning w1:=by
    rw[fx.marks]
    refine leaves_marks ds w1 fx.nodup (fun D hD=>(fx.lies _ (fx.mark D hD).1).1) fun w' k1 k2 k3 k4 k5 k6=>?_
    have r':=Inv.shut r fx rfl k1 k2 k3 k4 k5
    obtain⟨cs,e1,e2⟩:=resAll_ok ok r' q3
    have hgrow:Grows G.gl wd w':=r'.turns (by rw[k6];exact i3)
    refine⟨wrapV cs,run_results e1,⟨_,rfl⟩,?_⟩
    rcases g4 with ⟨_,rest,O,p1,p2,_⟩ | ⟨_,p1⟩
    · rw[q2]at p1
      have:rest=[]:=by
       have:=congrArg List.length p1
       simp at this
       exact this
      subst this
      exact .inl ⟨O,hJ _ _ _ _ p2 hgrow⟩
    · exact .inr (hJx _ _ p1 hgrow)
   rcases hex with rfl | rfl
   · exact goal
   · exact goal
theorem acall_sound2 (ok:TabOk P T) {X:Ext} {gl:Option (List (Nat × Obj))} (hX:ExtOk P T gl X):∀ n,CallOk P T gl (acall T X n)∧SeqOk P T gl (acall T X n)
 | 0=>⟨⟨fun f fi args bl rs bl' _ _ h=>by simp[acall]at h,fun f fi args z off len a ks xs rs bl' _ _ h=>by simp[acall]at h⟩,fun g fi caps r _ _ h=>by simp[acall]at h⟩
 | n+1=>⟨⟨call_step ok hX (acall_sound2 ok hX n).1 (acall_sound2 ok hX n).2,call_stepV ok hX (acall_sound2 ok hX n).1 (acall_sound2 ok hX n).2⟩,seq_step ok hX (acall_sound2 ok hX n).1⟩
theorem acall_sound (ok:TabOk P T) {X:Ext} {gl:Option (List (Nat × Obj))} (hX:ExtOk P T gl X) (n:Nat):CallOk P T gl (acall T X n):=(acall_sound2 ok hX n).1
end
end Go.Skm
namespace Go.Skm
section
variable {α β:Type}
open Classical in
noncomputable def lim (f:Nat→Option α):Option α:=if h:∃ x n,f n=some x then some h.choose else none
def Mono (f:Nat→Option α):Prop:=∀ n m x,n≤m→f n=some x→f m=some x
theorem lim_some {f:Nat→Option α} {x:α} (h:lim f=some x):∃ n,f n=some x:=by
 unfold lim at h
 split at h
 · rename_i h'
   have:=h'.choose_spec
   simp only[Option.some.injEq]at h
   rwa[h]at this
 · cases h
theorem lim_of {f:Nat→Option α} (hm:Mono f) {x:α} {n:Nat} (h:f n=some x):lim f=some x:=by
 have hex:∃ x n,f n=some x:=⟨x,n,h⟩
 unfold lim
 rw[dif_pos hex]
 obtain⟨m,hm'⟩:=hex.choose_spec
 have h1:=hm n (max n m) x (by omega) h
 have h2:=hm m (max n m) _ (by omega) hm'
 rw[h1]at h2
 exact h2.symm
noncomputable def loopI (fg:St→St) (body:St→(Ex→St→Option α)→Option α) (st:St) (k:Ex→St→Option α):Option α:=lim fun m=>loopN fg body m st k
def LeK (k k':Ex→St→Option α):Prop:=∀ ex st x,k ex st=some x→k' ex st=some x
def LeB (b b':St→(Ex→St→Option α)→Option α):Prop:=∀ st k k' x,LeK k k'→b st k=some x→b' st k'=some x
def LeC (C C':CallF):Prop:=∀ f a b x,C f a b=some x→C' f a b=some x
theorem LeK.refl (k:Ex→St→Option α):LeK k k:=fun _ _ _ h=>h
theorem LeC.refl (C:CallF):LeC C C:=fun _ _ _ _ h=>h
def next (fg:St→St) (L:St→Option α) (k:Ex→St→Option α):Ex→St→Option α
 | .normal,st=>forceSt (fg st) L
 | .exit id,st=>k (.exit id) st
 | .ret,st=>k .ret st
theorem loopN_succ {fg:St→St} {body:St→(Ex→St→Option α)→Option α} {m:Nat} {st:St} {k:Ex→St→Option α}:loopN fg body (m+1) st k=body st (next fg (fun st'=>loopN fg body m st' k) k):=by
 simp only[loopN]
 congr 1
 funext ex st'
 cases ex<;>rfl
theorem next_le {fg:St→St} {L L':St→Option α} {k k':Ex→St→Option α} (hL:∀ st x,L st=some x→L' st=some x) (hk:LeK k k'):LeK (next fg L k) (next fg L' k'):=by
 intro ex st x h
 cases ex with
 | normal=>simp only[next,forceSt_eq]at h ⊢;exact hL _ _ h
 | exit id=>exact hk _ _ _ h
 | ret=>exact hk _ _ _ h
theorem loopN_mono {fg:St→St} {b b':St→(Ex→St→Option α)→Option α} (hb:LeB b b'):∀ {m m':Nat} {st:St} {k k':Ex→St→Option α} {x:α},m≤m'→LeK k k'→loopN fg b m st k=some x→loopN fg b' m' st k'=some x
 | 0,_,_,_,_,_,_,_,h=>by simp[loopN]at h
 | m+1,0,_,_,_,_,hm,_,_=>by omega
 | m+1,m'+1,st,k,k',x,hm,hk,h=>by
  rw[loopN_succ]at h ⊢
  exact hb _ _ _ _ (next_le (fun st x h=>loopN_mono hb (by omega) hk h) hk) h
theorem loopI_mono {fg:St→St} {b b':St→(Ex→St→Option α)→Option α} (hb:LeB b b') (hb':LeB b' b') {st:St} {k k':Ex→St→Option α} {x:α} (hk:LeK k k') (h:loopI fg b st k=some x):loopI fg b' st k'=some x:=by
 obtain⟨m,hm⟩:=lim_some h
 exact lim_of (fun n m x hnm h=>loopN_mono hb' hnm (LeK.refl _) h) (loopN_mono hb (Nat.le_refl m) hk hm)
end
section
variable {α:Type} (T:Tab)
noncomputable def runCodeI (C:CallF) (F:FI):Code→St→(Ex→St→Option α)→Option α
 | .skip,st,k=>k .normal st
 | .region id ops draw,st,k=>altSt (altsAt F.cfg.alts id) st fun st =>
  match draw with
  | false=>runOps T C false [] ops.toList ops.toList 0 st fun st'=>forceSt (settle F.cfg ops.toList st') fun st'=>k .normal st'
  | true =>
   match tlook F.hides id with
   | some hd=>forceSt (st.strike (present st.heap (allSites ops.toList ops.toList))) fun st=>runOps T C true hd ops.toList ops.toList 0 st fun st'=>relog (look st.heap argSite) st' fun st'=>forceSt (settle F.cfg ops.toList st') fun st'=>k .normal st'
   | none=>none
 | .seq a b,st,k=>runCodeI C F a st fun ex st' =>
  match ex with
  | .normal=>runCodeI C F b (forgetAt F.cfg b st') k
  | .exit id=>k (.exit id) st'
  | .ret=>k .ret st'
 | .cond c x y,st,k =>
  match evalO st.env c with
  | .p (.bool b)=>cond b (runCodeI C F x st k) (runCodeI C F y st k)
  | _=>none
 | .block id c,st,k=>runCodeI C F c st fun ex st' =>
  match ex with
  | .normal=>k .normal st'
  | .exit i=>bif i==id then k .normal st' else k (.exit i) st'
  | .ret=>k .ret st'
 | .scope c,st,k=>runCodeI C F c st k
 | .loop c,st,k=>loopI (forgetAt F.cfg c) (fun st' k'=>runCodeI C F c st' k') (forgetAt F.cfg c st) k
 | .exit id,st,k=>k (.exit id) st
 | .ret,st,k=>k .ret st
 | .label _,st,k=>k .normal st
 | .rangeFunc f ps a b,st,k=>altSt (altsAt F.cfg.alts (rangeKey a b)) st fun st =>
  match evalO st.env f with
  | .p (.fn g caps) =>
   match tlook T.funcs g,plainCode a with
   | some fi,true =>
    bif bodyPlain fi caps.length then
    match C g (.yld::caps.map .p) [.log true []] with
    | some r => rangeL (forgetAt F.cfg (.seq a b)) fi.cfg.yk ps.toList (rngWs ps a b)
        (fun st k=>runCodeI C F a st fun ex st' =>
          match ex with
          | .normal=>runCodeI C F b (forgetAt F.cfg b st') k
          | .exit id=>k (.exit id) st'
          | .ret=>k .ret st') (logOf r.2) (forgetAt F.cfg (.seq a b) st) k
    | none=>none
    else none
   | _,_=>none
  | _=>none
 | _,_,_=>none
def retC (F:FI) (bl:List Blk):Ex→St→Option (List AV × List Blk)
 | .exit _,_=>none
 | .normal,st=>retF T F.cfg F.fn bl st
 | .ret,st=>retF T F.cfg F.fn bl st
noncomputable def acallI (C:CallF):CallF:=fun f args bl =>
 match tlook T.funcs f with
 | none=>none
 | some fi =>
  match fi.fn.body with
  | none=>none
  | some c=>bif callB fi.cfg bl then forceAVs T.strict args fun args=>forceBlks T.strict bl fun bl=>forceSt (startF fi.cfg fi.fn args bl) fun st=>runCodeI T C fi c st (retC T fi bl) else none
noncomputable def run (X:Ext):CallF:=fun f args bl=>lim fun n=>acall T X n f args bl
end
section
variable {α:Type} {T:Tab} {C C':CallF}
theorem stepOp_shape (env:List AV) (h:Nat→Option Blk) (o:Oper):(∃ D,∀ C,stepOp T C env h o=D)∨∃ f as_ bl g,∀ C,stepOp T C env h o=.call (C f as_ bl) g:=by
 have call:∀ (d:Option Nat) (f:Nat) (args:List AV),(∃ D,∀ C,stepCall T C h d f args=D)∨∃ f' as_ bl g,∀ C,stepCall T C h d f args=.call (C f' as_ bl) g:=by
  intro d f args
  unfold stepCall
  cases (cfgOf T f).prim.is with
  | true=>exact .inl ⟨_,fun C=>rfl⟩
  | false =>
  simp only[cond_false]
  have go:∀ (d:Nat) (fi:FI) (pre:List AV) (s A:Nat) (nw:List Nat) (a:Bool) (ks:List Kd) (off len:Nat) (xs:List PV),(∃ D,∀ C,varGo T C h d f fi pre s A nw a ks off len xs=D)∨∃ f' as_ bl g,∀ C,varGo T C h d f fi pre s A nw a ks off len xs=.call (C f' as_ bl) g:=by
   intro d fi pre s A nw a ks off len xs
   unfold varGo
   split
   · rename_i vs ss hd
     cases (Nat.blt s 100000&&(Nat.blt A 100000&&!(A==s)))&&(!(memN s ss)&&!(memN A ss)) with
     | true=>exact .inr ⟨_,_,_,_,fun C=>rfl⟩
     | false=>exact .inl ⟨_,fun C=>rfl⟩
   · exact .inl ⟨_,fun C=>rfl⟩
  cases (cfgOf T f).vcall with
  | true =>
   simp only[cond_true]
   unfold stepVar
   split
   · split
     · split
       · exact go ..
       · exact .inl ⟨_,fun C=>rfl⟩
     · rename_i fi _ _ _ _ _ _
       cases fi.cfg.vkeep with
       | true=>exact .inl ⟨_,fun C=>rfl⟩
       | false=>exact go ..
     · exact .inl ⟨_,fun C=>rfl⟩
   · exact .inl ⟨_,fun C=>rfl⟩
  | false =>
  simp only[cond_false]
  unfold stepCall0
  split
  · split
    · split
      · exact .inr ⟨_,_,_,_,fun C=>rfl⟩
      · exact .inl ⟨_,fun C=>rfl⟩
    · simp only
      split
      · exact .inr ⟨_,_,_,_,fun C=>rfl⟩
      · exact .inl ⟨_,fun C=>rfl⟩
  · exact .inl ⟨_,fun C=>rfl⟩
 obtain⟨dst,op,type,pos,after,guard⟩:=o
 cases op with
 | call c =>
  obtain⟨callee,args,ts⟩:=c
  cases callee with
  | builtin b=>cases b<;>exact .inl ⟨_,fun C=>rfl⟩
  | invoke r n=>exact .inl ⟨_,fun C=>rfl⟩
  | value f =>
   simp only[stepOp]
   split
   · exact call _ _ _
   · exact call _ _ _
   · exact .inl ⟨_,fun C=>rfl⟩
 | _=>exact .inl ⟨_,fun C=>rfl⟩
theorem act1_mono (hC:LeC C C') {all:List Oper} {o:Oper} {env:List AV} {h:Nat→Option Blk} {y:Option Eff} (h1:act1 T C all o env h=some y):act1 T C' all o env h=some y:=by
 have go:∀ {y:Option Eff},((stepOp T C env h o).run some).map some=some y→((stepOp T C' env h o).run some).map some=some y:=by
  intro y hy
  rcases stepOp_shape (T:=T) env h o with ⟨D,hD⟩ | ⟨f,as_,bl,g,hD⟩
  · rw[hD]at hy ⊢;exact hy
  · rw[hD]at hy ⊢
    cases hc:C f as_ bl with
    | none=>rw[hc]at hy;simp[DT.run]at hy
    | some r=>rw[hc]at hy;rw[hC _ _ _ _ hc];exact hy
 unfold act1 at h1 ⊢
 cases hg:o.guard with
 | none=>rw[hg]at h1;exact go h1
 | some gw =>
  obtain⟨g,want⟩:=gw
  rw[hg]at h1
  simp only at h1 ⊢
  cases hd:dstOf all g with
  | none=>rw[hd]at h1;cases h1
  | some t =>
   rw[hd]at h1
   simp only at h1 ⊢
   by_cases hx:∃ b,env.getD t .undef=.p (.bool b)
   · obtain⟨b,hb⟩:=hx
     rw[hb]at h1 ⊢
     simp only at h1 ⊢
     split
     · rename_i hw;rw[if_pos hw]at h1;exact go h1
     · rename_i hw;rw[if_neg hw]at h1;exact h1
   · by_cases hh:env.getD t .undef=.tup []
     · rw[hh]at h1 ⊢;exact h1
     · split at h1
       · rename_i b hb;exact absurd ⟨b,hb⟩ hx
       · rename_i hb;exact absurd hb hh
       · cases h1
theorem step1_mono (hC:LeC C C') {draw:Bool} {hd:List Nat} {all:List Oper} {o:Oper} {st st':St} (h1:step1 T C draw hd all o st=some st'):step1 T C' draw hd all o st=some st':=by
 unfold step1 at h1 ⊢
 cases ha:act1 T C all o st.env (hideH hd (look st.heap)) with
 | none=>rw[ha]at h1;cases h1
 | some y=>rw[ha]at h1;rw[act1_mono hC ha];exact h1
theorem relog_mono {b:Option Blk} {st:St} {k k':St→Option α} {x:α} (hk:∀ st x,k st=some x→k' st=some x) (h:relog b st k=some x):relog b st k'=some x:=by
 unfold relog at h ⊢
 split at h
 · split at h
   · exact hk _ _ h
   · cases h
 · exact hk _ _ h
theorem runOps_mono (hC:LeC C C') {draw:Bool} {hd:List (List Nat)} {all:List Oper} {k k':St→Option α} (hk:∀ st x,k st=some x→k' st=some x):∀ {l:List Oper} {j:Nat} {st:St} {x:α},runOps T C draw hd all l j st k=some x→runOps T C' draw hd all l j st k'=some x
 | [],j,st,x,h=>hk _ _ h
 | o::r,j,st,x,h=>by
  cases hy:yieldAt draw st o with
  | none =>
   rw[runOps_cons _ _ hy]at h ⊢
   cases h1:step1 T C draw (hd.getD j []) all o st with
   | none=>rw[h1]at h;cases h
   | some st1=>rw[h1]at h;rw[step1_mono hC h1];exact runOps_mono hC hk (l:=r) h
  | some p =>
   obtain⟨xs,vs⟩:=p
   rw[runOps_yield _ _ hy]at h ⊢
   cases hg:guardOf all o st.env with
   | none=>rw[hg]at h;cases h
   | some b =>
    rw[hg]at h
    cases b with
    | false=>exact runOps_mono hC hk (l:=r) h
    | true =>
     obtain⟨no,h1,h2⟩:=fork_some h
     exact fork_of (runOps_mono hC hk (l:=r) h1) (runOps_mono hC hk (l:=r) h2)
theorem rnext_le {fg:St→St} {ws:List Nat} {L L':St→Option α} {k k':Ex→St→Option α} (hL:∀ st x,L st=some x→L' st=some x) (hk:LeK k k'):LeK (rnext fg ws L k) (rnext fg ws L' k'):=by
 intro ex st x h
 cases ex with
 | normal=>simp only[rnext,forceSt_eq]at h ⊢;exact hL _ _ h
 | exit id=>simp only[rnext,forceSt_eq]at h ⊢;exact hk _ _ _ h
 | ret=>simp only[rnext,forceSt_eq]at h ⊢;exact hk _ _ _ h
theorem rangeL_mono {fg:St→St} {ss:List (Bool × List Kd)} {ps ws:List Nat} {b b':St→(Ex→St→Option α)→Option α} (hb:LeB b b'):∀ {xs:List PV} {st:St} {k k':Ex→St→Option α} {x:α},LeK k k'→rangeL fg ss ps ws b xs st k=some x→rangeL fg ss ps ws b' xs st k'=some x
 | [],_,_,_,_,hk,h=>hk _ _ _ h
 | v::xs,st,k,k',x,hk,h=>by
  simp only[rangeL]at h ⊢
  split at h
  · cases h
  · rename_i env he
    rw[forceSt_eq]at h ⊢
    exact hb _ _ _ _ (rnext_le (fun st x h=>rangeL_mono hb hk h) hk) h
theorem rangeI_some {F : FI} {f : Operand} {ps : Array Tmp} {y z : Code} {st : St} {k : Ex → St → Option α} {x : α} (h : runCodeI T C F (.rangeFunc f ps y z) st k = some x) :
    ∃ g caps fi r,evalO st.env f=.p (.fn g caps)∧tlook T.funcs g=some fi∧plainCode y=true∧bodyPlain fi caps.length=true∧C g (.yld::caps.map .p) [.log true []]=some r ∧
     rangeL (forgetAt F.cfg (.seq y z)) fi.cfg.yk ps.toList (rngWs ps y z) (fun st k=>runCodeI T C F (.seq y z) st k) (logOf r.2) (forgetAt F.cfg (.seq y z) st) k=some x:=by
  simp only[runCodeI]at h
  obtain⟨h,-⟩:=altSt_path h
  split at h
  · rename_i g caps hv
    split at h
    · rename_i fi hf hp
      cases hb:bodyPlain fi caps.length with
      | false=>rw[hb]at h;cases h
      | true =>
       rw[hb]at h
       simp only[cond_true]at h
       split at h
       · rename_i r hr
         exact⟨g,caps,fi,r,hv,hf,hp,hb,hr,h⟩
       · cases h
    · cases h
  · cases h
theorem rangeI_alt {F:FI} {f:Operand} {ps:Array Tmp} {y z:Code} {st:St} {k:Ex→St→Option α} {x:α} (h:runCodeI T C F (.rangeFunc f ps y z) st k=some x):∀ K:St→Option α,altSt (altsAt F.cfg.alts (rangeKey y z)) st K=K st:=by
 simp only[runCodeI]at h
 exact(altSt_path h).2
theorem range_alt {F:FI} {n:Nat} {f:Operand} {ps:Array Tmp} {y z:Code} {st:St} {k:Ex→St→Option α} {x:α} (h:runCode T C F n (.rangeFunc f ps y z) st k=some x):∀ K:St→Option α,altSt (altsAt F.cfg.alts (rangeKey y z)) st K=K st:=by
 simp only[runCode]at h
 exact(altSt_path h).2
theorem rangeI_of {F : FI} {f : Operand} {ps : Array Tmp} {y z : Code} {st : St} {k : Ex → St → Option α} {x : α} {g : Nat} {caps : List PV} {fi : FI} {r : List AV × List Blk} (ha : ∀ K : St → Option α,altSt (altsAt F.cfg.alts (rangeKey y z)) st K = K st) (h1 : evalO st.env f = .p (.fn g caps)) (h2 : tlook T.funcs g = some fi) (h3 : plainCode y = true) (h4 : bodyPlain fi caps.length = true) (h5 : C g (.yld::caps.map .p) [.log true []] = some r)
    (h:rangeL (forgetAt F.cfg (.seq y z)) fi.cfg.yk ps.toList (rngWs ps y z) (fun st k=>runCodeI T C F (.seq y z) st k) (logOf r.2) (forgetAt F.cfg (.seq y z) st) k=some x):runCodeI T C F (.rangeFunc f ps y z) st k=some x:=by
  simp only[runCodeI]
  rw[ha]
  simp only[h1,h2,h3,h4,h5,cond_true]
  exact h
theorem range_of {F : FI} {n : Nat} {f : Operand} {ps : Array Tmp} {y z : Code} {st : St} {k : Ex → St → Option α} {x : α} {g : Nat} {caps : List PV} {fi : FI} {r : List AV × List Blk} (ha : ∀ K : St → Option α,altSt (altsAt F.cfg.alts (rangeKey y z)) st K = K st) (h1 : evalO st.env f = .p (.fn g caps)) (h2 : tlook T.funcs g = some fi) (h3 : plainCode y = true) (h4 : bodyPlain fi caps.length = true) (h5 : C g (.yld::caps.map .p) [.log true []] = some r)
    (h:rangeL (forgetAt F.cfg (.seq y z)) fi.cfg.yk ps.toList (rngWs ps y z) (roundC T C F n y z) (logOf r.2) (forgetAt F.cfg (.seq y z) st) k=some x):runCode T C F n (.rangeFunc f ps y z) st k=some x:=by
  simp only[runCode]
  rw[ha]
  simp only[h1,h2,h3,h4,h5,cond_true]
  exact h
theorem seq_le {k k' : Ex → St → Option α} {f f' : St → Option α} (hf : ∀ st x,f st = some x → f' st = some x) (hk : LeK k k') :
    LeK (fun ex st'=>match ex with | .normal=>f st' | .exit id=>k (.exit id) st' | .ret=>k .ret st') (fun ex st'=>match ex with | .normal=>f' st' | .exit id=>k' (.exit id) st' | .ret=>k' .ret st'):=by
  intro ex st x h
  cases ex with
  | normal=>exact hf _ _ h
  | exit id=>exact hk _ _ _ h
  | ret=>exact hk _ _ _ h
theorem block_le {k k' : Ex → St → Option α} {id : Nat} (hk : LeK k k') :
    LeK (fun ex st'=>match ex with | .normal=>k .normal st' | .exit i=>bif i==id then k .normal st' else k (.exit i) st' | .ret=>k .ret st') (fun ex st'=>match ex with | .normal=>k' .normal st' | .exit i=>bif i==id then k' .normal st' else k' (.exit i) st' | .ret=>k' .ret st'):=by
  intro ex st x h
  cases ex with
  | normal=>exact hk _ _ _ h
  | exit i =>
   simp only at h ⊢
   cases hi:i==id with
   | true=>rw[hi]at h;exact hk _ _ _ h
   | false=>rw[hi]at h;exact hk _ _ _ h
  | ret=>exact hk _ _ _ h
theorem runCode_mono (hC:LeC C C') {F:FI} {n n':Nat} (hn:n≤n'):∀ {c:Code} {st:St} {k k':Ex→St→Option α} {x:α},LeK k k'→runCode T C F n c st k=some x→runCode T C' F n' c st k'=some x
 | .skip,st,k,k',x,hk,h=>hk _ _ _ h
 | .region id ops draw,st,k,k',x,hk,h=>by
  simp only[runCode]at h ⊢
  obtain⟨h,e⟩:=altSt_path h
  rw[e]
  cases draw with
  | false=>exact runOps_mono hC (fun st x h=>by rw[forceSt_eq]at h ⊢;exact hk _ _ _ h) h
  | true =>
   simp only at h ⊢
   cases hh:tlook F.hides id with
   | none=>rw[hh]at h;cases h
   | some hd =>
    rw[hh]at h
    simp only[forceSt_eq]at h ⊢
    exact runOps_mono hC (fun st x h=>relog_mono (fun st x h=>hk _ _ _ h) h) h
 | .seq y z,st,k,k',x,hk,h=>runCode_mono hC hn (c:=y) (seq_le (fun st x h=>runCode_mono hC hn (c:=z) hk h) hk) h
 | .cond c y z,st,k,k',x,hk,h=>by
  simp only[runCode]at h ⊢
  split
  · rename_i b hb
    rw[hb]at h
    cases b with
    | true=>exact runCode_mono hC hn (c:=y) hk h
    | false=>exact runCode_mono hC hn (c:=z) hk h
  · rename_i hx
    split at h
    · rename_i b hb;exact absurd hb (hx b)
    · cases h
 | .block id c,st,k,k',x,hk,h=>runCode_mono hC hn (c:=c) (block_le hk) h
 | .loop c,st,k,k',x,hk,h=>loopN_mono (b:=fun st' k'=>runCode T C F n c st' k') (b':=fun st' k'=>runCode T C' F n' c st' k') (fun st k k' x hk h=>runCode_mono hC hn (c:=c) hk h) hn hk h
 | .exit id,st,k,k',x,hk,h=>hk _ _ _ h
 | .ret,st,k,k',x,hk,h=>hk _ _ _ h
 | .label _,st,k,k',x,hk,h=>hk _ _ _ h
 | .rangeFunc f ps y z,st,k,k',x,hk,h=>by
  have ha:=range_alt h
  obtain⟨g,caps,fi,r,h1,h2,h3,h4,h5,h⟩:=runCode_range h
  refine range_of ha h1 h2 h3 h4 (hC _ _ _ _ h5) (rangeL_mono (fun st k k' x hk h=>?_) hk h)
  exact runCode_mono hC hn (c:=y) (seq_le (fun st x h=>runCode_mono hC hn (c:=z) hk h) hk) h
 | .scope c,st,k,k',x,hk,h=>runCode_mono hC hn (c:=c) hk h
 | .goto ..,st,k,k',x,hk,h=>by simp[runCode]at h
 | .refuse ..,st,k,k',x,hk,h=>by simp[runCode]at h
theorem runCodeI_monoK {F:FI}:∀ {c:Code} {st:St} {k k':Ex→St→Option α} {x:α},LeK k k'→runCodeI T C F c st k=some x→runCodeI T C F c st k'=some x
 | .skip,st,k,k',x,hk,h=>hk _ _ _ h
 | .region id ops draw,st,k,k',x,hk,h=>by
  simp only[runCodeI]at h ⊢
  obtain⟨h,e⟩:=altSt_path h
  rw[e]
  cases draw with
  | false=>exact runOps_mono (LeC.refl C) (fun st x h=>by rw[forceSt_eq]at h ⊢;exact hk _ _ _ h) h
  | true =>
   simp only at h ⊢
   cases hh:tlook F.hides id with
   | none=>rw[hh]at h;cases h
   | some hd =>
    rw[hh]at h
    simp only[forceSt_eq]at h ⊢
    exact runOps_mono (LeC.refl C) (fun st x h=>relog_mono (fun st x h=>hk _ _ _ h) h) h
 | .seq y z,st,k,k',x,hk,h=>runCodeI_monoK (c:=y) (seq_le (fun st x h=>runCodeI_monoK (c:=z) hk h) hk) h
 | .cond c y z,st,k,k',x,hk,h=>by
  simp only[runCodeI]at h ⊢
  split
  · rename_i b hb
    rw[hb]at h
    cases b with
    | true=>exact runCodeI_monoK (c:=y) hk h
    | false=>exact runCodeI_monoK (c:=z) hk h
  · rename_i hx
    split at h
    · rename_i b hb;exact absurd hb (hx b)
    · cases h
 | .block id c,st,k,k',x,hk,h=>runCodeI_monoK (c:=c) (block_le hk) h
 | .loop c,st,k,k',x,hk,h=>loopI_mono (b:=fun st' k'=>runCodeI T C F c st' k') (b':=fun st' k'=>runCodeI T C F c st' k') (fun st k k' x hk h=>runCodeI_monoK (c:=c) hk h) (fun st k k' x hk h=>runCodeI_monoK (c:=c) hk h) hk h
 | .exit id,st,k,k',x,hk,h=>hk _ _ _ h
 | .ret,st,k,k',x,hk,h=>hk _ _ _ h
 | .label _,st,k,k',x,hk,h=>hk _ _ _ h
 | .rangeFunc f ps y z,st,k,k',x,hk,h=>by
  have ha:=rangeI_alt h
  obtain⟨g,caps,fi,r,h1,h2,h3,h4,h5,h⟩:=rangeI_some h
  refine rangeI_of ha h1 h2 h3 h4 h5 (rangeL_mono (fun st k k' x hk h=>?_) hk h)
  exact runCodeI_monoK (c:=y) (seq_le (fun st x h=>runCodeI_monoK (c:=z) hk h) hk) h
 | .scope c,st,k,k',x,hk,h=>runCodeI_monoK (c:=c) hk h
 | .goto ..,st,k,k',x,hk,h=>by simp[runCodeI]at h
 | .refuse ..,st,k,k',x,hk,h=>by simp[runCodeI]at h
theorem runCodeI_mono (hC:LeC C C') {F:FI}:∀ {c:Code} {st:St} {k k':Ex→St→Option α} {x:α},LeK k k'→runCodeI T C F c st k=some x→runCodeI T C' F c st k'=some x
 | .skip,st,k,k',x,hk,h=>hk _ _ _ h
 | .region id ops draw,st,k,k',x,hk,h=>by
  simp only[runCodeI]at h ⊢
  obtain⟨h,e⟩:=altSt_path h
  rw[e]
  cases draw with
  | false=>exact runOps_mono hC (fun st x h=>by rw[forceSt_eq]at h ⊢;exact hk _ _ _ h) h
  | true =>
   simp only at h ⊢
   cases hh:tlook F.hides id with
   | none=>rw[hh]at h;cases h
   | some hd =>
    rw[hh]at h
    simp only[forceSt_eq]at h ⊢
    exact runOps_mono hC (fun st x h=>relog_mono (fun st x h=>hk _ _ _ h) h) h
 | .seq y z,st,k,k',x,hk,h=>runCodeI_mono hC (c:=y) (seq_le (fun st x h=>runCodeI_mono hC (c:=z) hk h) hk) h
 | .cond c y z,st,k,k',x,hk,h=>by
  simp only[runCodeI]at h ⊢
  split
  · rename_i b hb
    rw[hb]at h
    cases b with
    | true=>exact runCodeI_mono hC (c:=y) hk h
    | false=>exact runCodeI_mono hC (c:=z) hk h
  · rename_i hx
    split at h
    · rename_i b hb;exact absurd hb (hx b)
    · cases h
 | .block id c,st,k,k',x,hk,h=>runCodeI_mono hC (c:=c) (block_le hk) h
 | .loop c,st,k,k',x,hk,h=>loopI_mono (b:=fun st' k'=>runCodeI T C F c st' k') (b':=fun st' k'=>runCodeI T C' F c st' k') (fun st k k' x hk h=>runCodeI_mono hC (c:=c) hk h) (fun st k k' x hk h=>runCodeI_monoK (c:=c) hk h) hk h
 | .exit id,st,k,k',x,hk,h=>hk _ _ _ h
 | .ret,st,k,k',x,hk,h=>hk _ _ _ h
 | .label _,st,k,k',x,hk,h=>hk _ _ _ h
 | .rangeFunc f ps y z,st,k,k',x,hk,h=>by
  have ha:=rangeI_alt h
  obtain⟨g,caps,fi,r,h1,h2,h3,h4,h5,h⟩:=rangeI_some h
  refine rangeI_of ha h1 h2 h3 h4 (hC _ _ _ _ h5) (rangeL_mono (fun st k k' x hk h=>?_) hk h)
  exact runCodeI_mono hC (c:=y) (seq_le (fun st x h=>runCodeI_mono hC (c:=z) hk h) hk) h
 | .scope c,st,k,k',x,hk,h=>runCodeI_mono hC (c:=c) hk h
 | .goto ..,st,k,k',x,hk,h=>by simp[runCodeI]at h
 | .refuse ..,st,k,k',x,hk,h=>by simp[runCodeI]at h
theorem runCode_le (hC:LeC C C') {F:FI} {n:Nat}:∀ {c:Code} {st:St} {k k':Ex→St→Option α} {x:α},LeK k k'→runCode T C F n c st k=some x→runCodeI T C' F c st k'=some x
 | .skip,st,k,k',x,hk,h=>hk _ _ _ h
 | .region id ops draw,st,k,k',x,hk,h=>by
  simp only[runCodeI,runCode]at h ⊢
  obtain⟨h,e⟩:=altSt_path h
  rw[e]
  cases draw with
  | false=>exact runOps_mono hC (fun st x h=>by rw[forceSt_eq]at h ⊢;exact hk _ _ _ h) h
  | true =>
   simp only at h ⊢
   cases hh:tlook F.hides id with
   | none=>rw[hh]at h;cases h
   | some hd =>
    rw[hh]at h
    simp only[forceSt_eq]at h ⊢
    exact runOps_mono hC (fun st x h=>relog_mono (fun st x h=>hk _ _ _ h) h) h
 | .seq y z,st,k,k',x,hk,h=>runCode_le hC (c:=y) (seq_le (fun st x h=>runCode_le hC (c:=z) hk h) hk) h
 | .cond c y z,st,k,k',x,hk,h=>by
  simp only[runCodeI,runCode]at h ⊢
  split
  · rename_i b hb
    rw[hb]at h
    cases b with
    | true=>exact runCode_le hC (c:=y) hk h
    | false=>exact runCode_le hC (c:=z) hk h
  · rename_i hx
    split at h
    · rename_i b hb;exact absurd hb (hx b)
    · cases h
 | .block id c,st,k,k',x,hk,h=>runCode_le hC (c:=c) (block_le hk) h
 | .loop c,st,k,k',x,hk,h => lim_of (f := fun m => loopN (forgetAt F.cfg c) (fun st' k' => runCodeI T C' F c st' k') m (forgetAt F.cfg c st) k') (n := n) (fun _ _ _ hnm h => loopN_mono (b := fun st' k' => runCodeI T C' F c st' k') (b' := fun st' k' => runCodeI T C' F c st' k') (fun st k k' x hk h => runCodeI_monoK (c := c) hk h) hnm (LeK.refl _) h)
     (loopN_mono (b:=fun st' k'=>runCode T C F n c st' k') (b':=fun st' k'=>runCodeI T C' F c st' k') (fun st k k' x hk h=>runCode_le hC (c:=c) hk h) (Nat.le_refl n) hk h)
 | .exit id,st,k,k',x,hk,h=>hk _ _ _ h
 | .ret,st,k,k',x,hk,h=>hk _ _ _ h
 | .label _,st,k,k',x,hk,h=>hk _ _ _ h
 | .rangeFunc f ps y z,st,k,k',x,hk,h=>by
  have ha:=range_alt h
  obtain⟨g,caps,fi,r,h1,h2,h3,h4,h5,h⟩:=runCode_range h
  refine rangeI_of ha h1 h2 h3 h4 (hC _ _ _ _ h5) (rangeL_mono (fun st k k' x hk h=>?_) hk h)
  exact runCode_le hC (c:=y) (seq_le (fun st x h=>runCode_le hC (c:=z) hk h) hk) h
 | .scope c,st,k,k',x,hk,h=>runCode_le hC (c:=c) hk h
 | .goto ..,st,k,k',x,hk,h=>by simp[runCode]at h
 | .refuse ..,st,k,k',x,hk,h=>by simp[runCode]at h
structure ApprC (Cn:Nat→CallF) (C:CallF):Prop where
 mono:∀ n m,n≤m→LeC (Cn n) (Cn m)
 lim:∀ f a b x,C f a b=some x→∃ n,Cn n f a b=some x
structure ApprK (kn:Nat→Ex→St→Option α) (k:Ex→St→Option α):Prop where
 mono:∀ n m,n≤m→LeK (kn n) (kn m)
 lim:∀ ex st x,k ex st=some x→∃ n,kn n ex st=some x
theorem act1_cont {Cn:Nat→CallF} (hC:ApprC Cn C) {all:List Oper} {o:Oper} {env:List AV} {h:Nat→Option Blk} {y:Option Eff} (h1:act1 T C all o env h=some y):∃ n,act1 T (Cn n) all o env h=some y:=by
 rcases stepOp_shape (T:=T) env h o with ⟨D,hD⟩ | ⟨f,as_,bl,g,hD⟩
 · refine⟨0,?_⟩
   unfold act1 at h1 ⊢
   rw[hD]at h1 ⊢;exact h1
 · cases hc:C f as_ bl with
   | some r =>
    obtain⟨n,hn⟩:=hC.lim _ _ _ _ hc
    refine⟨n,?_⟩
    unfold act1 at h1 ⊢
    rw[hD,hc]at h1
    rw[hD,hn];exact h1
   | none =>
    refine⟨0,?_⟩
    unfold act1 at h1 ⊢
    rw[hD,hc]at h1
    cases hg:o.guard with
    | none=>rw[hg]at h1;simp[DT.run]at h1
    | some gw =>
     obtain⟨g',want⟩:=gw
     rw[hg]at h1
     simp only at h1 ⊢
     cases hd:dstOf all g' with
     | none=>rw[hd]at h1;cases h1
     | some t =>
      rw[hd]at h1
      simp only at h1 ⊢
      by_cases hx:∃ b,env.getD t .undef=.p (.bool b)
      · obtain⟨b,hb⟩:=hx
        rw[hb]at h1 ⊢
        simp only at h1 ⊢
        split
        · rename_i hw;rw[if_pos hw]at h1;simp[DT.run]at h1
        · rename_i hw;rw[if_neg hw]at h1;exact h1
      · by_cases hh:env.getD t .undef=.tup []
        · rw[hh]at h1 ⊢;exact h1
        · split at h1
          · rename_i b hb;exact absurd ⟨b,hb⟩ hx
          · rename_i hb;exact absurd hb hh
          · cases h1
theorem step1_cont {Cn:Nat→CallF} (hC:ApprC Cn C) {draw:Bool} {hd:List Nat} {all:List Oper} {o:Oper} {st st':St} (h1:step1 T C draw hd all o st=some st'):∃ n,step1 T (Cn n) draw hd all o st=some st':=by
 unfold step1 at h1
 cases ha:act1 T C all o st.env (hideH hd (look st.heap)) with
 | none=>rw[ha]at h1;cases h1
 | some y =>
  obtain⟨n,hn⟩:=act1_cont hC ha
  refine⟨n,?_⟩
  unfold step1
  rw[ha]at h1;rw[hn];exact h1
theorem relog_cont {b:Option Blk} {st:St} {kn:Nat→St→Option α} {k:St→Option α} {x:α} (hk:∀ st x,k st=some x→∃ n,kn n st=some x) (h:relog b st k=some x):∃ n,relog b st (kn n)=some x:=by
 unfold relog at h ⊢
 split at h
 · split at h
   · exact hk _ _ h
   · cases h
 · exact hk _ _ h
theorem runOps_cont {Cn : Nat → CallF} (hC : ApprC Cn C) {draw : Bool} {hd : List (List Nat)} {all : List Oper} {kn : Nat → St → Option α} {k : St → Option α} (hm : ∀ n m st x,n ≤ m → kn n st = some x → kn m st = some x) (hk : ∀ st x,k st = some x → ∃ n,kn n st = some x) :
    ∀ {l:List Oper} {j:Nat} {st:St} {x:α},runOps T C draw hd all l j st k=some x→∃ n,runOps T (Cn n) draw hd all l j st (kn n)=some x
  | [],j,st,x,h=>hk _ _ h
  | o::r,j,st,x,h=>by
   cases hy:yieldAt draw st o with
   | none =>
    rw[runOps_cons _ _ hy]at h
    cases h1:step1 T C draw (hd.getD j []) all o st with
    | none=>rw[h1]at h;cases h
    | some st1 =>
     rw[h1]at h
     obtain⟨n1,hn1⟩:=step1_cont hC h1
     obtain⟨n2,hn2⟩:=runOps_cont hC hm hk (l:=r) h
     refine⟨max n1 n2,?_⟩
     rw[runOps_cons _ _ hy,step1_mono (hC.mono n1 (max n1 n2) (by omega)) hn1]
     exact runOps_mono (hC.mono n2 (max n1 n2) (by omega)) (fun st x h=>hm n2 _ st x (by omega) h) hn2
   | some p =>
    obtain⟨xs,vs⟩:=p
    rw[runOps_yield _ _ hy]at h
    cases hg:guardOf all o st.env with
    | none=>rw[hg]at h;cases h
    | some b =>
     rw[hg]at h
     cases b with
     | false =>
      obtain⟨n,hn⟩:=runOps_cont hC hm hk (l:=r) h
      refine⟨n,?_⟩
      rw[runOps_yield _ _ hy,hg]
      exact hn
     | true =>
      obtain⟨no,h1,h2⟩:=fork_some h
      obtain⟨n1,hn1⟩:=runOps_cont hC hm hk (l:=r) h1
      obtain⟨n2,hn2⟩:=runOps_cont hC hm hk (l:=r) h2
      refine⟨max n1 n2,?_⟩
      rw[runOps_yield _ _ hy,hg]
      exact fork_of (runOps_mono (hC.mono n1 (max n1 n2) (by omega)) (fun st x h=>hm n1 _ st x (by omega) h) hn1) (runOps_mono (hC.mono n2 (max n1 n2) (by omega)) (fun st x h=>hm n2 _ st x (by omega) h) hn2)
theorem seq_appr {kn : Nat → Ex → St → Option α} {k : Ex → St → Option α} (hk : ApprK kn k) {fn : Nat → St → Option α} {f : St → Option α} (hm : ∀ n m st x,n ≤ m → fn n st = some x → fn m st = some x) (hl : ∀ st x,f st = some x → ∃ n,fn n st = some x) :
    ApprK (fun n ex st'=>match ex with | .normal=>fn n st' | .exit id=>kn n (.exit id) st' | .ret=>kn n .ret st') (fun ex st'=>match ex with | .normal=>f st' | .exit id=>k (.exit id) st' | .ret=>k .ret st') :=
  ⟨fun n m h=>seq_le (fun st x h'=>hm n m st x h h') (hk.mono n m h),fun ex st x h=>by
    cases ex with
    | normal=>exact hl _ _ h
    | exit id=>exact hk.lim _ _ _ h
    | ret=>exact hk.lim _ _ _ h⟩
theorem block_appr {kn : Nat → Ex → St → Option α} {k : Ex → St → Option α} {id : Nat} (hk : ApprK kn k) :
    ApprK (fun n ex st'=>match ex with | .normal=>kn n .normal st' | .exit i=>bif i==id then kn n .normal st' else kn n (.exit i) st' | .ret=>kn n .ret st') (fun ex st'=>match ex with | .normal=>k .normal st' | .exit i=>bif i==id then k .normal st' else k (.exit i) st' | .ret=>k .ret st') :=
  ⟨fun n m h=>block_le (hk.mono n m h),fun ex st x h=>by
    cases ex with
    | normal=>exact hk.lim _ _ _ h
    | exit i =>
     simp only at h ⊢
     cases hi:i==id with
     | true=>rw[hi]at h;exact hk.lim _ _ _ h
     | false=>rw[hi]at h;exact hk.lim _ _ _ h
    | ret=>exact hk.lim _ _ _ h⟩
theorem runCode_cont {Cn:Nat→CallF} (hC:ApprC Cn C) {F:FI}:∀ {c:Code} {st:St} {kn:Nat→Ex→St→Option α} {k:Ex→St→Option α} {x:α},ApprK kn k→runCodeI T C F c st k=some x→∃ n,runCode T (Cn n) F n c st (kn n)=some x
 | .skip,st,kn,k,x,hk,h=>hk.lim _ _ _ h
 | .region id ops draw,st,kn,k,x,hk,h=>by
  simp only[runCodeI,runCode]at h ⊢
  obtain⟨h,e⟩:=altSt_path h
  simp only[e]
  cases draw with
  | false =>
   exact runOps_cont hC (kn:=fun n st'=>forceSt (settle F.cfg ops.toList st') fun st'=>kn n .normal st') (fun n m st x hnm h=>by rw[forceSt_eq]at h ⊢;exact hk.mono n m hnm _ _ _ h) (fun st x h=>by
    rw[forceSt_eq]at h
    obtain⟨n,hn⟩:=hk.lim _ _ _ h
    exact⟨n,by rw[forceSt_eq];exact hn⟩) h
  | true =>
   simp only[]at h ⊢
   cases hh:tlook F.hides id with
   | none=>rw[hh]at h;cases h
   | some hd =>
    rw[hh]at h
    simp only[forceSt_eq]at h ⊢
    exact runOps_cont hC (kn:=fun n st'=>relog (look (st.strike (present st.heap (allSites ops.toList ops.toList))).heap argSite) st' fun st'=>kn n .normal (settle F.cfg ops.toList st')) (fun n m st x hnm h=>relog_mono (fun st x h=>hk.mono n m hnm _ _ _ h) h) (fun st x h=>relog_cont (kn:=fun n st'=>kn n .normal (settle F.cfg ops.toList st')) (fun st x h=>hk.lim _ _ _ h) h) h
 | .seq y z,st,kn,k,x,hk,h=>runCode_cont hC (c:=y) (seq_appr hk (fn:=fun n st'=>runCode T (Cn n) F n z (forgetAt F.cfg z st') (kn n)) (fun n m st x hnm h=>runCode_mono (hC.mono n m hnm) hnm (hk.mono n m hnm) h) (fun st x h=>runCode_cont hC (c:=z) hk h)) h
 | .cond c y z,st,kn,k,x,hk,h=>by
  simp only[runCodeI,runCode]at h ⊢
  by_cases hx:∃ b,evalO st.env c=.p (.bool b)
  · obtain⟨b,hb⟩:=hx
    rw[hb]at h ⊢
    cases b with
    | true=>exact runCode_cont hC (c:=y) hk h
    | false=>exact runCode_cont hC (c:=z) hk h
  · split at h
    · rename_i b hb;exact absurd ⟨b,hb⟩ hx
    · cases h
 | .block id c,st,kn,k,x,hk,h=>runCode_cont hC (c:=c) (block_appr hk) h
 | .loop c,st,kn,k,x,hk,h=>by
  obtain⟨m,hm⟩:=lim_some h
  have key:∀ m st x,loopN (forgetAt F.cfg c) (fun st' k'=>runCodeI T C F c st' k') m st k=some x→∃ n,loopN (forgetAt F.cfg c) (fun st' k'=>runCode T (Cn n) F n c st' k') n st (kn n)=some x:=by
   intro m
   induction m with
   | zero=>intro st x h;simp[loopN]at h
   | succ m ih =>
    intro st x h
    rw[loopN_succ]at h
    have happ:ApprK (fun n=>next (forgetAt F.cfg c) (fun st'=>loopN (forgetAt F.cfg c) (fun st' k'=>runCode T (Cn n) F n c st' k') n st' (kn n)) (kn n)) (next (forgetAt F.cfg c) (fun st'=>loopN (forgetAt F.cfg c) (fun st' k'=>runCodeI T C F c st' k') m st' k) k) :=
     ⟨fun n m hnm=>next_le (fun st x h=>loopN_mono (b:=fun st' k'=>runCode T (Cn n) F n c st' k') (b':=fun st' k'=>runCode T (Cn m) F m c st' k') (fun st k k' x hk h=>runCode_mono (hC.mono n m hnm) hnm (c:=c) hk h) hnm (hk.mono n m hnm) h) (hk.mono n m hnm),fun ex st x h=>by
       cases ex with
       | normal =>
        simp only[next,forceSt_eq]at h ⊢
        exact ih _ _ h
       | exit id=>exact hk.lim _ _ _ h
       | ret=>exact hk.lim _ _ _ h⟩
    obtain⟨n,hn⟩:=runCode_cont hC (c:=c) happ h
    refine⟨n+1,?_⟩
    rw[loopN_succ]
    exact runCode_mono (hC.mono n (n+1) (by omega)) (by omega) (next_le (fun st x h=>loopN_mono (b:=fun st' k'=>runCode T (Cn n) F n c st' k') (b':=fun st' k'=>runCode T (Cn (n+1)) F (n+1) c st' k') (fun st k k' x hk h=>runCode_mono (hC.mono n (n+1) (by omega)) (by omega) (c:=c) hk h) (by omega) (hk.mono n (n+1) (by omega)) h) (hk.mono n (n+1) (by omega))) hn
  obtain⟨n,hn⟩:=key m _ x hm
  exact⟨n,hn⟩
 | .exit id,st,kn,k,x,hk,h=>hk.lim _ _ _ h
 | .ret,st,kn,k,x,hk,h=>hk.lim _ _ _ h
 | .label _,st,kn,k,x,hk,h=>hk.lim _ _ _ h
 | .rangeFunc f ps y z,st,kn,k,x,hk,h=>by
  have ha:=rangeI_alt h
  obtain⟨g,caps,fi,r,h1,h2,h3,h4,h5,h⟩:=rangeI_some h
  obtain⟨n0,h5⟩:=hC.lim _ _ _ _ h5
  have rmono:∀ n m,n≤m→LeB (roundC (α:=α) T (Cn n) F n y z) (roundC T (Cn m) F m y z):=fun n m hnm st k k' x hk h=>runCode_mono (hC.mono n m hnm) hnm (c:=y) (seq_le (fun st x h=>runCode_mono (hC.mono n m hnm) hnm (c:=z) hk h) hk) h
  have key:∀ (xs:List PV) (st:St) (x:α),rangeL (forgetAt F.cfg (.seq y z)) fi.cfg.yk ps.toList (rngWs ps y z) (fun st k=>runCodeI T C F (.seq y z) st k) xs st k=some x→∃ n,rangeL (forgetAt F.cfg (.seq y z)) fi.cfg.yk ps.toList (rngWs ps y z) (roundC T (Cn n) F n y z) xs st (kn n)=some x:=by
   intro xs
   induction xs with
   | nil=>intro st x h;exact hk.lim _ _ _ h
   | cons v xs ih =>
    intro st x h
    simp only[rangeL]at h ⊢
    split at h
    · cases h
    · rename_i env he
      rw[forceSt_eq]at h
      have happ:ApprK (fun n=>rnext (forgetAt F.cfg (.seq y z)) (rngWs ps y z) (fun st=>rangeL (forgetAt F.cfg (.seq y z)) fi.cfg.yk ps.toList (rngWs ps y z) (roundC T (Cn n) F n y z) xs st (kn n)) (kn n)) (rnext (forgetAt F.cfg (.seq y z)) (rngWs ps y z) (fun st=>rangeL (forgetAt F.cfg (.seq y z)) fi.cfg.yk ps.toList (rngWs ps y z) (fun st k=>runCodeI T C F (.seq y z) st k) xs st k) k) :=
       ⟨fun n m hnm=>rnext_le (fun st x h=>rangeL_mono (rmono n m hnm) (hk.mono n m hnm) h) (hk.mono n m hnm),fun ex st x h=>by
         cases ex with
         | normal =>
          simp only[rnext,forceSt_eq]at h ⊢
          exact ih _ _ h
         | exit id =>
          simp only[rnext,forceSt_eq]at h ⊢
          exact hk.lim _ _ _ h
         | ret =>
          simp only[rnext,forceSt_eq]at h ⊢
          exact hk.lim _ _ _ h⟩
      have h':=runCode_cont hC (c:=y) (seq_appr happ (fn:=fun n st'=>runCode T (Cn n) F n z (forgetAt F.cfg z st') (rnext (forgetAt F.cfg (.seq y z)) (rngWs ps y z) (fun st=>rangeL (forgetAt F.cfg (.seq y z)) fi.cfg.yk ps.toList (rngWs ps y z) (roundC T (Cn n) F n y z) xs st (kn n)) (kn n))) (fun n m st x hnm h=>runCode_mono (hC.mono n m hnm) hnm (c:=z) (happ.mono n m hnm) h) (fun st x h=>runCode_cont hC (c:=z) happ h)) h
      obtain⟨n,hn⟩:=h'
      exact⟨n,by rw[forceSt_eq];exact hn⟩
  obtain⟨n1,h⟩:=key _ _ _ h
  refine⟨max n0 n1,range_of ha h1 h2 h3 h4 (hC.mono n0 (max n0 n1) (by omega) _ _ _ _ h5) (rangeL_mono (rmono n1 (max n0 n1) (by omega)) (hk.mono n1 (max n0 n1) (by omega)) h)⟩
 | .scope c,st,kn,k,x,hk,h=>runCode_cont hC (c:=c) hk h
 | .goto ..,st,kn,k,x,hk,h=>by simp[runCodeI]at h
 | .refuse ..,st,kn,k,x,hk,h=>by simp[runCodeI]at h
theorem loop_of {C:CallF} {F:FI} {c:Code} {fg:St→St} {st:St} {k:Ex→St→Option α} {x:α} (h:runCodeI T C F c st (next fg (fun st'=>loopI fg (fun st' k'=>runCodeI T C F c st' k') st' k) k)=some x):loopI fg (fun st' k'=>runCodeI T C F c st' k') st k=some x:=by
 have hb:LeB (fun st' k'=>runCodeI (α:=α) T C F c st' k') (fun st' k'=>runCodeI T C F c st' k'):=fun st k k' x hk h=>runCodeI_mono (LeC.refl _) (c:=c) hk h
 have happ:ApprK (fun n=>next fg (fun st'=>loopN fg (fun st' k'=>runCodeI T C F c st' k') n st' k) k) (next fg (fun st'=>loopI fg (fun st' k'=>runCodeI T C F c st' k') st' k) k) :=
  ⟨fun n m hnm=>next_le (fun st x h=>loopN_mono hb hnm (LeK.refl _) h) (LeK.refl _),fun ex st x h=>by
    cases ex with
    | normal =>
     simp only[next,forceSt_eq]at h ⊢
     exact lim_some h
    | exit id=>exact⟨0,h⟩
    | ret=>exact⟨0,h⟩⟩
 have hC:ApprC (fun _=>C) C:=⟨fun _ _ _=>LeC.refl _,fun _ _ _ _ h=>⟨0,h⟩⟩
 obtain⟨n,hn⟩:=runCode_cont hC happ h
 have:=runCode_le (LeC.refl C) (LeK.refl _) hn
 exact lim_of (n:=n+1) (fun _ _ _ hnm h=>loopN_mono hb hnm (LeK.refl _) h) (by rw[loopN_succ];exact this)
theorem acall_mono {X:Ext}:∀ {n m:Nat},n≤m→LeC (acall T X n) (acall T X m)
 | 0,_,_=>fun f a b x h=>by simp[acall]at h
 | n+1,0,hm=>by omega
 | n+1,m+1,hm=>fun f a b x h=>by
  simp only[acall]at h ⊢
  split at h
  · cases h
  · rename_i fi hf
    split at h
    · exact h
    · rename_i hx
      split at h
      · cases h
      · rename_i c hc
        cases hb:callB fi.cfg b with
        | false=>rw[hb]at h;cases h
        | true =>
        rw[hb]at h
        simp only[cond_true,forceAVs_eq,forceBlks_eq,forceSt_eq]at h ⊢
        exact runCode_mono (acall_mono (by omega)) (by omega) (LeK.refl _) h
theorem run_appr {X:Ext}:ApprC (acall T X) (run T X):=⟨fun _ _ h=>acall_mono h,fun _ _ _ _ h=>lim_some h⟩
theorem run_mono {X:Ext} {f:Nat} {a:List AV} {b:List Blk}:Mono fun n=>acall T X n f a b:=fun _n _m x hnm h=>acall_mono hnm f a b x h
theorem run_of {X:Ext} {f:Nat} {args:List AV} {bl:List Blk} {r:List AV × List Blk} (hX:X f=none) (h:acallI T (run T X) f args bl=some r):run T X f args bl=some r:=by
 unfold acallI at h
 split at h
 · cases h
 · rename_i fi hf
   split at h
   · cases h
   · rename_i c hc
     cases hb:callB fi.cfg bl with
     | false=>rw[hb]at h;cases h
     | true =>
     rw[hb]at h
     simp only[cond_true,forceAVs_eq,forceBlks_eq,forceSt_eq]at h
     obtain⟨n,hn⟩:=runCode_cont run_appr (kn:=fun _=>retC T fi bl) ⟨fun _ _ _=>LeK.refl _,fun _ _ _ h=>⟨0,h⟩⟩ h
     refine lim_of (n:=n+1) run_mono ?_
     simp only[acall,hf,hX,hc,hb,cond_true,forceAVs_eq,forceBlks_eq,forceSt_eq]
     refine runCode_mono (LeC.refl _) (Nat.le_refl n) (fun ex st x h=>?_) hn
     cases ex<;>exact h
theorem run_ext {X:Ext} {f:Nat} {fi:FI} {s:List AV→List Blk→Option (List AV × List Blk)} {args:List AV} {bl:List Blk} {r:List AV × List Blk} (hf:tlook T.funcs f=some fi) (hX:X f=some s) (h:s args bl=some r):run T X f args bl=some r :=
 lim_of (n:=1) run_mono (by simp only[acall,hf,hX];exact h)
theorem run_sound {P:Program} (ok:TabOk P T) {X:Ext} {gl:Option (List (Nat × Obj))} (hX:ExtOk P T gl X):CallOk P T gl (run T X):=by
 refine⟨fun f fi args bl rs bl' hf hpb h=>?_,fun f fi args z off len a ks xs rs bl' hf hv h=>?_⟩
 · obtain⟨n,hn⟩:=lim_some h
   exact(acall_sound ok hX n).plain f fi args bl rs bl' hf hpb hn
 · obtain⟨n,hn⟩:=lim_some h
   exact(acall_sound ok hX n).var f fi args z off len a ks xs rs bl' hf hv hn
end
inductive Wy where
 | lp (p:List Nat)
 | rg (p:List Nat) (ss:List (Bool × List Kd)) (xs:List PV)
section
variable {α:Type} (T:Tab) (C:CallF) (F:FI)
def codeAt:Code→List Nat→Code
 | c,[]=>c
 | .seq a _,0::p=>codeAt a p
 | .seq _ b,_::p=>codeAt b p
 | .cond _ a _,0::p=>codeAt a p
 | .cond _ _ b,_::p=>codeAt b p
 | .block _ c,_::p=>codeAt c p
 | .scope c,_::p=>codeAt c p
 | .loop c,_::p=>codeAt c p
 | c,_=>c
def bodyAt (c:Code) (p:List Nat):Code:=match codeAt c p with
 | .loop b=>b
 | .rangeFunc _ _ a b=>.seq a b
 | _=>.skip
def psAt (c:Code) (p:List Nat):List Nat:=match codeAt c p with
 | .rangeFunc _ ps _ _=>ps.toList
 | _=>[]
def wsAt (c:Code) (p:List Nat):List Nat:=match codeAt c p with
 | .rangeFunc _ ps a b=>rngWs ps a b
 | _=>[]
noncomputable def contAt:Code→List Nat→(Ex→St→Option α)→Ex→St→Option α
 | .seq a b,0::p,k=>contAt a p fun ex st' =>
  match ex with
  | .normal=>runCodeI T C F b (forgetAt F.cfg b st') k
  | .exit id=>k (.exit id) st'
  | .ret=>k .ret st'
 | .seq _ b,_::p,k=>contAt b p k
 | .cond _ a _,0::p,k=>contAt a p k
 | .cond _ _ b,_::p,k=>contAt b p k
 | .block id c,_::p,k=>contAt c p fun ex st' =>
  match ex with
  | .normal=>k .normal st'
  | .exit i=>bif i==id then k .normal st' else k (.exit i) st'
  | .ret=>k .ret st'
 | .scope c,_::p,k=>contAt c p k
 | _,_,k=>k
noncomputable def lpAt (c:Code) (p:List Nat) (k:Ex→St→Option α) (st:St):Option α:=loopI (forgetAt F.cfg (bodyAt c p)) (fun st' k'=>runCodeI T C F (bodyAt c p) st' k') st (contAt T C F c p k)
noncomputable def lpNext (c:Code) (p:List Nat) (k:Ex→St→Option α):Ex→St→Option α:=next (forgetAt F.cfg (bodyAt c p)) (lpAt T C F c p k) (contAt T C F c p k)
noncomputable def rgAt (c:Code) (p:List Nat) (ss:List (Bool × List Kd)) (k:Ex→St→Option α) (xs:List PV) (st:St):Option α :=
 rangeL (forgetAt F.cfg (bodyAt c p)) ss (psAt c p) (wsAt c p) (fun st k=>runCodeI T C F (bodyAt c p) st k) xs st (contAt T C F c p k)
noncomputable def rgNext (c:Code) (p:List Nat) (ss:List (Bool × List Kd)) (xs:List PV) (k:Ex→St→Option α):Ex→St→Option α:=rnext (forgetAt F.cfg (bodyAt c p)) (wsAt c p) (rgAt T C F c p ss k xs) (contAt T C F c p k)
noncomputable def loopAt:Code→(Ex→St→Option α)→List Wy→St→Option α
 | _,_,[],_=>none
 | c,k,[.lp p],st=>lpAt T C F c p k st
 | c,k,[.rg p ss xs],st=>rgAt T C F c p ss k xs st
 | c,k,.lp p::q::r,st=>loopAt (bodyAt c p) (lpNext T C F c p k) (q::r) st
 | c,k,.rg p ss xs::q::r,st=>loopAt (bodyAt c p) (rgNext T C F c p ss xs k) (q::r) st
noncomputable def roundAt:Code→(Ex→St→Option α)→List Wy→St→Option α
 | _,_,[],_=>none
 | c,k,[.lp p],st=>runCodeI T C F (bodyAt c p) st (lpNext T C F c p k)
 | c,k,[.rg p ss xs],st=>rgAt T C F c p ss k xs st
 | c,k,.lp p::q::r,st=>roundAt (bodyAt c p) (lpNext T C F c p k) (q::r) st
 | c,k,.rg p ss xs::q::r,st=>roundAt (bodyAt c p) (rgNext T C F c p ss xs k) (q::r) st
variable {T C F}
theorem loopAt_of {x:α}:∀ {l:List Wy} {c:Code} {k:Ex→St→Option α} {st:St},roundAt T C F c k l st=some x→loopAt T C F c k l st=some x
 | [],_,_,_,h=>by simp[roundAt]at h
 | [.lp p],c,k,st,h=>loop_of h
 | [.rg p ss xs],c,k,st,h=>h
 | .lp p::q::r,c,k,st,h=>loopAt_of (l:=q::r) h
 | .rg p ss xs::q::r,c,k,st,h=>loopAt_of (l:=q::r) h
end
section
variable (T:Tab) (C:CallF) (f:Nat) (bl:List Blk)
noncomputable def fiOf:FI:=match tlook T.funcs f with | some fi=>fi | none=>⟨default,{},[]⟩
def codeOf (F:FI):Code:=match F.fn.body with | some c=>c | none=>.skip
noncomputable def L (l:List Wy) (st:St):Option (List AV × List Blk):=loopAt T C (fiOf T f) (codeOf (fiOf T f)) (retC T (fiOf T f) bl) l st
noncomputable def R (l:List Wy) (st:St):Option (List AV × List Blk):=roundAt T C (fiOf T f) (codeOf (fiOf T f)) (retC T (fiOf T f) bl) l st
variable {T C f bl}
theorem L_of {l:List Wy} {st:St} {x:List AV × List Blk} (h:R T C f bl l st=some x):L T C f bl l st=some x:=loopAt_of h
end
end Go.Skm
namespace Go.Skm
open Go.ChangeShapes Go.WideShapes
mutual
def PV.wf:PV→Prop
 | .int k n=>(Lit.int k n).wf=true
 | .str s=>s.size≤maxLen
 | .list _ _ xs=>xs.length≤maxLen∧PV.wfs xs
 | .agg cs=>PV.wfs cs
 | .nil=>False
 | _=>True
def PV.wfs:List PV→Prop
 | []=>True
 | v::r=>PV.wf v∧PV.wfs r
end
theorem wfs_mem:∀ {l:List PV},PV.wfs l↔∀ v∈l,v.wf
 | []=>by simp[PV.wfs]
 | v::r=>by simp[PV.wfs,wfs_mem]
section
variable (P:Program)
def argT:Nat→TypeId→Bool
 | 0,_=>false
 | n+1,t =>
  match P.underlying t with
  | some (.int _)=>Nat.beq (P.cellsOf t) 1
  | some .bool=>Nat.beq (P.cellsOf t) 1
  | some .string=>Nat.beq (P.cellsOf t) 1
  | some (.slice e)=>argT n e&&(Nat.blt 0 (P.cellsOf e)&&Nat.beq (P.cellsOf t) 1)
  | some (.struct fs)=>go n 0 fs.toList&&Nat.beq (P.cellsOf t) (sum fs.toList)
  | some (.array m e)=>argT n e&&Nat.beq (P.cellsOf t) (m*P.cellsOf e)
  | _=>false
where
 go (n:Nat):Nat→List Field→Bool
 | _,[]=>true
 | o,f::r=>f.offset==o&&(argT n f.type&&go n (o+P.cellsOf f.type) r)
 sum:List Field→Nat
 | []=>0
 | f::r=>P.cellsOf f.type+sum r
end
section
variable {H:Type} {enc:TypeId × Value→H} {P:Program} {w:World} {base:Nat} {sp:Nat→Bool} {held:Bool} {M:Nat→Prop}
theorem argT_len:∀ {n:Nat} {t:TypeId},argT P n t=true→(shapeP P n t).2.length=P.cellsOf t
 | 0,t,h=>by simp[argT]at h
 | n+1,t,h=>by
  unfold argT at h
  unfold shapeP
  split at h
  · rename_i k hu;rw[hu];simpa using (Nat.eq_of_beq_eq_true h).symm
  · rename_i hu;rw[hu];simpa using (Nat.eq_of_beq_eq_true h).symm
  · rename_i hu;rw[hu];simpa using (Nat.eq_of_beq_eq_true h).symm
  · rename_i e hu
    rw[hu]
    simp only[Bool.and_eq_true]at h
    simpa using (Nat.eq_of_beq_eq_true h.2.2).symm
  · rename_i fs hu
    rw[hu]
    simp only[Bool.and_eq_true]at h
    rw[Nat.eq_of_beq_eq_true h.2]
    have:∀ (l:List Field) (o:Nat),argT.go P n o l=true→(l.flatMap fun f=>(shapeP P n f.type).2).length=argT.sum P l:=by
     intro l
     induction l with
     | nil=>intro o _;rfl
     | cons f r ih =>
      intro o h
      simp only[argT.go,Bool.and_eq_true]at h
      simp only[List.flatMap_cons,List.length_append,argT.sum,argT_len h.2.1,ih _ h.2.2]
    exact this _ _ h.1
  · rename_i m e hu
    rw[hu]
    simp only[Bool.and_eq_true]at h
    simp only[List.length_flatten,List.map_replicate,List.sum_replicate_nat,argT_len h.1]
    exact(Nat.eq_of_beq_eq_true h.2).symm
  · cases h
def ArgR (w:World) (M:Nat→Prop) (ks:List Kd) (cs:List Value) (ps:List PV):Prop :=
 kindsOk ks ps=true∧ps.length=cs.length∧(∀ (i:Nat) (p:PV),ps[i]?=some p→VR w M p (cs.getD i undef))∧PV.wfs ps
theorem kindsOk_append:∀ {k1 k2:List Kd} {p1 p2:List PV},kindsOk k1 p1=true→kindsOk k2 p2=true→kindsOk (k1++k2) (p1++p2)=true
 | [],k2,[],p2,_,h=>h
 | k::k1,k2,v::p1,p2,h1,h2=>by
  simp only[kindsOk,Bool.and_eq_true]at h1
  simp only[List.cons_append,kindsOk,Bool.and_eq_true]
  exact⟨h1.1,kindsOk_append h1.2 h2⟩
 | [],_,_::_,_,h,_=>by simp[kindsOk]at h
 | _::_,_,[],_,h,_=>by simp[kindsOk]at h
theorem ArgR.append {k1 k2:List Kd} {c1 c2:List Value} {p1 p2:List PV} (h1:ArgR w M k1 c1 p1) (h2:ArgR w M k2 c2 p2):ArgR w M (k1++k2) (c1++c2) (p1++p2):=by
 refine⟨kindsOk_append h1.1 h2.1,by simp[h1.2.1,h2.2.1],fun i p hp=>?_,?_⟩
 · by_cases hi:i<p1.length
   · rw[List.getElem?_append_left hi]at hp
     have:=h1.2.2.1 i p hp
     rw[List.getD_eq_getElem?_getD]at this ⊢
     rwa[List.getElem?_append_left (by rw[← h1.2.1];exact hi)]
   · rw[List.getElem?_append_right (by omega)]at hp
     have:=h2.2.2.1 _ p hp
     rw[List.getD_eq_getElem?_getD]at this ⊢
     rwa[List.getElem?_append_right (by rw[← h1.2.1];omega),← h1.2.1]
 · rw[wfs_mem]at *
   have a:=wfs_mem.1 h1.2.2.2
   have b:=wfs_mem.1 h2.2.2.2
   intro v hv
   rcases List.mem_append.1 hv with hv | hv
   · exact a v hv
   · exact b v hv
def elemPV (a:Bool) (ps:List PV):PV:=match a with | true=>.agg ps | false=>ps.headD .nil
theorem shapeP_one {n:Nat} {t:TypeId} (h:argT P n t=true) (ha:(shapeP P n t).1=false):(shapeP P n t).2.length=1:=by
 cases n with
 | zero=>simp[argT]at h
 | succ n =>
  unfold argT at h
  unfold shapeP at ha ⊢
  split at h<;>rename_i hu<;>first | (simp only[hu]at ha ⊢;done) | skip
  all_goals (try (simp only[hu]at ha ⊢;rfl))
  all_goals (simp only[hu]at ha)
  all_goals (cases ha)
theorem arg_elem_ok {n : Nat} {t : TypeId} {cs : List Value} {ps : List PV} (h : argT P n t = true) (hc : ArgR w M (shapeP P n t).2 cs ps) :
    shapeOk (shapeP P n t).1 (shapeP P n t).2 (elemPV (shapeP P n t).1 ps)=true∧(elemPV (shapeP P n t).1 ps).cells=ps∧(elemPV (shapeP P n t).1 ps).wf:=by
  cases ha:(shapeP P n t).1 with
  | true=>exact⟨hc.1,rfl,by simp only[elemPV,PV.wf];exact hc.2.2.2⟩
  | false =>
   have h1:=shapeP_one h ha
   have hk:=hc.1
   match hks:(shapeP P n t).2,h1,hk with
   | [k],_,hk =>
    match ps,hk,hc with
    | [p],hk,hc =>
     simp only[kindsOk,Bool.and_true]at hk
     have hl:=kindOk_leaf hk
     refine⟨hk,?_,?_⟩
     · simp only[elemPV,List.headD_cons]
       cases p<;>first | rfl | simp[PV.leaf]at hl
     · exact(wfs_mem.1 hc.2.2.2) p (by simp)
    | [],hk,_=>simp[kindsOk]at hk
    | _::_::_,hk,_=>simp[kindsOk]at hk
theorem spot_of_cells {a:Addr} {n i:Nat} {v:Value} (h:w.cell? (a.add i)=some v) (hi:i<n) (h0:i=0):a.spot=none:=by
 subst h0
 simp only[Addr.add,if_true]at h
 unfold World.cell? at h
 split at h
 · cases hs:a.spot with
   | none=>rfl
   | some s=>rw[hs]at h;simp at h
 · cases h
theorem cells?_get {a:Addr} {n:Nat} {cs:List Value} (h:w.cells? base a n=some cs):cs.length=n∧∀ i,i<n→∃ v,cs[i]?=some v∧w.cell? (a.add i)=some v:=by
 unfold World.cells? at h
 split at h
 · have hl:=mapM_some_length h
   simp at hl
   refine⟨hl,fun i hi=>?_⟩
   have:=mapM_some_get h i i (by simp[hi])
   have hlt:i<cs.length:=by omega
   rw[List.getElem?_eq_getElem hlt]at this
   exact⟨cs[i],by simp,this⟩
 · cases h
theorem trod_pure (hM:∀ b,b<w.heap.size→M b):∀ (fuel n:Nat) (t:TypeId) (cs:List Value) (x:DataW H × List MemPlace),DataW.trod enc P w base sp held fuel t cs=some x→argT P n t=true→∃ ps,ArgR w M (shapeP P n t).2 cs ps:=by
 intro fuel
 induction fuel with
 | zero=>intro n t cs x h;simp[DataW.trod]at h
 | succ fuel ih =>
  intro n t cs x h ha
  cases n with
  | zero=>simp[argT]at ha
  | succ n =>
   unfold argT at ha
   have one:∀ (k:Kd) (p:PV) (v:Value),kindOk k p=true→VR w M p v→p.wf→ArgR w M [k] [v] [p]:=by
    intro k p v h1 h2 h3
    refine⟨by simp[kindsOk,h1],rfl,fun i q hq=>?_,by simp[PV.wfs,h3]⟩
    cases i with
    | zero=>simp at hq;subst hq;simpa using h2
    | succ i=>simp at hq
   split at ha
   · rename_i k hu
     obtain⟨m,rfl,_,hw⟩:=DataW.trod_int hu h
     have e:(shapeP P (n+1) t).2=[.int k]:=by (conv=>lhs;unfold shapeP);rw[hu]
     rw[e]
     exact⟨_,one _ (.int k m) _ (by simp[kindOk]) (.int k m) hw⟩
   · rename_i hu
     obtain⟨b,rfl,_⟩:=DataW.trod_bool hu h
     have e:(shapeP P (n+1) t).2=[.bool]:=by (conv=>lhs;unfold shapeP);rw[hu]
     rw[e]
     exact⟨_,one _ (.bool b) _ rfl (.bool b) trivial⟩
   · rename_i hu
     obtain⟨s,rfl,_,hw⟩:=DataW.trod_string hu h
     have e:(shapeP P (n+1) t).2=[.str]:=by (conv=>lhs;unfold shapeP);rw[hu]
     rw[e]
     exact⟨_,one _ (.str s) _ rfl (.str s) hw⟩
   · -- a slice
     rename_i e hu
     simp only[Bool.and_eq_true]at ha
     have es:(shapeP P (n+1) t).2=[.slice (shapeP P n e).1 (shapeP P n e).2]:=by (conv=>lhs;unfold shapeP);rw[hu]
     rw[es]
     have hpos:0<P.cellsOf e:=Nat.le_of_ble_eq_true ha.2.1
     have hlen:=argT_len ha.1
     rcases DataW.trod_slice hu h with ⟨rfl,_⟩ | ⟨a,len,cap,elems,rest,m,hm,rfl,_,hb,hlc,hcm,hel,hget,_,_⟩
     · exact⟨_,one _ (.list (shapeP P n e).1 (shapeP P n e).2 []) _ (by simp[kindOk,Kd.beqs_refl]) (.listE _ _ none 0) (by simp[PV.wf,PV.wfs])⟩
     · cases hm
       have good:∀ i,i<len→∃ (ps:List PV) (csi:List Value),w.cells? base (a.add (i*P.cellsOf e)) (P.cellsOf e)=some csi∧ArgR w M (shapeP P n e).2 csi ps:=by
        intro i hi
        have h1:=hget i hi
        rw[List.getElem?_eq_getElem (by omega)]at h1
        simp only[Option.bind_eq_some_iff]at h1
        obtain⟨csi,h2,h3⟩:=h1
        obtain⟨ps,h4⟩:=ih n e csi _ h3 ha.1
        exact⟨ps,csi,h2,h4⟩
       by_cases h0:len=0
       · subst h0
         exact⟨_,one _ (.list (shapeP P n e).1 (shapeP P n e).2 []) _ (by simp[kindOk,Kd.beqs_refl]) (.listE _ _ (some a) cap) (by simp[PV.wf,PV.wfs])⟩
       · have hspot : a.spot = none := by
           obtain⟨ps,csi,h2,_⟩:=good 0 (by omega)
           obtain⟨_,h3⟩:=cells?_get h2
           obtain⟨v,_,h4⟩:=h3 0 hpos
           simp only[Nat.zero_mul]at h4
           have e0:a.add 0=a:=by simp[Addr.add]
           rw[e0]at h4
           exact spot_of_cells h4 hpos rfl
         have addr:∀ i j,(a.add (i*P.cellsOf e)).add j=⟨a.block,a.off+i*P.cellsOf e+j,none⟩:=by
          intro i j
          obtain⟨ab,ao,as⟩:=a
          simp only at hspot
          subst hspot
          unfold Addr.add
          by_cases h1:i*P.cellsOf e=0<;>by_cases h2:j=0<;>simp[h1,h2]
         have hex:∃ (f:Nat→List PV) (g:Nat→List Value),∀ i,i<len→w.cells? base (a.add (i*P.cellsOf e)) (P.cellsOf e)=some (g i)∧ArgR w M (shapeP P n e).2 (g i) (f i) :=
          ⟨fun i=>if h:i<len then(good i h).choose else [],fun i=>if h:i<len then(good i h).choose_spec.choose else [],fun i hi=>by
            simp only[dif_pos hi];exact(good i hi).choose_spec.choose_spec⟩
         obtain⟨f,g,hfg⟩:=hex
         have hblk:a.block<w.heap.size:=by
          obtain⟨h2,_⟩:=hfg 0 (by omega)
          obtain⟨_,h3⟩:=cells?_get h2
          obtain⟨v,_,h4⟩:=h3 0 hpos
          rw[addr]at h4
          unfold World.cell? at h4
          simp only at h4
          rcases Nat.lt_or_ge a.block w.heap.size with h' | h'
          · exact h'
          · rw[Array.getElem?_eq_none h']at h4;cases h4
         have hxs:∀ (i:Nat) (x:PV),((List.range len).map fun i=>elemPV (shapeP P n e).1 (f i))[i]?=some x→i<len∧x=elemPV (shapeP P n e).1 (f i):=by
          intro i x hx
          simp only[List.getElem?_map,Option.map_eq_some_iff]at hx
          obtain⟨j,hj,rfl⟩:=hx
          have hi:i<len:=by simpa using (List.getElem?_eq_some_iff.1 hj).1
          rw[List.getElem?_range hi]at hj
          cases hj
          exact⟨hi,rfl⟩
         refine⟨[.list (shapeP P n e).1 (shapeP P n e).2 ((List.range len).map fun i=>elemPV (shapeP P n e).1 (f i))],one _ _ _ (by simp[kindOk,Kd.beqs_refl]) ?_ ?_⟩
         · have := VR.list (w := w) (M := M) (shapeP P n e).1 (shapeP P n e).2 ((List.range len).map fun i => elemPV (shapeP P n e).1 (f i)) a.block a.off cap (fun i j => (g i).getD j undef) (hM _ hblk) (by simpa using hlc)
             (fun i x j c hx hj=>by
               obtain⟨hi,rfl⟩:=hxs i x hx
               obtain⟨h2,h3⟩:=hfg i hi
               rw[(arg_elem_ok ha.1 h3).2.1]at hj
               obtain⟨hl,h4⟩:=cells?_get h2
               have hjl:j<P.cellsOf e:=by
                have:=(List.getElem?_eq_some_iff.1 hj).1
                rw[h3.2.1,hl]at this;exact this
               obtain⟨v,h5,h6⟩:=h4 j hjl
               rw[addr]at h6
               rw[hlen,h6,List.getD_eq_getElem?_getD,h5];rfl)
             (fun i x j c hx hj=>by
               obtain⟨hi,rfl⟩:=hxs i x hx
               obtain⟨h2,h3⟩:=hfg i hi
               rw[(arg_elem_ok ha.1 h3).2.1]at hj
               exact h3.2.2.1 j c hj)
             (fun x hx=>by
               obtain⟨i,hi⟩:=List.mem_iff_getElem?.1 hx
               obtain⟨hi',rfl⟩:=hxs i x hi
               exact(arg_elem_ok ha.1 (hfg i hi').2).1)
           have ea:a=⟨a.block,a.off,none⟩:=by cases a;simp at hspot;simp[hspot]
           rw[List.length_map,List.length_range]at this
           rw[ea];exact this
         · refine⟨by simpa using Nat.le_trans hlc hcm,wfs_mem.2 fun x hx=>?_⟩
           obtain⟨i,hi⟩:=List.mem_iff_getElem?.1 hx
           obtain⟨hi',rfl⟩:=hxs i x hi
           exact(arg_elem_ok ha.1 (hfg i hi').2).2.2
   · -- a struct
     rename_i fs hu
     simp only[Bool.and_eq_true]at ha
     have es:(shapeP P (n+1) t).2=fs.toList.flatMap fun f=>(shapeP P n f.type).2:=by (conv=>lhs;unfold shapeP);rw[hu]
     rw[es]
     obtain⟨xs,m,hm,_,hl,hxl,hget⟩:=DataW.trod_struct hu h
     cases hm
     have htot:=Nat.eq_of_beq_eq_true ha.2
     have key : ∀ (l : List Field) (o : Nat),argT.go P n o l = true → (∀ f ∈ l,∃ y,DataW.trod enc P w base sp held fuel f.type ((cs.drop f.offset).take (P.cellsOf f.type)) = some y) → o + argT.sum P l = cs.length →
         ∃ ps,ArgR w M (l.flatMap fun f=>(shapeP P n f.type).2) (cs.drop o) ps:=by
       intro l
       induction l with
       | nil =>
        intro o _ _ ho
        simp only[argT.sum,Nat.add_zero]at ho
        refine⟨[],rfl,?_,fun i p h=>by simp at h,trivial⟩
        simp[ho]
       | cons f r ihl =>
        intro o hg hm ho
        simp only[argT.go,Bool.and_eq_true,beq_iff_eq]at hg
        obtain⟨hoff,hf,hr⟩:=hg
        obtain⟨y,hy⟩:=hm f (by simp)
        rw[hoff]at hy
        obtain⟨p1,h1⟩:=ih n f.type _ y hy hf
        simp only[argT.sum]at ho
        obtain⟨p2,h2⟩:=ihl (o+P.cellsOf f.type) hr (fun g hg=>hm g (by simp[hg])) (by omega)
        refine⟨p1++p2,?_⟩
        have:=h1.append h2
        rw[← List.drop_drop]at this
        rwa[List.take_append_drop]at this
     obtain⟨ps,hps⟩:=key fs.toList 0 ha.1 (fun f hf=>by
      obtain⟨i,hi⟩:=List.mem_iff_getElem?.1 hf
      have hi':fs[i]?=some f:=by simpa using hi
      have hlt:i<xs.length:=by rw[hxl];exact(Array.getElem?_eq_some_iff.1 hi').1
      exact⟨xs[i],by rw[hget i f hi',List.getElem?_eq_getElem hlt]⟩) (by rw[Nat.zero_add,hl,htot])
     exact⟨ps,by simpa using hps⟩
   · -- an array
     rename_i m e hu
     simp only[Bool.and_eq_true]at ha
     have es:(shapeP P (n+1) t).2=(List.replicate m (shapeP P n e).2).flatten:=by (conv=>lhs;unfold shapeP);rw[hu]
     rw[es]
     have h':(if cs.length=P.cellsOf t then((List.range m).mapM fun i=>DataW.trod enc P w base sp held fuel e ((cs.drop (i*P.cellsOf e)).take (P.cellsOf e))).map fun xs=>((.agg (xs.map (·.1)):DataW H),xs.flatMap (·.2)) else none)=some x:=by
      rw[← h,DataW.trod_step]
      unfold DataW.trodStep
      rw[hu]
     clear h
     split at h'
     · rename_i hl
       simp only[Option.map_eq_some_iff]at h'
       obtain⟨xs,hxs,rfl⟩:=h'
       have htot:=Nat.eq_of_beq_eq_true ha.2
       have hel:∀ i,i<m→∃ ps,ArgR w M (shapeP P n e).2 ((cs.drop (i*P.cellsOf e)).take (P.cellsOf e)) ps:=by
        intro i hi
        have h1:=mapM_some_get hxs i i (by simp[hi])
        have hl:=mapM_some_length hxs
        simp at hl
        rw[List.getElem?_eq_getElem (by omega)]at h1
        exact ih n e _ _ h1 ha.1
       have key:∀ (k:Nat),k≤m→∃ ps,ArgR w M (List.replicate k (shapeP P n e).2).flatten (cs.drop ((m-k)*P.cellsOf e)) ps:=by
        intro k
        induction k with
        | zero =>
         intro _
         refine⟨[],rfl,?_,fun i p h=>by simp at h,trivial⟩
         simp[hl,htot]
        | succ k ihk =>
         intro hk
         obtain⟨p2,h2⟩:=ihk (by omega)
         obtain⟨p1,h1⟩:=hel (m-(k+1)) (by omega)
         refine⟨p1++p2,?_⟩
         have:=h1.append h2
         rw[List.replicate_succ,List.flatten_cons]
         have e1:m-k=m-(k+1)+1:=by omega
         rw[e1,Nat.add_mul,Nat.one_mul,← List.drop_drop,List.take_append_drop]at this
         exact this
       obtain⟨ps,hps⟩:=key m (Nat.le_refl m)
       exact⟨ps,by simpa using hps⟩
     · cases h'
   · cases ha
theorem sameAt_of {w w':World} (hb:∀ b,b<w.heap.size→w'.heap[b]?=w.heap[b]?) {p:MemPlace} (hp:p.block<w.heap.size):w.sameAt w' p:=by
 cases p with
 | cell b off=>simp only[World.sameAt,World.cell?];rw[hb b hp]
 | map b=>exact hb b hp
theorem trod_spare:∀ (fuel n:Nat) (t:TypeId) (cs:List Value) (x:DataW H × List MemPlace),DataW.trod enc P w base (fun _=>true) held fuel t cs=some x→argT P n t=true→(∀ p∈x.2,sp p.block=true)→DataW.trod enc P w base sp held fuel t cs=some x:=by
 intro fuel
 induction fuel with
 | zero=>intro n t cs x h;simp[DataW.trod]at h
 | succ fuel ih =>
  intro n t cs x h ha hs
  cases n with
  | zero=>simp[argT]at ha
  | succ n =>
   unfold argT at ha
   split at ha
   · rename_i k hu
     obtain⟨m,rfl,rfl,hw⟩:=DataW.trod_int hu h
     rw[DataW.trod_step];simp[DataW.trodStep,hu,hw]
   · rename_i hu
     obtain⟨b,rfl,rfl⟩:=DataW.trod_bool hu h
     rw[DataW.trod_step];simp[DataW.trodStep,hu]
   · rename_i hu
     obtain⟨s,rfl,rfl,hw⟩:=DataW.trod_string hu h
     rw[DataW.trod_step];simp[DataW.trodStep,hu,hw]
   · rename_i e hu
     simp only[Bool.and_eq_true]at ha
     have hpos:0<P.cellsOf e:=Nat.le_of_ble_eq_true ha.2.1
     rcases DataW.trod_slice hu h with ⟨rfl,rfl⟩ | ⟨a,len,cap,elems,rest,m,hm,rfl,rfl,hb,hlc,hcm,hel,hget,hrest,_⟩
     · rw[DataW.trod_step];simp[DataW.trodStep,hu]
     · cases hm
       obtain⟨hrl,hrg⟩:=hrest rfl
       rw[DataW.trod_step]at h ⊢
       unfold DataW.trodStep at h ⊢
       rw[hu]at h ⊢
       simp only[hb,hlc,hcm,and_self,if_true,Option.bind_eq_some_iff,Option.map_eq_some_iff]at h ⊢
       obtain⟨el,he,rs,hr,hd⟩:=h
       have hall:∀ y∈el++rs,∀ p∈y.2,sp p.block=true:=by
        intro y hy p hp
        refine hs p ?_
        rw[← (Prod.mk.inj hd).2]
        exact List.mem_append.2 (.inr (List.mem_flatMap.2 ⟨y,hy,hp⟩))
       refine⟨el,mapM_carry he fun i y hi hy hf=>?_,rs,?_,hd⟩
       · simp only[Option.bind_eq_some_iff]at hf ⊢
         obtain⟨cs',h1,h2⟩:=hf
         exact⟨cs',h1,ih n e cs' y h2 ha.1 (hall y (by simp[hy]))⟩
       · split
         · refine mapM_carry hr fun i y hi hy hf=>?_
           simp only[Option.bind_eq_some_iff]at hf ⊢
           obtain⟨cs',h1,h2⟩:=hf
           exact⟨cs',h1,ih n e cs' y h2 ha.1 (hall y (by simp[hy]))⟩
         · rename_i hsp
           by_cases hz:rs=[]
           · rw[hz]
           · exfalso
             refine hsp (hs (.cell a.block a.off) ?_)
             rw[← (Prod.mk.inj hd).2]
             refine List.mem_append.2 (.inl (MemPlace.mem_row.2 ⟨0,?_,by simp⟩))
             have:0<rs.length:=List.length_pos_iff.2 hz
             exact Nat.mul_pos (by omega) hpos
   · rename_i fs hu
     simp only[Bool.and_eq_true]at ha
     obtain⟨xs,m,hm,rfl,hl,hxl,hget⟩:=DataW.trod_struct hu h
     cases hm
     have h':(if cs.length=P.cellsOf t then(fs.toList.mapM fun f=>DataW.trod enc P w base (fun _=>true) held fuel f.type ((cs.drop f.offset).take (P.cellsOf f.type))).map fun xs=>((.agg (xs.map (·.1)):DataW H),xs.flatMap (·.2)) else none)=some (.agg (xs.map (·.1)),xs.flatMap (·.2)):=by
      rw[← h,DataW.trod_step]
      unfold DataW.trodStep
      rw[hu]
     rw[DataW.trod_step]
     unfold DataW.trodStep
     rw[hu]
     show (if cs.length=P.cellsOf t then(fs.toList.mapM fun f=>DataW.trod enc P w base sp held fuel f.type ((cs.drop f.offset).take (P.cellsOf f.type))).map fun xs=>((.agg (xs.map (·.1)):DataW H),xs.flatMap (·.2)) else none)=_
     rw[if_pos hl]at h' ⊢
     simp only[Option.map_eq_some_iff]at h' ⊢
     obtain⟨ys,hy,hd⟩:=h'
     have hfs:∀ (l:List Field) (o:Nat),argT.go P n o l=true→∀ f∈l,argT P n f.type=true:=by
      intro l
      induction l with
      | nil=>intro o _ f hf;simp at hf
      | cons g r ihl =>
       intro o hg f hf
       simp only[argT.go,Bool.and_eq_true]at hg
       rcases List.mem_cons.1 hf with rfl | hf
       · exact hg.2.1
       · exact ihl _ hg.2.2 f hf
     refine⟨ys,mapM_carry hy fun f y hf hy' h1=>ih n f.type _ y h1 (hfs _ _ ha.1 f hf) fun p hp=>hs p ?_,hd⟩
     rw[← (Prod.mk.inj hd).2]
     exact List.mem_flatMap.2 ⟨y,hy',hp⟩
   · rename_i m e hu
     simp only[Bool.and_eq_true]at ha
     have h':(if cs.length=P.cellsOf t then((List.range m).mapM fun i=>DataW.trod enc P w base (fun _=>true) held fuel e ((cs.drop (i*P.cellsOf e)).take (P.cellsOf e))).map fun xs=>((.agg (xs.map (·.1)):DataW H),xs.flatMap (·.2)) else none)=some x:=by
      rw[← h,DataW.trod_step]
      unfold DataW.trodStep
      rw[hu]
     rw[DataW.trod_step]
     unfold DataW.trodStep
     rw[hu]
     show (if cs.length=P.cellsOf t then((List.range m).mapM fun i=>DataW.trod enc P w base sp held fuel e ((cs.drop (i*P.cellsOf e)).take (P.cellsOf e))).map fun xs=>((.agg (xs.map (·.1)):DataW H),xs.flatMap (·.2)) else none)=_
     split at h'
     · rename_i hl
       rw[if_pos hl]
       simp only[Option.map_eq_some_iff]at h' ⊢
       obtain⟨ys,hy,hd⟩:=h'
       refine⟨ys,mapM_carry hy fun i y hi hy' h1=>ih n e _ y h1 ha.1 fun p hp=>hs p ?_,hd⟩
       rw[← hd]
       exact List.mem_flatMap.2 ⟨y,hy',hp⟩
     · cases h'
   · cases ha
inductive ArgsR (P:Program) (w:World) (M:Nat→Prop):List TypeId→List Value→List PV→Prop
 | nil:ArgsR P w M [] [] []
 | cons (t:TypeId) (ts:List TypeId) (v:Value) (vs:List Value) (x:PV) (xs:List PV) (h1:VR w M x v) (h2:shapeOk (shapeP P 8 t).1 (shapeP P 8 t).2 x=true) (h3:x.wf) (h:ArgsR P w M ts vs xs):ArgsR P w M (t::ts) (v::vs) (x::xs)
theorem arg_read {b0 : Nat} (hM : ∀ b,b < w.heap.size → M b) {t : TypeId} {v : Value} {d : DataW H} {ps : List MemPlace} (ha : argT P 8 t = true) (hok : Value.okWide P w .any b0 t v) (h : DataW.Trod enc P w base sp held t v d ps) :
    ∃ x,VR w M x v∧shapeOk (shapeP P 8 t).1 (shapeP P 8 t).2 x=true∧x.wf:=by
  obtain⟨fuel,h⟩:=h
  obtain⟨qs,hq⟩:=trod_pure hM fuel 8 t _ _ h ha
  obtain⟨e1,e2,e3⟩:=arg_elem_ok ha hq
  refine⟨_,?_,e1,e3⟩
  cases hs:(shapeP P 8 t).1 with
  | true =>
   have hagg:(∃ fs,P.underlying t=some (.struct fs))∨∃ m e,P.underlying t=some (.array m e):=by
    unfold shapeP at hs
    split at hs<;>first | (cases hs;done) | skip
    · exact .inl ⟨_,‹_›⟩
    · exact .inr ⟨_,_,‹_›⟩
   have hv:∃ cs,v=.agg cs:=by
    unfold Value.okWide at hok
    rcases hagg with ⟨fs,hu⟩ | ⟨m,e,hu⟩
    · rw[hu]at hok;obtain⟨cs,rfl,_⟩:=hok;exact⟨cs,rfl⟩
    · rw[hu]at hok;obtain⟨cs,rfl,_⟩:=hok;exact⟨cs,rfl⟩
   obtain⟨cs,rfl⟩:=hv
   have hc:(Value.agg cs).cells.toList=cs.toList:=rfl
   rw[hc]at hq
   refine .agg qs cs (by simpa using hq.2.1.symm) (fun c hc=>?_) fun i c hi=>?_
   · obtain⟨j,hj⟩:=List.mem_iff_getElem?.1 hc
     have hk:=kindsOk_get hq.1
     have hjl:j<(shapeP P 8 t).2.length:=by rw[hk.1];exact(List.getElem?_eq_some_iff.1 hj).1
     exact kindOk_leaf (hk.2 j _ c (List.getElem?_eq_getElem hjl) hj)
   · have:=hq.2.2.1 i c hi
     rwa[List.getD_eq_getElem?_getD,Array.getElem?_toList,← Array.getD_eq_getD_getElem?]at this
  | false =>
   have h1:=shapeP_one ha hs
   have hk:=kindsOk_get hq.1
   match qs,hq,hk with
   | [q],hq,hk =>
    have hl:q.leaf=true:=by
     refine kindOk_leaf (hk.2 0 ((shapeP P 8 t).2[0]'(by omega)) q (by simp) rfl)
    have hv:v.cells.toList=[v]:=by
     have hl1:=hq.2.1
     cases v<;>first | rfl | skip
     rename_i cs
     exfalso
     unfold Value.okWide at hok
     split at hok
     · rename_i fs hu
       unfold shapeP at hs
       rw[hu]at hs
       cases hs
     · rename_i m e hu
       unfold shapeP at hs
       rw[hu]at hs
       cases hs
     · rename_i hns hna
       unfold argT at ha
       split at ha<;>rename_i hu<;>first | (cases ha;done) | skip
       · obtain⟨m,hc,_⟩:=DataW.trod_int hu h
         simp[Value.cells]at hc
         unfold Cell.okWide Cell.ok at hok
         rw[hu]at hok
         simp at hok
       · unfold Cell.okWide Cell.ok at hok
         rw[hu]at hok
         simp at hok
       · unfold Cell.okWide Cell.ok at hok
         rw[hu]at hok
         simp at hok
       · unfold Cell.okWide Cell.ok at hok
         rw[hu]at hok
         simp at hok
       · exact hns _ hu
       · exact hna _ _ hu
    rw[hv]at hq
    simpa [elemPV] using hq.2.2.1 0 q rfl
   | [],hq,hk=>have:=hk.1;rw[h1]at this;simp at this
   | _::_::_,hq,hk=>have:=hk.1;rw[h1]at this;simp at this
theorem trodAll_later {w' : World} (hb : ∀ b,b < w.heap.size → w'.heap[b]? = w.heap[b]?) : ∀ {ts : List TypeId} {vs : List Value} {ds : List (DataW H)} {ps : List MemPlace},DataW.TrodAll enc P w base (fun _ => true) held ts vs ds ps → (∀ t ∈ ts,argT P 8 t = true) →
    DataW.TrodAll enc P w' base (fun b=>decide (b<w.heap.size)) held ts vs ds ps
  | [],[],[],ps,h,_=>h
  | t::ts,v::vs,d::ds,ps,⟨p,q,h1,h2,e⟩,ha=>by
   refine⟨p,q,?_,trodAll_later hb h2 (fun u hu=>ha u (by simp[hu])),e⟩
   obtain⟨fuel,h1⟩:=h1
   have hlt:=DataW.trod_lt _ _ _ _ h1
   exact⟨fuel,trod_spare fuel 8 t _ _ (DataW.trod_carry fuel t _ _ h1 fun p hp=>sameAt_of hb (hlt p hp)) (ha t (by simp)) fun p hp=>by simpa using hlt p hp⟩
theorem args_read {b0 : Nat} (hM : ∀ b,b < w.heap.size → M b) : ∀ {ts : List TypeId} {vs : List Value} {ds : List (DataW H)} {ps : List MemPlace},DataW.TrodAll enc P w base sp held ts vs ds ps → (∀ t ∈ ts,argT P 8 t = true) → (∀ (j : Nat) t v,ts[j]? = some t → vs[j]? = some v → Value.okWide P w .any b0 t v) →
    ∃ xs,ArgsR P w M ts vs xs
  | [],[],[],ps,_,_,_=>⟨[],.nil⟩
  | t::ts,v::vs,d::ds,ps,⟨p,q,h1,h2,e⟩,ha,hv=>by
   obtain⟨xs,hxs⟩:=args_read hM h2 (fun u hu=>ha u (by simp[hu])) fun j t v h1 h2=>hv (j+1) t v (by simpa using h1) (by simpa using h2)
   obtain⟨x,e1,e2,e3⟩:=arg_read hM (ha t (by simp)) (hv 0 t v rfl rfl) h1
   exact⟨x::xs,.cons t ts v vs x xs e1 e2 e3 hxs⟩
theorem ArgsR.length {ts:List TypeId} {vs:List Value} {xs:List PV} (h:ArgsR P w M ts vs xs):xs.length=vs.length:=by
 induction h with
 | nil=>rfl
 | cons _ _ _ _ _ _ _ _ _ _ ih=>simp[ih]
theorem ArgsR.get {ts:List TypeId} {vs:List Value} {xs:List PV} (h:ArgsR P w M ts vs xs):∀ (i:Nat) (x:PV),xs[i]?=some x→∃ v,vs[i]?=some v∧VR w M x v:=by
 induction h with
 | nil=>intro i x h;simp at h
 | cons t ts v vs x xs h1 h2 h3 h ih =>
  intro i y hy
  cases i with
  | zero=>simp at hy;subst hy;exact⟨v,rfl,h1⟩
  | succ i=>simp at hy;simpa using ih i y hy
theorem law_calls {T : Tab} (ok : TabOk P T) {X : Ext} {gl : Option (List (Nat × Obj))} (hX : ExtOk P T gl X) {f : Nat} {fi : FI} (hf : tlook T.funcs f = some fi) {fn : Func} (hfn : fi.fn = fn) {tb : TypeId} (hres : fn.resultTypes = #[tb]) (hrets : fi.cfg.rets = [])
    (hub:P.underlying tb=some .bool) {s:ChangeSpec} (hvars:s.vars=[]) {W:World} {args:Array Value} {ds gs:List (DataW H)} {before:List MemPlace} {b0:Nat}
    (hval:∀ (j:Nat) t v,fn.params[j]?=some t→args[j]?=some v→Value.okWide P W .any b0 t v) (hW:DataW.Whole enc P fn.params.toList s.vars false W args.toList ds gs before)
    (hpar:fn.params.toList.all (argT P 8)=true) (hs:s.fn H ds={ results:=[.lit (.bool true)],args:=ds })
    (hgl:∀ p∈gl.getD [],p.1<W.heap.size∧W.heap[p.1]?=some p.2) (hrun:∀ xs,ArgsR P W (fun b=>b<W.heap.size) fn.params.toList args.toList xs→run T X f (xs.map .p) []=some ([.p (.bool true)],[])) :
    Calls P f args W fun e W'=>∃ v,e=.returned v∧s.post enc P fn false true false false W args v W':=by
  subst hfn
  have hW0:=hW
  obtain⟨p,q,hA,hV,hbef,hz,hn⟩:=hW
  have hall:∀ t∈fi.fn.params.toList,argT P 8 t=true:=fun t ht=>List.all_eq_true.1 hpar t ht
  rw[hvars]at hV
  cases gs with
  | cons g gr=>exact hV.elim
  | nil =>
   obtain⟨xs,hxs⟩:=args_read (M:=fun b=>b<W.heap.size) (fun _ h=>h) hA hall (base:=0) (fun j t v h1 h2=>by
    exact hval j t v (by simpa using h1) (by simpa using h2))
   have hsnd:=(run_sound ok hX).plain f fi (xs.map .p) [] _ [] hf (by simp) (hrun xs hxs)
   have hpre:CallPre W (fun b=>b<W.heap.size) (fun _=>none) (xs.map .p) [] args:=by
    refine⟨by simp[hxs.length],fun i v hi=>?_,fun i b0 hi=>by simp at hi,fun i b o hi=>by simp at hi,fun i j b o o' hi=>by simp at hi,fun b hb=>hb⟩
    simp only[List.getElem?_map,Option.map_eq_some_iff]at hi
    obtain⟨x,hx,rfl⟩:=hi
    obtain⟨v,h1,h2⟩:=hxs.get i x hx
    rw[Array.getD_eq_getD_getElem?,← Array.getElem?_toList,h1]
    exact .p _ _ h2
   refine Calls.mono (hsnd.2 W _ _ args hgl hpre) fun e W' hpost=>?_
   obtain⟨cs,ps,M',rfl,post⟩:=hpost
   have hkeep:∀ b,b<W.heap.size→W'.heap[b]?=W.heap[b]?:=fun b hb=>post.keep b hb fun i o hi=>by simp at hi
   have hr:=post.res
   rw[hres,hrets]at hr
   have hcs:cs=[.bool true]:=by
    cases hr with
    | cons _ _ _ _ _ c cs' p ps' h1 h2 _ =>
     cases h2
     cases h1 with
     | deep _ x _ _ hv=>cases hv;rfl
   subst hcs
   refine⟨.bool true,rfl,ds,[],before,[],p,[],hW0,?_,?_,?_,?_,fun h=>by cases h⟩
   · rw[List.append_nil,hs,hres]
     exact⟨[],[],⟨1,by simp[DataW.trod,Value.cells,hub]⟩,rfl,rfl⟩
   · rw[List.append_nil,hs]
     exact trodAll_later hkeep hA hall
   · rw[List.append_nil,hs,hvars];rfl
   · refine⟨post.os,post.output,fun i hi=>?_⟩
     rw[hkeep i hi]
     cases hh:W.heap[i]? with
     | none=>simp
     | some o=>cases o<;>simp
end
def TypesOk (P:Program):List (Nat × TI)→Prop
 | []=>True
 | (t,i)::r=>mkTI P t=some i∧TypesOk P r
structure FuncOk (P:Program) (T:Tab) (f:Nat) (fi:FI):Prop where
 fn:P.funcs[f]?=some fi.fn
 name : (fi.fn.name == "runtime.NumGoroutine") = false
 draws:(match fi.fn.body with | some c=>drawsOk T fi.hides c | none=>true)=true
 flat:(fi.cfg.byRef||(fi.cfg.shares||retsFlat T fi.cfg.rets fi.fn.resultTypes.toList))=true
 nvars:Nat.ble fi.cfg.nvars 100000=true
def FuncsOk (P:Program) (T:Tab):List (Nat × FI)→Prop
 | []=>True
 | (f,i)::r=>FuncOk P T f i∧FuncsOk P T r
theorem typesOk_get {P:Program}:∀ {l:List (Nat × TI)} {t:Nat} {i:TI},TypesOk P l→tlook l t=some i→mkTI P t=some i
 | [],t,i,_,h=>by simp[tlook]at h
 | (k,x)::r,t,i,hk,h=>by
  simp only[tlook]at h
  cases he:k==t with
  | true =>
   rw[he]at h
   have e:k=t:=by simpa using he
   subst e
   cases h
   exact hk.1
  | false=>rw[he]at h;exact typesOk_get hk.2 h
theorem funcsOk_get {P:Program} {T:Tab}:∀ {l:List (Nat × FI)} {f:Nat} {i:FI},FuncsOk P T l→tlook l f=some i→FuncOk P T f i
 | [],f,i,_,h=>by simp[tlook]at h
 | (k,x)::r,f,i,hk,h=>by
  simp only[tlook]at h
  cases he:k==f with
  | true =>
   rw[he]at h
   have e:k=f:=by simpa using he
   subst e
   cases h
   exact hk.1
  | false=>rw[he]at h;exact funcsOk_get hk.2 h
def PrimsOk (P:Program) (T:Tab):Prop:=∀ f fi,tlook T.funcs f=some fi→fi.cfg.prim.is=true→(∃ c,fi.fn.body=some c)∧PrimC P f fi.cfg.primTs fi.cfg.primE fi.cfg.prim
theorem tabOk_of {P:Program} {T:Tab} (h1:TypesOk P T.types) (h2:FuncsOk P T T.funcs) (h3:P.follows .mixedOrders=true) (h4:PrimsOk P T):TabOk P T:=by
 refine⟨fun t i h=>typesOk_get h1 h,fun f fi h=>?_,h3,fun f fi h=>Nat.le_of_ble_eq_true (funcsOk_get h2 h).nvars,h4⟩
 have g:=funcsOk_get h2 h
 refine⟨g.fn,g.name,fun c hc=>?_,fun hb hs=>?_⟩
 · have:=g.draws
   rw[hc]at this
   exact this
 · have:=g.flat
   rw[hb,hs]at this
   exact this
end Go.Skm
