/-
  A machine that runs this program's functions on pure values, and the proof that what it returns is true of the program; no condition beside the hypotheses of each.
-/
import Derived.Test.YtipkmkmngcjdbaaGreatDoorSkmD
import Derived.RangeFuncLeaves
import Derived.ProofKit
namespace Go.Skm
section
variable {P:Program} {T:Tab} {w0:Base} {Pr M0 M:Nat→Prop} {β Qd:Nat→Option (Nat × Nat)} {hp0:Heap} {st st':St} {a:Act} {w:World}
def yH (tmps:Array Value):ResultVar→Sem Value
 | .tmp t=>pure (tmps.getD t undef)
 | .cell a t=>do loadVar t (← asAddr (tmps.getD a undef))
theorem ZQ (ok:bP P T) (r:Rel w0 Pr M0 M β st a w) {x:ResultVar} {v:AV} (h:VJ T st.env (look st.heap) x=some v):∃ c,(yH a.tmps x).run P w=.ok c w∧AR w M β (look st.heap) v c:=by
 cases x with
 | tmp t =>
  simp only[VJ,Option.some.injEq]at h
  subst h
  exact⟨_,by simp[yH],r.slot t⟩
 | cell t ty =>
  simp only[VJ]at h
  split at h
  · rename_i s n hs hn
    split at h
    · rename_i cs hl
      have hx:=r.slot t
      rw[hs]at hx
      have hst:(AB T (look st.heap) ty (.ptr s 0 0)).run some=some { val:=v }:=by
       simp only[AB,hn,hl,h];rfl
      obtain⟨v',c,h1,h2,h3⟩:=(Rk ok (h':=look st.heap) (fun _ _ h=>h) r.heap hx).Zl Eff some _ hst
      cases h1
      refine⟨c,?_,h2⟩
      generalize hc:a.tmps.getD t undef=p at hx h3
      cases hx with
      | ptrB _ _ cs' b o p1 p2 =>
       simp only[Instr.loadAt,Instr.sureAddr]at h3
       simp only[yH,hc,asAddr]
       simpa using h3
      | ptrA _ _ _ sa ks xs b o p1 p2 p3=>rw[hl]at p1;cases p1
      | ptrT _ _ _ _ _ b p1 p2=>rw[hl]at p1;cases p1
    · cases h
  · cases h
theorem CO (ok:bP P T) (r:Rel w0 Pr M0 M β st a w):∀ {l:List ResultVar} {vs:List AV},DL T st.env (look st.heap) l=some vs→∃ cs,(l.mapM (yH a.tmps)).run P w=.ok cs w∧kW w M β (look st.heap) vs cs
 | [],vs,h=>by
  simp[DL]at h;subst h
  exact⟨[],by simp,rfl,fun i x c h=>by simp at h⟩
 | x::l,vs,h=>by
  simp only[DL]at h
  split at h
  · rename_i v vs' h1 h2
    cases h
    obtain⟨c,g1,g2⟩:=ZQ ok r h1
    obtain⟨cs,g3,g4⟩:=CO ok r h2
    refine⟨c::cs,by simp[g1,g3],by simp[g4.1],fun i y d hy hd=>?_⟩
    cases i with
    | zero=>simp at hy hd;subst hy hd;exact g2
    | succ i=>simp at hy hd;exact g4.2 i y d hy hd
  · cases h
theorem Bl {fn:Func} {tmps:Array Value} {cs:List Value} (h:(fn.results.toList.mapM (yH tmps)).run P w=.ok cs w):(results fn tmps).run P w=.ok (rP cs) w:=by
 have e:results fn tmps=(do let vs ← fn.results.mapM (yH tmps);pure (if h:vs.size=1 then vs[0] else .tuple vs)):=rfl
 rw[e,Array.mapM_eq_mapM_toList]
 simp only[map_eq_pure_bind,bind_assoc,pure_bind,Sem.run_bind,h,Result.andThen_ok,Sem.run_pure]
 congr 1
 match cs with
 | []=>rfl
 | [c]=>rfl
 | _::_::_=>rfl
theorem wI {ss:List Nat} {hp:Heap} {s:Nat} {b:aI} (h:look (l9 hp ss) s=some b):look hp s=some b∧s ∉ ss:=by
 rw[qm]at h
 by_cases hm:s∈ss
 · rw[if_pos hm]at h;cases h
 · rw[if_neg hm]at h;exact⟨h,hm⟩
theorem Iw {h:Nat→Option aI} {v:AV} {x:PV} {ss:List Nat} (hd:HY h v=some (x,ss)):∀ s∈ss,(h s).isSome=true:=by
 unfold HY at hd
 split at hd
 · cases hd;simp
 · split at hd
   · rename_i hs;cases hd;simp[hs]
   · cases hd
 · split at hd
   · rename_i hs
     split at hd
     · cases hd;simp[hs]
     · cases hd
   · cases hd
 · split at hd
   · rename_i hs;cases hd;simp[hs]
   · cases hd
 · cases hd
theorem zl {h:Nat→Option aI}:∀ {vs:List AV} {xs:List PV} {ss:List Nat},vw h vs=some (xs,ss)→∀ s∈ss,(h s).isSome=true
 | [],xs,ss,hd=>by simp[vw]at hd;obtain⟨_,rfl⟩:=hd;simp
 | v::r,xs,ss,hd=>by
  simp only[vw]at hd
  split at hd
  · rename_i h1 h2
    cases hd
    intro s hs
    rcases List.mem_append.1 hs with hs | hs
    · exact Iw h1 s hs
    · exact zl h2 s hs
  · cases hd
theorem Iy {h:Nat→Option aI} {v:AV} {x:PV} {ss:List Nat} (hd:EN h v=some (x,ss)):∀ s∈ss,(h s).isSome=true:=by
 unfold EN at hd
 split at hd
 · split at hd
   · rename_i hs
     split at hd
     · rename_i h1
       cases hd
       intro s hs'
       rcases List.mem_cons.1 hs' with rfl | hs'
       · rw[hs];rfl
       · exact zl h1 s hs'
     · cases hd
   · cases hd
 · exact Iw hd
theorem FD {h:Nat→Option aI}:∀ {vs:List AV} {xs:List PV} {ss:List Nat},AA h vs=some (xs,ss)→∀ s∈ss,(h s).isSome=true
 | [],xs,ss,hd=>by simp[AA]at hd;obtain⟨_,rfl⟩:=hd;simp
 | v::r,xs,ss,hd=>by
  simp only[AA]at hd
  split at hd
  · rename_i h1 h2
    cases hd
    intro s hs
    rcases List.mem_append.1 hs with hs | hs
    · exact Iy h1 s hs
    · exact FD h2 s hs
  · cases hd
theorem zn {h:Nat→Option aI} {v:AV} {x:PV} {ss:List Nat} (hd:deep h v=some (x,ss)):∀ s∈ss,(h s).isSome=true:=by
 unfold deep at hd
 split at hd
 · split at hd
   · rename_i h1;cases hd;exact zl h1
   · cases hd
 · split at hd
   · rename_i h1;cases hd;exact FD h1
   · cases hd
 · exact Iy hd
mutual
theorem AR.flat {w:World} {M M':Nat→Prop} {β:Nat→Option (Nat × Nat)} {h:Nat→Option aI}:∀ {v:AV} {c:Value},zI v=true→AR w M β h v c→AR w M' β h v c
 | .p v,c,hf,hv=>by
  cases hv with
  | p _ _ hv=>cases v<;>simp[zI]at hf<;>(cases hv;exact .p _ _ (by constructor))
 | .undef,c,_,hv=>.undef c
 | .slice s z o l,c,_,hv=>by
  cases hv with
  | slice _ _ _ a ks xs b o cap h1 hl hb hcap hr=>exact .slice _ _ _ a ks xs b o cap h1 hl hb hcap hr
  | sliceE _ _ a ks xs base h1 hl=>exact .sliceE _ _ a ks xs base h1 hl
 | .bslice s o l,c,_,hv=>by
  cases hv with
  | bslice _ _ _ cs b o cap h1 hl hb hcap=>exact .bslice _ _ _ cs b o cap h1 hl hb hcap
  | bsliceE _ _ cs base h1 hl=>exact .bsliceE _ _ cs base h1 hl
 | .ptr s i o,c,_,hv=>by
  cases hv with
  | ptrB _ _ cs b o h1 hb=>exact .ptrB _ _ cs b o h1 hb
  | ptrA _ _ _ a ks xs b o h1 hi hb=>exact .ptrA _ _ _ a ks xs b o h1 hi hb
  | ptrT _ _ t c0 c1 b h1 hb=>exact .ptrT _ _ t c0 c1 b h1 hb
 | .fn f cs,c,hf,hv=>by
  cases hv with
  | fn _ _ vs hn hc=>exact .fn f cs vs hn fun i c hi=>AR.SG (by simpa [zI] using hf) i c hi (hc i c hi)
 | .agg cs,c,hf,hv=>by
  cases hv with
  | agg _ vs hn hl hc=>exact .agg cs vs hn hl fun i c hi=>AR.SG (by simpa [zI] using hf) i c hi (hc i c hi)
 | .mG cs,c,hf,hv=>by
  cases hv with
  | mG _ vs hn hc=>exact .mG cs vs hn fun i c hi=>AR.SG (by simpa [zI] using hf) i c hi (hc i c hi)
 | .mO ..,_,hf,_=>by simp[zI]at hf
 | .fresh ..,_,hf,_=>by simp[zI]at hf
 | .sJ,_,hf,_=>by simp[zI]at hf
 | .mref _,_,hf,_=>by simp[zI]at hf
theorem AR.SG {w:World} {M M':Nat→Prop} {β:Nat→Option (Nat × Nat)} {h:Nat→Option aI}:∀ {vs:List AV},wZ vs=true→∀ (i:Nat) (v:AV) {c:Value},vs[i]?=some v→AR w M β h v c→AR w M' β h v c
 | [],_,i,v,c,hi,_=>by simp at hi
 | x::r,hf,0,v,c,hi,hv=>by
  simp only[wZ,Bool.and_eq_true]at hf
  simp at hi;subst hi
  exact AR.flat hf.1 hv
 | x::r,hf,i+1,v,c,hi,hv=>by
  simp only[wZ,Bool.and_eq_true]at hf
  exact AR.SG hf.2 i v (by simpa using hi) hv
end
theorem GV {h:Nat→Option aI} {s:Nat} {b:aI} (hb:H7 h s=some b):h s=some b:=by
 unfold H7 at hb
 split at hb
 · rename_i a ks xs hs
   cases hc:ks.all Kd.flat with
   | false=>rw[hc]at hb;cases hb
   | true=>rw[hc]at hb;cases hb;exact hs
 · rename_i cs hs
   cases hc:wZ cs with
   | false=>rw[hc]at hb;cases hb
   | true=>rw[hc]at hb;cases hb;exact hs
 · cases hb
theorem UU {hp:Heap} {s:Nat} (h:(H7 (look hp) s).isSome=true):(look hp s).isSome=true:=by
 obtain⟨b,hb⟩:=Option.isSome_iff_exists.1 h
 rw[GV hb];rfl
theorem BR.aeY {w:World} {M M':Nat→Prop} {β:Nat→Option (Nat × Nat)} {h h':Nat→Option aI} {s:Nat} {b:aI} (hb:H7 h' s=some b) (hr:BR w M β h s b):BR w M' β h s b:=by
 unfold H7 at hb
 split at hb
 · rename_i a ks xs _
   cases hc:ks.all Kd.flat with
   | false=>rw[hc]at hb;cases hb
   | true =>
    rw[hc]at hb;cases hb
    cases hr with
    | fM=>exact .fM _ _
    | arr _ _ _ b o C e' fr g1 g2 g3 g4 g5 g6 =>
     refine .arr _ _ _ b o C e' fr g1 g2 g3 g4 g5 fun i x j y hx hy=>?_
     have hk:=eH (jS (g5 x (List.mem_of_getElem? hx)))
     have hj:j<ks.length:=by
      have:=(List.getElem?_eq_some_iff.1 hy).1
      have:=hk.1
      omega
     exact(g6 i x j y hx hy).N7 (List.all_eq_true.1 hc ks[j] (by simp)) (hk.2 j ks[j] y (by simp) hy)
 · rename_i cs _
   cases hc:wZ cs with
   | false=>rw[hc]at hb;cases hb
   | true =>
    rw[hc]at hb;cases hb
    cases hr with
    | box _ b o C e fr g1 g2 g3 g4 g5 g6=>exact .box cs b o C e fr g1 g2 g3 g4 g5 fun j c hj=>AR.SG hc j c hj (g6 j c hj)
 · cases hb
theorem Ou {w : World} {M : Nat → Prop} {β : Nat → Option (Nat × Nat)} {hp hp' : Heap} (hh : ∀ s b,look hp s = some b → BR w M β (look hp) s b) (hsub : ∀ s b,look hp' s = some b → look hp s = some b) {v : AV} {x : PV} {ss : List Nat} {c : Value}
    (hf:zI v=true) (hd:deep (H7 (look hp')) v=some (x,ss)) (hv:AR w M β (look hp) v c):VR w (aY (fun _=>False) β ss) x c :=
  (wz (M:=fun _=>False) (h':=H7 (look hp')) (fun s b h=>(hh s b (hsub s b (GV h))).aeY h) (fun s b h=>hsub s b (GV h)) hd (hv.flat hf)).1
theorem Ov {β:Type}:∀ {l:List β} {r:List β} {x:β},qL l=some (r,x)→l=r++[x]
 | [],r,x,h=>by cases h
 | [y],r,x,h=>by simp[qL]at h;obtain⟨rfl,rfl⟩:=h;rfl
 | y::z::l,r,x,h=>by
  simp only[qL]at h
  split at h
  · rename_i r' x' e
    simp only[Option.some.injEq,Prod.mk.injEq]at h
    obtain⟨rfl,rfl⟩:=h
    rw[Ov e];rfl
  · cases h
theorem SH {w:World} {M:Nat→Prop} {β:Nat→Option (Nat × Nat)} {h:Nat→Option aI} {v:AV} {c:Value} {cs:List AV} (hv:AR w M β h v c) (hc:v.Ko=some cs):∃ vs,c=.agg vs∧vs.size=cs.length∧∀ (i:Nat) (x:AV),cs[i]?=some x→AR w M β h x (vs.getD i undef):=by
 unfold AV.Ko at hc
 split at hc
 · rename_i ps
   cases hc
   cases hv
   rename_i hv
   cases hv with
   | agg _ vs hn _ hh =>
    refine⟨vs,rfl,by simp[hn],fun i x hx=>?_⟩
    rw[List.getElem?_map]at hx
    cases hp:ps[i]? with
    | none=>rw[hp]at hx;cases hx
    | some y =>
     rw[hp]at hx
     simp only[Option.map_some,Option.some.injEq]at hx
     subst hx
     exact .p _ _ (hh i y hp)
 · rename_i ps
   cases hc
   cases hv with
   | agg _ vs hn _ hh=>exact⟨vs,rfl,hn,hh⟩
 · cases hc
theorem ZR {w : World} {M M' : Nat → Prop} {β : Nat → Option (Nat × Nat)} {h : Nat → Option aI} (hM : ∀ b,M b → M' b) {s z off len : Nat} {a : Bool} {ks : List Kd} {ys : List PV} {c : Value} (hs' : h s = some (.arr a ks ys)) (hbr : BR w M β h s (.arr a ks ys)) (hv : AR w M β h (.slice s z off len) c) :
    ∃ p:Option (Nat × Nat),BR w M' (fun _=>p) (fun _=>some (.arr a ks ((ys.drop off).take len))) 0 (.arr a ks ((ys.drop off).take len)) ∧
     AR w M' (fun _=>p) (fun _=>some (.arr a ks ((ys.drop off).take len))) (.slice 0 ks.length 0 ((ys.drop off).take len).length) c∧(∀ b o,p=some (b,o)→∃ o0,β s=some (b,o0)):=by
  cases hv with
  | sliceE _ _ a' ks' xs' base h1 h2 =>
   rw[hs']at h1;cases h1
   refine⟨none,?_,?_,fun b o h=>by cases h⟩
   · simp only[List.take_zero];exact .fM _ _
   · simp only[List.take_zero,List.length_nil]
     exact .sliceE 0 0 _ _ [] base rfl (by simp)
  | slice _ _ _ a' ks' xs' b o cap h1 h2 h3 h4 h5 =>
   rw[hs']at h1;cases h1
   have hlen:((ys.drop off).take len).length=len:=by simp;omega
   refine⟨some (b,o+off*ks.length),?_,?_,fun b' o' h=>by cases h;exact⟨o,h3⟩⟩
   · cases hbr with
     | fM=>simp only[List.drop_nil,List.take_nil];exact .fM _ _
     | arr _ _ _ b' o' C e' fr g1 g2 g3 g4 g5 g6 =>
      rw[h3]at g1;cases g1
      refine .arr _ _ _ b _ C e' fr rfl g2 ?_ g4 (fun x hx=>g5 x (List.mem_of_mem_drop (List.mem_of_mem_take hx))) fun i x j c hx hj=>?_
      · rw[hlen,Nat.add_assoc,← Nat.add_mul]
        exact Nat.le_trans (Nat.add_le_add_left (Nat.mul_le_mul_right _ (by omega)) _) g3
      · have hi : i < len := by
          have:=(List.getElem?_eq_some_iff.1 hx).1
          omega
        rw[List.getElem?_take,if_pos hi,List.getElem?_drop]at hx
        have:=(g6 (off+i) x j c hx hj).mono (M':=M') fun b hb=>⟨hM b hb,rfl⟩
        rw[Nat.add_mul]at this
        rwa[show o+off*ks.length+i*ks.length=o+(off*ks.length+i*ks.length) from by omega]
   · rw[hlen]
     have:=AR.slice (M:=M') (β:=fun _=>some (b,o+off*ks.length)) (h:=fun _=>some (.arr a ks ((ys.drop off).take len))) 0 0 len a ks ((ys.drop off).take len) b (o+off*ks.length) cap rfl (by rw[hlen];omega) rfl h4 (by
      refine h5.mono ?_
      rw[Nat.zero_add,Nat.add_assoc,← Nat.add_mul];exact Nat.le_refl _)
     rwa[Nat.zero_mul,Nat.add_zero]at this
theorem Eh (r : Rel w0 Pr M0 M β st a w) {hA : Nat → Option aI} {UW : Nat → Option (Nat × Nat)} (hend : ∀ j blk,look st.heap (ah + j) = some blk → hA (ah + j) = some blk ∧ UW (ah + j) = β (ah + j)) :
    ∀ {ts:List TypeId} {ms:List dX} {vs:List AV} {cs:List Value} {rs:List AV} {hp:Heap},wu T hp ms ts vs=some rs→(∀ s b,look hp s=some b→look st.heap s=some b)→kW w M β (look st.heap) vs cs →
    ∃ (S:List Nat) (ps:List (Option (Nat × Nat))),qA T w (aY M β S) UW hA ms ts rs cs ps∧(∀ s∈S,(look hp s).isSome=true∧s<ah) ∧
     (∀ b o,some (b,o)∈ps→∃ s o0,(look hp s).isSome=true∧s ∉ S∧s<ah∧β s=some (b,o0))∧(lT T ms ts=true→qA T w (aY (fun _=>False) β S) UW hA ms ts rs cs ps)
  | [],ms,[],cs,rs,hp,h,_,hl=>by
   simp[wu]at h;subst h
   have:cs=[]:=by have:=hl.1;simpa using this.symm
   subst this
   exact⟨[],[],.nil ms,by simp,by simp,fun _=>.nil ms⟩
  | t::ts,ms,v::vs,[],rs,hp,h,_,hl=>by have:=hl.1;simp at this
  | t::ts,ms,v::vs,c::cs,rs,hp,h,hsub,hl=>by
   simp only[wu]at h
   obtain⟨hv,hls⟩:=hl.cons
   split at h
   · rename_i x ss hx
     split at h
     · rename_i xs hxs
       cases h
       have aeZ:∀ s b,look (l9 hp ss) s=some b→look st.heap s=some b:=fun s b h=>hsub s b (wI h).1
       obtain⟨S,ps,k1,k2,k3,k4⟩:=Eh r hend hxs aeZ hls
       have upF:∀ (ss:List Nat) b,aY (fun _=>False) β S b→aY (fun _=>False) β (ss++S) b:=fun ss b hb=>hb.imp id fun ⟨s,o,h1,h2⟩=>⟨s,o,by simp[h1],h2⟩
       have live:∀ s,(look (l9 hp ss) s).isSome=true→(look hp s).isSome=true∧s ∉ ss:=fun s h=>by
        obtain⟨b,hb⟩:=Option.isSome_iff_exists.1 h
        obtain⟨g1,g2⟩:=wI hb
        exact⟨by rw[g1];rfl,g2⟩
       revert hx
       generalize hm:ms.headD .deep=m
       intro hx
       have plain : ∀ (x' : AV),x = x' → qB T w (aY M β S) UW hA (ms.headD .deep) t x' c none → (yZ T (ms.headD .deep) t = true → qB T w (aY (fun _ => False) β S) UW hA (ms.headD .deep) t x' c none) → ∃ (S : List Nat) (ps : List (Option (Nat × Nat))),qA T w (aY M β S) UW hA ms (t::ts) (x::xs) (c::cs) ps ∧ (∀ s ∈ S,(look hp s).isSome = true ∧ s < ah) ∧
           (∀ b o,some (b,o)∈ps→∃ s o0,(look hp s).isSome=true∧s ∉ S∧s<ah∧β s=some (b,o0))∧(lT T ms (t::ts)=true→qA T w (aY (fun _=>False) β S) UW hA ms (t::ts) (x::xs) (c::cs) ps):=by
         intro x' e hr hrF
         subst e
         refine⟨S,none::ps,.cons ms t ts x xs c cs none ps hr k1 (fun b o o' h=>by cases h),fun s hs=>⟨(live s (k2 s hs).1).1,(k2 s hs).2⟩,fun b o hb=>?_,fun hf=>by
          simp only[lT,Bool.and_eq_true]at hf
          exact .cons ms t ts x xs c cs none ps (hrF hf.1) (k4 hf.2) (fun b o o' h=>by cases h)⟩
         rcases List.mem_cons.1 hb with hb | hb
         · cases hb
         · obtain⟨s,o0,q1,q2,q3,q4⟩:=k3 b o hb
           exact⟨s,o0,(live s q1).1,q2,q3,q4⟩
       cases m with
       | deep =>
        simp only[y8]at hx
        split at hx
        · rename_i y ss' hd
          cases hc:aA (aB T t).1 (aB T t).2 y&&ss'.all (fun s=>Nat.blt s 100000) with
          | false=>rw[hc]at hx;cases hx
          | true =>
           rw[hc]at hx
           simp only[cond_true,Option.some.injEq,Prod.mk.injEq]at hx
           obtain⟨rfl,rfl⟩:=hx
           simp only[Bool.and_eq_true]at hc
           obtain⟨d1,d2⟩:=wz (M:=M) (β:=β) (fun s b h=>r.heap s b (hsub s b h)) hsub hd hv
           have hlt:∀ s∈ss',s<ah:=fun s hs=>Nat.le_of_ble_eq_true (List.all_eq_true.1 hc.2 s hs)
           have hlive:∀ s∈ss',(look hp s).isSome=true:=zn hd
           have up:∀ b,aY M β S b→aY M β (ss'++S) b:=fun b hb=>hb.imp id fun ⟨s,o,h1,h2⟩=>⟨s,o,by simp[h1],h2⟩
           have hd1:qB T w (aY M β (ss'++S)) UW hA .deep t (.p y) c none:=.deep t y c hc.1 (d1.mono fun b hb=>⟨hb.imp id fun ⟨s,o,h1,h2⟩=>⟨s,o,by simp[h1],h2⟩,rfl⟩)
           refine⟨ss'++S,none::ps,.cons ms t ts _ xs c cs none ps ?_ (k1.mono up) (fun b o o' h=>by cases h),fun s hs=>?_,fun b o hb=>?_,fun hf=>?_⟩
           · rw[hm]
             exact hd1
           · rcases List.mem_append.1 hs with hs | hs
             · exact⟨hlive s hs,hlt s hs⟩
             · exact⟨(live s (k2 s hs).1).1,(k2 s hs).2⟩
           · rcases List.mem_cons.1 hb with hb | hb
             · cases hb
             · obtain⟨s,o0,q1,q2,q3,q4⟩:=k3 b o hb
               exact⟨s,o0,(live s q1).1,by simp[(live s q1).2,q2],q3,q4⟩
           · simp only[lT,Bool.and_eq_true]at hf
             refine .cons ms t ts _ xs c cs none ps ?_ ((k4 hf.2).mono (upF _)) (fun b o o' h=>by cases h)
             have hf1:=hf.1
             rw[hm]at hf1 ⊢
             exact hd1.flat hf1 (.inl rfl)
        · cases hx
       | fresh =>
        simp only[y8]at hx
        split at hx
        · rename_i e hu
          split at hx
          · rename_i s z off len
            split at hx
            · rename_i sa ks ys hs
              cases hc:sa==(aB T e).1&&Kd.wL ks (aB T e).2&&Nat.blt s 100000 with
              | false=>rw[hc]at hx;cases hx
              | true =>
               rw[hc]at hx
               simp only[cond_true,Option.some.injEq,Prod.mk.injEq]at hx
               obtain⟨rfl,rfl⟩:=hx
               simp only[Bool.and_eq_true,beq_iff_eq]at hc
               obtain⟨⟨rfl,hks⟩,hlt⟩:=hc
               have hks:=Kd.jY _ _ hks
               subst hks
               have hlt:s<ah:=Nat.le_of_ble_eq_true hlt
               have hs':=hsub _ _ hs
               have hbr:=r.heap s _ hs'
               obtain ⟨p,hp1,hp2,hp3⟩ : ∃ p : Option (Nat × Nat),BR w (aY M β S) (fun _ => p) (fun _ => some (.arr (aB T e).1 (aB T e).2 ((ys.drop off).take len))) 0 (.arr (aB T e).1 (aB T e).2 ((ys.drop off).take len)) ∧
                   AR w (aY M β S) (fun _=>p) (fun _=>some (.arr (aB T e).1 (aB T e).2 ((ys.drop off).take len))) (.slice 0 (aB T e).2.length 0 ((ys.drop off).take len).length) c∧(∀ b o,p=some (b,o)→∃ o0,β s=some (b,o0)):=by
                 cases hv with
                 | sliceE _ _ a' ks' xs' base h1 h2 =>
                  refine⟨none,?_,?_,fun b o h=>by cases h⟩
                  · simp only[List.take_zero];exact .fM _ _
                  · simp only[List.take_zero,List.length_nil]
                    exact .sliceE 0 0 _ _ [] base rfl (by simp)
                 | slice _ _ _ a' ks' xs' b o cap h1 h2 h3 h4 h5 =>
                  rw[hs']at h1;cases h1
                  have hlen:((ys.drop off).take len).length=len:=by simp;omega
                  refine⟨some (b,o+off*(aB T e).2.length),?_,?_,fun b' o' h=>by cases h;exact⟨o,h3⟩⟩
                  · cases hbr with
                    | fM=>simp only[List.drop_nil,List.take_nil];exact .fM _ _
                    | arr _ _ _ b' o' C e' fr g1 g2 g3 g4 g5 g6 =>
                     rw[h3]at g1;cases g1
                     refine .arr _ _ _ b _ C e' fr rfl g2 ?_ g4 (fun x hx=>g5 x (List.mem_of_mem_drop (List.mem_of_mem_take hx))) fun i x j c hx hj=>?_
                     · rw[hlen,Nat.add_assoc,← Nat.add_mul]
                       exact Nat.le_trans (Nat.add_le_add_left (Nat.mul_le_mul_right _ (by omega)) _) g3
                     · have hi : i < len := by
                         have:=(List.getElem?_eq_some_iff.1 hx).1
                         omega
                       rw[List.getElem?_take,if_pos hi,List.getElem?_drop]at hx
                       have:=(g6 (off+i) x j c hx hj).mono (M':=aY M β S) fun b hb=>⟨.inl hb,rfl⟩
                       rw[Nat.add_mul]at this
                       rwa[show o+off*(aB T e).2.length+i*(aB T e).2.length=o+(off*(aB T e).2.length+i*(aB T e).2.length) from by omega]
                  · rw[hlen]
                    have:=AR.slice (M:=aY M β S) (β:=fun _=>some (b,o+off*(aB T e).2.length)) (h:=fun _=>some (.arr (aB T e).1 (aB T e).2 ((ys.drop off).take len))) 0 0 len (aB T e).1 (aB T e).2 ((ys.drop off).take len) b (o+off*(aB T e).2.length) cap rfl (by rw[hlen];omega) rfl h4 (by
                     refine h5.mono ?_
                     rw[Nat.zero_add,Nat.add_assoc,← Nat.add_mul];exact Nat.le_refl _)
                    rwa[Nat.zero_mul,Nat.add_zero]at this
               have hsl:(look hp s).isSome=true:=by rw[hs];rfl
               have hfr:qB T w (aY M β S) UW hA .fresh t (.fresh (aB T e).1 (aB T e).2 ((ys.drop off).take len)) c p:=.fresh t e _ c p hu hp1 hp2
               have hap:∀ b o o',p=some (b,o)→some (b,o') ∉ ps:=fun b o o' e1 e2=>by
                obtain⟨o0,q0⟩:=hp3 b o e1
                obtain⟨s',o0',q1,q2,q3,q4⟩:=k3 b o' e2
                obtain⟨g1,g2⟩:=live s' q1
                obtain⟨blk,hb⟩:=Option.isSome_iff_exists.1 g1
                have:=r.inj s' s b o0' o0 (by rw[hsub _ _ hb];rfl) (by rw[hs'];rfl) q4 q0
                exact g2 (by simp[this])
               refine⟨S,p::ps,.cons ms t ts _ xs c cs p ps ?_ k1 hap,fun s' hs'=>⟨(live s' (k2 s' hs').1).1,(k2 s' hs').2⟩,fun b o hb=>?_,fun hf=>?_⟩
               · rw[hm];exact hfr
               · rcases List.mem_cons.1 hb with hb | hb
                 · obtain⟨o0,q0⟩:=hp3 b o hb.symm
                   exact⟨s,o0,hsl,fun hS=>(live s (k2 s hS).1).2 (by simp),hlt,q0⟩
                 · obtain⟨s',o0,q1,q2,q3,q4⟩:=k3 b o hb
                   exact⟨s',o0,(live s' q1).1,q2,q3,q4⟩
               · simp only[lT,Bool.and_eq_true]at hf
                 refine .cons ms t ts _ xs c cs p ps ?_ (k4 hf.2) hap
                 have hf1:=hf.1
                 rw[hm]at hf1 ⊢
                 exact hfr.flat hf1 (.inr (.inl rfl))
            · cases hx
          · simp only[Option.some.injEq,Prod.mk.injEq]at hx
            obtain⟨rfl,rfl⟩:=hx
            have hc:c=.slice none 0 0:=by cases hv;rename_i hv;cases hv;rfl
            subst hc
            have hne:∀ M,qB T w M UW hA (ms.headD .deep) t (.fresh (aB T e).1 (aB T e).2 []) (.slice none 0 0) none:=fun M=>by
             rw[hm];exact .fresh t e [] _ none hu (.fM _ _) (.sliceE 0 0 _ _ [] none rfl (by simp))
            exact plain _ rfl (hne _) fun _=>hne _
          · cases hx
        · cases hx
       | IW=>simp[y8]at hx
       | yc =>
        simp only[y8]at hx
        split at hx
        · rename_i f ys ss' hd
          cases hc:ss'.all (fun s=>Nat.blt s 100000) with
          | false=>rw[hc]at hx;cases hx
          | true =>
           rw[hc]at hx
           simp only[cond_true,Option.some.injEq,Prod.mk.injEq]at hx
           obtain⟨rfl,rfl⟩:=hx
           obtain⟨d1,d2⟩:=wz (M:=M) (β:=β) (fun s b h=>r.heap s b (hsub s b h)) hsub hd hv
           have hlt:∀ s∈ss',s<ah:=fun s hs=>Nat.le_of_ble_eq_true (List.all_eq_true.1 hc s hs)
           have hlive:∀ s∈ss',(look hp s).isSome=true:=zn hd
           have up:∀ b,aY M β S b→aY M β (ss'++S) b:=fun b hb=>hb.imp id fun ⟨s,o,h1,h2⟩=>⟨s,o,by simp[h1],h2⟩
           refine⟨ss'++S,none::ps,.cons ms t ts _ xs c cs none ps ?_ (k1.mono up) (fun b o o' h=>by cases h),fun s hs=>?_,fun b o hb=>?_,fun hf=>?_⟩
           · rw[hm]
             exact .yc f t ys c (d1.mono fun b hb=>⟨hb.imp id fun ⟨s,o,h1,h2⟩=>⟨s,o,by simp[h1],h2⟩,rfl⟩)
           · rcases List.mem_append.1 hs with hs | hs
             · exact⟨hlive s hs,hlt s hs⟩
             · exact⟨(live s (k2 s hs).1).1,(k2 s hs).2⟩
           · rcases List.mem_cons.1 hb with hb | hb
             · cases hb
             · obtain⟨s,o0,q1,q2,q3,q4⟩:=k3 b o hb
               exact⟨s,o0,(live s q1).1,by simp[(live s q1).2,q2],q3,q4⟩
           · simp only[lT,Bool.and_eq_true,hm,yZ]at hf
             exact absurd hf.1 (by simp)
        · cases hx
       | func g qs =>
        simp only[y8]at hx
        split at hx
        · rename_i f ys ss' hd
          cases hc:(f==g&&vg qs ys)&&ss'.all (fun s=>Nat.blt s 100000) with
          | false=>rw[hc]at hx;cases hx
          | true =>
           rw[hc]at hx
           simp only[cond_true,Option.some.injEq,Prod.mk.injEq]at hx
           obtain⟨rfl,rfl⟩:=hx
           simp only[Bool.and_eq_true,beq_iff_eq]at hc
           obtain⟨⟨rfl,hcq⟩,hcs⟩:=hc
           obtain⟨d1,d2⟩:=wz (M:=M) (β:=β) (fun s b h=>r.heap s b (hsub s b h)) hsub hd hv
           have hlt:∀ s∈ss',s<ah:=fun s hs=>Nat.le_of_ble_eq_true (List.all_eq_true.1 hcs s hs)
           have hlive:∀ s∈ss',(look hp s).isSome=true:=zn hd
           have up:∀ b,aY M β S b→aY M β (ss'++S) b:=fun b hb=>hb.imp id fun ⟨s,o,h1,h2⟩=>⟨s,o,by simp[h1],h2⟩
           refine⟨ss'++S,none::ps,.cons ms t ts _ xs c cs none ps ?_ (k1.mono up) (fun b o o' h=>by cases h),fun s hs=>?_,fun b o hb=>?_,fun hf=>?_⟩
           · rw[hm]
             exact .func f qs t ys c hcq (d1.mono fun b hb=>⟨hb.imp id fun ⟨s,o,h1,h2⟩=>⟨s,o,by simp[h1],h2⟩,rfl⟩)
           · rcases List.mem_append.1 hs with hs | hs
             · exact⟨hlive s hs,hlt s hs⟩
             · exact⟨(live s (k2 s hs).1).1,(k2 s hs).2⟩
           · rcases List.mem_cons.1 hb with hb | hb
             · cases hb
             · obtain⟨s,o0,q1,q2,q3,q4⟩:=k3 b o hb
               exact⟨s,o0,(live s q1).1,by simp[(live s q1).2,q2],q3,q4⟩
           · simp only[lT,Bool.and_eq_true,hm,yZ]at hf
             exact absurd hf.1 (by simp)
        · cases hx
       | vk g qs =>
        simp only[y8]at hx
        split at hx
        · rename_i f ys ss' hfl hd
          cases hc:(f==g&&vg qs ys)&&ss'.all (fun s=>Nat.blt s 100000) with
          | false=>rw[hc]at hx;cases hx
          | true =>
           rw[hc]at hx
           simp only[cond_true,Option.some.injEq,Prod.mk.injEq]at hx
           obtain⟨rfl,rfl⟩:=hx
           simp only[Bool.and_eq_true,beq_iff_eq]at hc
           obtain⟨⟨rfl,hcq⟩,hcs⟩:=hc
           have hd1:VR w (aY (fun _=>False) β ss') (.fn f ys) c:=Ou r.heap hsub hfl hd hv
           have hlt:∀ s∈ss',s<ah:=fun s hs=>Nat.le_of_ble_eq_true (List.all_eq_true.1 hcs s hs)
           have hlive:∀ s∈ss',(look hp s).isSome=true:=fun s hs=>UU (zn hd s hs)
           have up:∀ b,aY M β S b→aY M β (ss'++S) b:=fun b hb=>hb.imp id fun ⟨s,o,h1,h2⟩=>⟨s,o,by simp[h1],h2⟩
           have hres:∀ M1:Nat→Prop,qB T w (aY M1 β (ss'++S)) UW hA (ms.headD .deep) t (.p (.fn f ys)) c none:=fun M1=>by
            rw[hm]
            exact .vk f qs t ys c hcq (hd1.mono fun b hb=>⟨hb.elim (fun h=>h.elim) fun ⟨s,o,h1,h2⟩=>.inr ⟨s,o,by simp[h1],h2⟩,rfl⟩)
           refine⟨ss'++S,none::ps,.cons ms t ts _ xs c cs none ps (hres _) (k1.mono up) (fun b o o' h=>by cases h),fun s hs=>?_,fun b o hb=>?_,fun hf=>?_⟩
           · rcases List.mem_append.1 hs with hs | hs
             · exact⟨hlive s hs,hlt s hs⟩
             · exact⟨(live s (k2 s hs).1).1,(k2 s hs).2⟩
           · rcases List.mem_cons.1 hb with hb | hb
             · cases hb
             · obtain⟨s,o0,q1,q2,q3,q4⟩:=k3 b o hb
               exact⟨s,o0,(live s q1).1,by simp[(live s q1).2,q2],q3,q4⟩
           · simp only[lT,Bool.and_eq_true]at hf
             exact .cons ms t ts _ xs c cs none ps (hres _) ((k4 hf.2).mono (upF _)) (fun b o o' h=>by cases h)
        · rename_i hfl hd
          simp only[Option.some.injEq,Prod.mk.injEq]at hx
          obtain⟨rfl,rfl⟩:=hx
          have hd1:VR w (aY (fun _=>False) β []) .jL c:=Ou r.heap hsub hfl hd hv
          cases hd1
          have hne:∀ M,qB T w M UW hA (ms.headD .deep) t (.p .jL) .nilFunc none:=fun M=>by
           rw[hm];exact .Cc g qs t
          exact plain _ rfl (hne _) fun _=>hne _
        · cases hx
       | DI =>
        simp only[y8]at hx
        split at hx
        · rename_i VK hsh
          split at hx
          · rename_i ks a ls cells hla hcells
            split at hx
            · rename_i cs0 y hcl
              split at hx
              · rename_i ys zs ss' hpu hfo
                cases hc:bH ks ys&&ks.all Kd.flat with
                | false=>rw[hc]at hx;cases hx
                | true =>
                 rw[hc]at hx
                 simp only[cond_true,Option.some.injEq,Prod.mk.injEq]at hx
                 obtain⟨rfl,rfl⟩:=hx
                 simp only[Bool.and_eq_true]at hc
                 obtain⟨hck,hcf⟩:=hc
                 obtain⟨va,rfl,hvn,hva⟩:=SH hv hcells
                 have e1:=Ov hcl
                 subst e1
                 have e2:=qp hpu
                 subst e2
                 have hy:AR w M β (look st.heap) y (va.getD ys.length undef):=hva ys.length y (by simp)
                 obtain ⟨p,hp1,hp2,hp3⟩ : ∃ p : Option (Nat × Nat),BR w (aY M β S) (fun _ => p) (fun _ => some (.arr a ls zs)) 0 (.arr a ls zs) ∧
                     AR w (aY M β S) (fun _=>p) (fun _=>some (.arr a ls zs)) (.slice 0 ls.length 0 zs.length) (va.getD ys.length undef)∧(∀ b o,p=some (b,o)→∃ s o0,s∈ss'∧(look hp s).isSome=true∧s<ah∧β s=some (b,o0)):=by
                   unfold VI at hfo
                   split at hfo
                   · rename_i s z off len
                     split at hfo
                     · rename_i sa ks' ws hs
                       cases hc:sa==a&&Kd.wL ks' ls&&Nat.blt s 100000 with
                       | false=>rw[hc]at hfo;cases hfo
                       | true =>
                        rw[hc]at hfo
                        simp only[cond_true,Option.some.injEq,Prod.mk.injEq]at hfo
                        obtain⟨rfl,rfl⟩:=hfo
                        simp only[Bool.and_eq_true,beq_iff_eq]at hc
                        obtain⟨⟨rfl,hks⟩,hlt⟩:=hc
                        have hks:=Kd.jY _ _ hks
                        subst hks
                        obtain⟨p,q1,q2,q3⟩:=ZR (M':=aY M β S) (fun b hb=>.inl hb) (hsub _ _ hs) (r.heap s _ (hsub _ _ hs)) hy
                        refine⟨p,q1,q2,fun b o e=>?_⟩
                        obtain⟨o0,q⟩:=q3 b o e
                        exact⟨s,o0,by simp,by rw[hs];rfl,Nat.le_of_ble_eq_true hlt,q⟩
                     · cases hfo
                   · simp only[Option.some.injEq,Prod.mk.injEq]at hfo
                     obtain⟨rfl,rfl⟩:=hfo
                     refine⟨none,.fM _ _,?_,fun b o e=>by cases e⟩
                     generalize va.getD ys.length undef=c0 at hy
                     cases hy
                     rename_i hy
                     cases hy
                     exact .sliceE 0 0 _ _ [] none rfl (by simp)
                   · cases hfo
                 have hfr:qB T w (aY M β S) UW hA .DI t (.agg (ys.map .p++[.fresh a ls zs])) (.agg va) p :=
                  .DI t VK ks a ls ys zs va p hsh hla hck hcf (by simpa using hvn) (fun i c hc=>by
                   have:=hva i (.p c) (by rw[List.getElem?_append_left (by simpa using (List.getElem?_eq_some_iff.1 hc).1),List.getElem?_map,hc];rfl)
                   cases this
                   rename_i this
                   exact this.mono fun b hb=>⟨.inl hb,rfl⟩) hp1 hp2
                 have hap:∀ b o o',p=some (b,o)→some (b,o') ∉ ps:=fun b o o' e1 e2=>by
                  obtain⟨s,o0,hs1,hs2,_,q0⟩:=hp3 b o e1
                  obtain⟨s',o0',q1,q2,q3,q4⟩:=k3 b o' e2
                  obtain⟨g1,g2⟩:=live s' q1
                  obtain⟨blk,hb⟩:=Option.isSome_iff_exists.1 g1
                  obtain⟨aeS,hb2⟩:=Option.isSome_iff_exists.1 hs2
                  have:=r.inj s' s b o0' o0 (by rw[hsub _ _ hb];rfl) (by rw[hsub _ _ hb2];rfl) q4 q0
                  exact g2 (by rw[this];exact hs1)
                 refine⟨S,p::ps,.cons ms t ts _ xs (.agg va) cs p ps ?_ k1 hap,fun s' hs'=>⟨(live s' (k2 s' hs').1).1,(k2 s' hs').2⟩,fun b o hb=>?_,fun hf=>?_⟩
                 · rw[hm];exact hfr
                 · rcases List.mem_cons.1 hb with hb | hb
                   · obtain⟨s,o0,hs1,hs2,hs3,q0⟩:=hp3 b o hb.symm
                     exact⟨s,o0,hs2,fun hS=>(live s (k2 s hS).1).2 hs1,hs3,q0⟩
                   · obtain⟨s',o0,q1,q2,q3,q4⟩:=k3 b o hb
                     exact⟨s',o0,(live s' q1).1,q2,q3,q4⟩
                 · simp only[lT,Bool.and_eq_true]at hf
                   refine .cons ms t ts _ xs (.agg va) cs p ps ?_ (k4 hf.2) hap
                   have hf1:=hf.1
                   rw[hm]at hf1 ⊢
                   exact hfr.flat hf1 (.inr (.inr rfl))
              · cases hx
            · cases hx
          · cases hx
        · cases hx
       | alias j =>
        simp only[y8]at hx
        split at hx
        · rename_i s z off len e hu
          cases hc:s==ah+j&&z==(aB T e).2.length with
          | false=>rw[hc]at hx;cases hx
          | true =>
           rw[hc]at hx
           simp only[cond_true,Option.some.injEq,Prod.mk.injEq]at hx
           obtain⟨rfl,rfl⟩:=hx
           simp only[Bool.and_eq_true,beq_iff_eq]at hc
           obtain⟨rfl,rfl⟩:=hc
           have:∃ blk,look st.heap (ah+j)=some blk:=by
            generalize (aB T e).2.length=z at hv
            cases hv with
            | slice _ _ _ a ks xs b o cap hs hl hb hcap hr=>exact⟨_,hs⟩
            | sliceE _ _ a ks xs base hs hl=>exact⟨_,hs⟩
           obtain⟨blk,hb⟩:=this
           obtain⟨g1,g2⟩:=hend j blk hb
           have hne:∀ M,qB T w M UW hA (ms.headD .deep) t (.slice (ah+j) (aB T e).2.length off len) c none:=fun M=>by
            rw[hm];exact .alias j t e off len c hu (hv.gy hb g1 g2)
           exact plain _ rfl (hne _) fun _=>hne _
        · cases hx
     · cases h
   · cases h
  | [],ms,v::vs,cs,rs,hp,h,_,_=>by simp[wu]at h
  | t::ts,ms,[],cs,rs,hp,h,_,_=>by simp[wu]at h
theorem XO {b0 b:aI} (h0:dn b0=true) (h1:BU b=true) (h2:backOk b0 b=true):dn b=true:=by
 cases b with
 | log=>cases b0<;>simp[backOk,dn]at h0 h2
 | _=>exact h1
theorem Iz {hp:Heap}:∀ {bl iU:List aI} {k:Nat},(∀ b∈bl,dn b=true)→yx hp k bl=some iU→iU.length=bl.length∧∀ (i:Nat) (b0 b1:aI),bl[i]?=some b0→iU[i]?=some b1→look hp (ah+(k+i))=some b1∧dn b1=true∧backOk b0 b1=true
 | [],iU,k,_,h=>by
  simp[yx]at h;subst h
  exact⟨rfl,fun i b0 b1 h=>by simp at h⟩
 | b0::r,iU,k,hbl,h=>by
  simp only[yx]at h
  split at h
  · rename_i b bs h1 h2
    cases hc:BU b&&backOk b0 b with
    | false=>rw[hc]at h;cases h
    | true =>
     rw[hc]at h
     simp only[cond_true,Option.some.injEq]at h
     subst h
     simp only[Bool.and_eq_true]at hc
     obtain⟨g1,g2⟩:=Iz (fun b hb=>hbl b (by simp[hb])) h2
     refine⟨by simp[g1],fun i c0 c1 e1 e2=>?_⟩
     cases i with
     | zero=>simp at e1 e2;subst e1 e2;exact⟨h1,XO (hbl b0 (by simp)) hc.1 hc.2,hc.2⟩
     | succ i =>
      simp at e1 e2
      rw[show k+(i+1)=k+1+i from by omega]
      exact g2 i c0 c1 e1 e2
  · cases h
theorem BR.pure_mono {M':Nat→Prop} {β':Nat→Option (Nat × Nat)} {h h':Nat→Option aI} {s s':Nat} {blk:aI} (hM:∀ b,M b→M' b) (hb:BR w M β h s blk) (hp:dn blk=true) (e:β' s'=β s):BR w M' β' h' s' blk:=by
 have hM':∀ b,M b→M' b∧w.heap[b]?=w.heap[b]?:=fun b h=>⟨hM b h,rfl⟩
 have hb1:=hb.GN (β':=β') (h':=h') hp e
 cases hb1 with
 | log=>simp[dn]at hp
 | tb=>simp[dn]at hp
 | mp=>simp[dn]at hp
 | br=>simp[dn]at hp
 | DR=>simp[dn]at hp
 | fM=>exact .fM _ _
 | arr _ _ _ b o C e' fr g1 g2 g3 g4 g5 g6=>exact .arr _ _ _ b o C e' fr g1 g2 g3 g4 g5 fun i x j c h1 h2=>(g6 i x j c h1 h2).mono hM'
 | box cs b o C e' fr g1 g2 g3 g4 g5 g6 =>
  refine .box cs b o C e' fr g1 g2 g3 g4 g5 fun j c hc=>?_
  simp only[dn,Option.isSome_iff_exists]at hp
  obtain⟨vs,hp⟩:=hp
  have hcs:=qp hp
  subst hcs
  have hc':=g6 j c hc
  simp only[List.getElem?_map,Option.map_eq_some_iff]at hc
  obtain⟨x,_,rfl⟩:=hc
  generalize C.getD (o+j) undef=u at hc'
  cases hc' with
  | p _ _ hv=>exact .p _ _ (hv.mono hM')
theorem Rel.start {args : List AV} {bl : List aI} {aG : Array Value} (hp : oH w M β args bl aG) {gl : Option (List (Nat × Obj))} (hgl : ∀ p ∈ gl.getD [],M p.1 ∧ w.heap[p.1]? = some p.2) (fn : Func) :
    Rel ⟨w,w.heap.size,Nat.le_refl _,gl⟩ (fun b=>∃ i o,i<bl.length∧β (ah+i)=some (b,o)) M M β (uf fn args bl) { tmps:=aG++Array.replicate (fn.ntmps-aG.size) undef,defers:=[] } w:=by
  have hn:=hp.num
  refine⟨?_,fun t v ht=>?_,fun s blk hs=>?_,fun s b o hs hb=>?_,fun s s' b o o' hs hs' hb hb'=>?_,hp.fJ,fun b h=>.inl h,fun b h=>h,fun b _ _=>rfl,fun b n _ _ h=>h,Nat.le_refl _,rfl,rfl,rfl,hgl⟩
  · simp[uf,hn]
  · by_cases hlt:t<args.length
    · have ht' : args[t]? = some v := by
        simp only[uf]at ht
        rwa[List.getElem?_append_left hlt]at ht
      have:=hp.args t v ht'
      have e:(aG++Array.replicate (fn.ntmps-aG.size) undef).getD t undef=aG.getD t undef:=by
       rw[Array.getD_eq_getD_getElem?,Array.getD_eq_getD_getElem?,Array.getElem?_append_left (by omega)]
      rw[e];exact this
    · have : v = .undef := by
        simp only[uf]at ht
        rw[List.getElem?_append_right (by omega),List.getElem?_replicate]at ht
        split at ht
        · simpa using ht.symm
        · cases ht
      subst this
      exact .undef _
  · obtain⟨i,h1,rfl,h2⟩:=Ce hs
    exact hp.blk i blk h2
  · obtain⟨blk,hs⟩:=Option.isSome_iff_exists.1 hs
    obtain⟨i,h1,rfl,h2⟩:=Ce hs
    obtain⟨g1,g2⟩:=hp.own i b o h1 hb
    exact⟨g1,g2,.inr ⟨i,o,h1,hb⟩,.inr (by omega)⟩
  · obtain⟨blk,hs⟩:=Option.isSome_iff_exists.1 hs
    obtain⟨blk',hs'⟩:=Option.isSome_iff_exists.1 hs'
    obtain⟨i,h1,rfl,h2⟩:=Ce hs
    obtain⟨j,h1',rfl,h2'⟩:=Ce hs'
    rw[hp.inj i j b o o' h1 h1' hb hb']
def zA (P : Program) (T : Tab) (gl : Option (List (Nat × Obj))) (X : Ext) : Prop := ∀ f fi s args bl rs iU,bG T.funcs f = some fi → X f = some s → s args bl = some (rs,iU) → (∃ c,fi.fn.body = some c) ∧ (∀ b ∈ bl,dn b = true) ∧
    ∀ (w:World) (M:Nat→Prop) (β:Nat→Option (Nat × Nat)) (aG:Array Value),(∀ p∈gl.getD [],M p.1∧w.heap[p.1]?=some p.2)→oH w M β args bl aG →
     Calls P f aG w fun e w'=>∃ cs ps M',e=.returned (rP cs)∧rQ gl T fi w M β bl rs iU w' M' cs ps
theorem uo {fn : Func} {tmps : Array Value} {R : Ending → World → Prop} {n : Nat} : ∀ (ds : List Nat) (w : World),ds.Nodup → (∀ D ∈ ds,w.heap[D]? = some (.deferred (some []))) →
    (∀ w',(∀ b,b ∉ ds→w'.heap[b]?=w.heap[b]?)→w'.heap.size=w.heap.size→w'.os=w.os→w'.tape=w.tape→w'.output=w.output→w'.drawn=w.drawn→∃ v,(results fn tmps).run P w'=.ok v w'∧R (.returned v) w') →
    LeavesInM (FW none) n P fn tmps R (ds.map UG) .returning w
  | [],w,_,_,h=>h w (fun _ _=>rfl) rfl rfl rfl rfl rfl
  | D::ds,w,hnd,hl,h=>by
   obtain⟨h1,h2⟩:=List.nodup_cons.1 hnd
   refine⟨by simp,.inl ⟨D,w.putObj D (.deferred none),rfl,run_takeDeferred (hl D (by simp)),?_⟩⟩
   refine uo ds _ h2 (fun D' hD'=>?_) fun w' k1 k2 k3 k4 k5 k6=>?_
   · rw[World.putObj_heap_other (show D'≠D from fun e=>h1 (e▸hD'))]
     exact hl D' (by simp[hD'])
   · refine h w' (fun b hb=>?_) (by rw[k2,World.putObj_size]) k3 k4 k5 k6
     simp only[List.mem_cons,not_or]at hb
     rw[k1 b hb.2,World.putObj_heap_other hb.1]
theorem Inv.shut {cx : Cx} {M : Nat → Prop} {β : Nat → Option (Nat × Nat)} {st : St} {a : Act} {w w' : World} {L : List (Nat × Obj)} {ds : List Nat} (r : Rel cx.w0 cx.Pr cx.M0 M β st a w) (fx : Fix cx M β st.heap a w L ds) (hn : cx.nm = cx.w0.heap.size)
    (k1:∀ b,b ∉ ds→w'.heap[b]?=w.heap[b]?) (k2:w'.heap.size=w.heap.size) (k3:w'.os=w.os) (k4:w'.tape=w.tape) (k5:w'.output=w.output):Rel cx.w0 cx.Pr cx.M0 M β st a w':=by
  have hM:∀ b,M b→b ∉ ds:=fun b hb hd=>(fx.lies _ (fx.mark b hd).1).2.2 hb
  have hO:∀ b,lC β st.heap b→b ∉ ds:=fun b hb hd=>(fx.lies _ (fx.mark b hd).1).2.1 hb
  have hw:∀ b,b<cx.w0.heap.size→b ∉ ds:=fun b hb hd=>by have:=(fx.mark b hd).2;omega
  refine r.to rfl (fun b hb=>⟨hb,k1 b (hM b hb)⟩) (fun s b o hs hb=>?_) (fun b hb=>by rw[k2];exact r.fJ b hb) r.jX r.oJ (fun b hb hp=>?_) (fun b n hb hp hr=>?_) (by rw[k2];exact r.size) (k3.trans r.os) (k4.trans r.tape) (k5.trans r.output)
  · obtain⟨g1,g2,g3⟩:=r.own s b o hs hb
    exact⟨k1 b (hO b ⟨s,o,hs,hb⟩),g1,by rw[k2];exact g2,g3⟩
  · rw[k1 b (hw b hb)];exact r.keep b hb hp
  · exact(r.room b n hb hp hr).of_block (k1 b (hw b (by have:=cx.w0.le';omega)))
theorem UY {bl:List aI} (h:∀ b∈bl,dn b=true):yG (dN 0 bl):=by
 intro xs he
 have:look (dN 0 bl) (ah+0)=some (.log true xs):=he
 rw[mX]at this
 have:=h _ (List.mem_of_getElem? this)
 simp[dn]at this
theorem XP (ok : bP P T) {X : Ext} {gl : Option (List (Nat × Obj))} (hX : zA P T gl X) {n : Nat} (hC : gX P T gl (kR T X n)) (hS : SB P T gl (kR T X n)) :
    ∀ f fi args bl rs iU,bG T.funcs f=some fi→(∀ b∈bl,dn b=true)→kR T X (n+1) f args bl=some (rs,iU)→(∃ c,fi.fn.body=some c) ∧
    ∀ (w:World) (M:Nat→Prop) (β:Nat→Option (Nat × Nat)) (aG:Array Value),(∀ p∈gl.getD [],M p.1∧w.heap[p.1]?=some p.2)→oH w M β args bl aG →
     Calls P f aG w fun e w'=>∃ cs ps M',e=.returned (rP cs)∧rQ gl T fi w M β bl rs iU w' M' cs ps:=by
  intro f fi args bl rs iU hf hpb h
  simp only[kR,hf]at h
  cases hx:X f with
  | some s =>
   rw[hx]at h
   obtain⟨h1,_,h2⟩:=hX f fi s args bl rs iU hf hx h
   exact⟨h1,h2⟩
  | none =>
   rw[hx]at h
   simp only at h
   cases hb:fi.fn.body with
   | none=>rw[hb]at h;cases h
   | some c =>
    rw[hb]at h
    have hcb:Df fi.cfg bl=true:=by
     cases hcb:Df fi.cfg bl with
     | true=>rfl
     | false=>rw[hcb]at h;cases h
    have Qa:fi.cfg.vcall=false:=by
     cases Qa:fi.cfg.vcall with
     | false=>rfl
     | true =>
      unfold Df at hcb
      rw[Qa]at hcb
      simp only at hcb
      split at hcb
      · have:=hpb _ (List.mem_cons_self ..)
        simp[dn,zF]at this
      · cases hcb
    rw[hcb]at h
    simp only[cond_true,fH,iH,aH,Kq,Xg,Qa]at h
    refine⟨⟨c,rfl⟩,fun w M β aG hgl hp=>?_⟩
    obtain⟨hfn,hname,hdr,hret⟩:=ok.funcs f fi hf
    let cx:Cx:={ w0:=⟨w,w.heap.size,Nat.le_refl _,gl⟩,Pr:=fun b=>∃ i o,i<bl.length∧β (ah+i)=some (b,o),M0:=M,Qd:=β,hp0:=dN 0 bl,Wr:=fun _=>True,t0:=aG++Array.replicate (fi.fn.ntmps-aG.size) undef,rd:=none,L0:=[],nm:=w.heap.size }
    have hi:Inv cx (uf fi.fn args bl) { tmps:=aG++Array.replicate (fi.fn.ntmps-aG.size) undef,defers:=[] } w :=
     ⟨M,β,[],[],Rel.start hp hgl fi.fn,fun _ _=>rfl,fun s _ b hb=>⟨b,hb,Like.refl b⟩,.refl _ _,⟨fun p hp=>by simp at hp,fun p hp=>by simp[cx]at hp,rfl,List.nodup_nil,fun D hD=>by simp at hD,fun l hl=>(by cases hl),rfl,fun _ _=>rfl,fun _=>rfl,fun _ h=>h.elim,Nat.le_refl _⟩⟩
    refine mM (rd:=none) (n:=0) (callsIn_of_wp_marks hfn hb trivial ?_)
    refine jG (ng:=false) (Ir (m:=0) ok hC (ok.nvars f fi hf) (rs,iU)) (fun _ f ps y z hy hz=>Ot ok hS hy hz) c ⟨cx,UY hpb,rfl⟩ _ _ w _ _ _ trivial h (hdr c hb) (fun h=>by cases h) (fun _ _=>⟨fun _ _=>trivial,fun _ _ h=>h.elim⟩) ⟨rfl,hi⟩ fun ex x' st a w1 hk i=>?_
    obtain⟨rfl,i⟩:=i
    have hk':Rf T fi.cfg fi.fn bl st=some (rs,iU)∧(ex=.normal∨ex=.ret):=by
     cases ex with
     | normal=>exact⟨hk,.inl rfl⟩
     | exit id=>cases hk
     | ret=>exact⟨hk,.inr rfl⟩
    obtain⟨hk,hex⟩:=hk'
    obtain⟨M1,β1,L1,ds1,r1,e1,e2,e3',ZT⟩:=i
    have goal:LeavesInM (FW none) 0 P fi.fn a.tmps (fun e w'=>∃ cs ps M',e=.returned (rP cs)∧rQ gl T fi w M β bl rs iU w' M' cs ps) a.defers .returning w1:=by
     rw[ZT.marks]
     refine uo ds1 w1 ZT.nodup (fun D hD=>(ZT.lies _ (ZT.mark D hD).1).1) fun w' q1 q2 q3 q4 q5 q6=>?_
     have r:=Inv.shut r1 ZT rfl q1 q2 q3 q4 q5
     have e3:gZ gl w.drawn w'.drawn:=by rw[q6];exact e3'
     unfold Rf at hk
     split at hk
     · cases hk
     · rename_i vs hvs
       split at hk
       · rename_i rs' abg hrv hab
         simp only[fH,iH,Option.some.injEq,Prod.mk.injEq]at hk
         obtain⟨rfl,rfl⟩:=hk
         obtain⟨cs,g1,g2⟩:=CO ok r hvs
         obtain⟨ab1,ab2⟩:=Iz hpb hab
         have hold:∀ j blk,look st.heap (ah+j)=some blk→∃ b0,bl[j]?=some b0∧Like b0 blk:=by
          intro j blk hj
          obtain⟨b0,k1,k2⟩:=e2 (ah+j) (by omega) blk hj
          rw[mX]at k1
          exact⟨b0,k1,k2⟩
         have hend:∀ j blk,look st.heap (ah+j)=some blk→look (dN 0 abg) (ah+j)=some blk∧β (ah+j)=β1 (ah+j):=by
          intro j blk hj
          obtain⟨b0,k1,k2⟩:=hold j blk hj
          refine⟨?_,(e1 (ah+j) (by omega)).symm⟩
          rw[mX]
          have hlt:j<abg.length:=by rw[ab1];exact(List.getElem?_eq_some_iff.1 k1).1
          have:=(ab2 j b0 abg[j] k1 (by simp)).1
          rw[Nat.zero_add,hj]at this
          cases this
          simp
         obtain⟨S,ps,q1,q2,q3,q4⟩:=Eh r hend hrv (fun _ _ h=>h) g2
         have hup:∀ b,M1 b→aY M1 β1 S b:=fun b h=>.inl h
         refine⟨rP cs,Bl g1,cs,ps,aY M1 β1 S,rfl,⟨q1,fun b o hb=>?_,fun hb1 hs1=>⟨aY (fun _=>False) β1 S,fun b hb=>?_,q4 (hret hb1 hs1)⟩,fun b h=>.inl (r.oJ b h),fun b h=>?_,fun b h=>?_,fun b hb hn=>?_,fun b n hb hr=>?_,r.size,r.os,r.tape,r.output,e3,ab1,fun i b0 b1 h1 h2=>?_⟩⟩
         · obtain⟨s,o0,k1,k2,k3,k4⟩:=q3 b o hb
           obtain⟨o1,o2,o3⟩:=r.own s b o0 k1 k4
           refine⟨fun h=>?_,o2,?_⟩
           · rcases h with h | ⟨s',o',hs',hb'⟩
             · exact o1 h
             · exact k2 (by rw[r.inj s s' b o0 o' k1 (q2 s' hs').1 k4 hb'];exact hs')
           · rcases o3.2 with o3 | o3
             · exact o3
             · omega
         · rcases hb with hb | ⟨s',o',hs',hb'⟩
           · exact hb.elim
           · refine⟨.inr ⟨s',o',hs',hb'⟩,?_⟩
             obtain⟨k1,k2⟩:=q2 s' hs'
             rcases(r.own s' b o' k1 hb').2.2.2 with o3 | o3
             · exact o3
             · omega
         · rcases h with h | ⟨s',o',hs',hb'⟩
           · exact(r.jX b h).imp id And.left
           · obtain⟨k1,k2⟩:=q2 s' hs'
             rcases(r.own s' b o' k1 hb').2.2.2 with o3 | o3
             · exact .inr o3
             · omega
         · rcases h with h | ⟨s',o',hs',hb'⟩
           · exact r.fJ b h
           · exact(r.own s' b o' (q2 s' hs').1 hb').2.1
         · exact r.keep b hb fun ⟨i,o,hi,h⟩=>hn i o hi h
         · by_cases hpr:∃ i o,i<bl.length∧β (ah+i)=some (b,o)
           · exact r.room b n hb hpr hr
           · exact hr.of_block (r.keep b hb hpr)
         · obtain⟨k1,k2,k3⟩:=ab2 i b0 b1 h1 h2
           rw[Nat.zero_add]at k1
           obtain⟨b0',k4,k5⟩:=hold i b1 k1
           rw[h1]at k4;cases k4
           exact⟨(r.heap _ _ k1).pure_mono hup k2 (e1 (ah+i) (by omega)).symm,k5,k3,k2⟩
       · cases hk
    rcases hex with rfl | rfl
    · exact goal
    · exact goal
end
end Go.Skm
namespace Go.Skm
def ji (st st':St):Prop:=∀ b zs,look st'.heap ah=some (.log b zs)→look st.heap ah=some (.log b zs)
theorem ji.refl (st:St):ji st st:=fun _ _ h=>h
theorem ji.trans {a b c:St} (h:ji a b) (k:ji b c):ji a c:=fun x zs hx=>h x zs (k x zs hx)
theorem IB {ss:List Nat} {x:Option aI} {b:Bool} {zs:List PV} (h:x.map (aI.kill ss)=some (.log b zs)):x=some (.log b zs):=by
 cases x with
 | none=>cases h
 | some y =>
  cases y with
  | box=>simp[aI.kill]at h
  | arr=>simp[aI.kill]at h
  | tb=>simp[aI.kill]at h
  | mp=>simp[aI.kill]at h
  | br=>simp[aI.kill]at h
  | log=>simpa [aI.kill] using h
theorem qR (st:St) (ss:List Nat):ji st (st.strike ss):=by
 intro b zs h
 rw[bQ]at h
 split at h
 · cases h
 · exact IB h
theorem ZU (st:St) (ss:List Nat):ji st (st.kill ss):=by
 intro b zs h
 cases ss with
 | nil=>exact h
 | cons s r =>
  have h:look (fD (s::r) st.heap) ah=some (.log b zs):=h
  rw[fA]at h
  exact IB h
theorem uK {h:Heap}:∀ {c:List (Nat × aI)},mQ h c=true→∀ s b zs,(s,aI.log b zs) ∉ c
 | [],_,s,b,zs=>by simp
 | (t,.log _ _)::r,hc,s,b,zs=>by simp[mQ]at hc
 | (t,.box cs)::r,hc,s,b,zs=>by
  have:mQ h r=true:=by
   simp only[mQ]at hc
   cases ht:(t==ah) with
   | false=>rw[ht]at hc;exact hc
   | true =>
    rw[ht]at hc
    simp only[cond_true]at hc
    split at hc
    · cases hc
    · exact hc
  simp[uK this s b zs]
 | (t,.arr a ks xs)::r,hc,s,b,zs=>by
  have:mQ h r=true:=by
   simp only[mQ]at hc
   cases ht:(t==ah) with
   | false=>rw[ht]at hc;exact hc
   | true =>
    rw[ht]at hc
    simp only[cond_true]at hc
    split at hc
    · cases hc
    · exact hc
  simp[uK this s b zs]
 | (t,.tb u c0 c1)::r,hc,s,b,zs=>by
  have:mQ h r=true:=by
   simp only[mQ]at hc
   cases ht:(t==ah) with
   | false=>rw[ht]at hc;exact hc
   | true =>
    rw[ht]at hc
    simp only[cond_true]at hc
    split at hc
    · cases hc
    · exact hc
  simp[uK this s b zs]
 | (t,.mp u es)::r,hc,s,b,zs=>by
  have:mQ h r=true:=by
   simp only[mQ]at hc
   cases ht:(t==ah) with
   | false=>rw[ht]at hc;exact hc
   | true =>
    rw[ht]at hc
    simp only[cond_true]at hc
    split at hc
    · cases hc
    · exact hc
  simp[uK this s b zs]
 | (t,.br u xs)::r,hc,s,b,zs=>by
  have:mQ h r=true:=by
   simp only[mQ]at hc
   cases ht:(t==ah) with
   | false=>rw[ht]at hc;exact hc
   | true =>
    rw[ht]at hc
    simp only[cond_true]at hc
    split at hc
    · cases hc
    · exact hc
  simp[uK this s b zs]
theorem XQ {h:Heap} {st:St} {d:Option Nat} {e:Eff} (hc:mQ h e.lJ=true):ji st (st.apply d e):=by
 intro b zs hl
 have hl:look (cZ ((st.strike (present st.heap e.new++e.wP)).kill e.cut).heap e.lJ) ah=some (.log b zs):=hl
 rcases AX _ _ _ _ hl with hl | hl
 · exact qR _ _ _ _ (ZU _ _ _ _ hl)
 · exact absurd hl (uK hc _ _ _)
theorem iI (F:Aw) (c:Code) (st:St):ji st (aC F c st):=by
 unfold Skm.aC
 split
 · exact ji.refl _
 · split
   · exact ji.refl _
   · exact qR { st with env:=_ } _
theorem LW {st:St} {s d:Nat} (hne:s≠d) (hs:s<ah) (hd:d<ah):ji st (st.Au s d):=by
 intro b zs h
 have hn:look (st.strike [d]).heap d=none:=by rw[bQ];simp
 have h:look (oC s d (st.strike [d]).heap) ah=some (.log b zs):=h
 rw[qx hne ah hn,if_neg (by omega),if_neg (by omega)]at h
 refine qR st [d] b zs ?_
 cases hx:look (st.strike [d]).heap ah with
 | none=>rw[hx]at h;cases h
 | some y =>
  rw[hx]at h
  cases y with
  | box=>simp[aI.ren]at h
  | arr=>simp[aI.ren]at h
  | tb=>simp[aI.ren]at h
  | mp=>simp[aI.ren]at h
  | br=>simp[aI.ren]at h
  | log=>simpa [aI.ren] using h
theorem pz (nv:Nat) (hs:List Nat) (vW:nv≤ah):∀ (l:List Oper) (st:St),ji st (jO nv hs l st)
 | [],st=>ji.refl _
 | o::r,st=>by
  simp only[Skm.jO]
  split
  · rename_i d _ _
    split
    · rename_i s _ _ _ _
      cases hc:(Nat.ble nv s||(dZ d hs&&!(s==d)))&&(Nat.blt d nv&&Nat.blt s 100000) with
      | false=>exact pz nv hs vW r st
      | true =>
       simp only[Bool.and_eq_true]at hc
       have h2:d<nv:=Nat.le_of_ble_eq_true hc.2.1
       have h1:s≠d:=by
        intro e
        rcases(by simpa only[Bool.or_eq_true] using hc.1:Nat.ble nv s=true∨(dZ d hs&&!(s==d))=true) with h | h
        · exact absurd (Nat.le_of_ble_eq_true h) (Nat.not_le_of_lt (by rw[e];exact h2))
        · simp[e]at h
       have h3:s<100000:=Nat.le_of_ble_eq_true hc.2.2
       have ea:ah=100000:=rfl
       exact(LW h1 h3 (Nat.lt_of_lt_of_le h2 vW)).trans (pz nv hs vW r _)
    · exact pz nv hs vW r st
  · exact pz nv hs vW r st
def Has (x:List AV × List aI) (st:St):Prop:=∃ b zs,look st.heap ah=some (.log b zs)∧∃ ys,tu x.2=zs++ys
theorem Has.sub {x:List AV × List aI} {st st':St} (h:ji st st'):Has x st'→Has x st:=fun ⟨b,zs,h1,h2⟩=>⟨b,zs,h b zs h1,h2⟩
def KP (k:Ex→St→Option (List AV × List aI)):Prop:=∀ ex st x,k ex st=some x→Has x st
section
variable {T:Tab} {C:aF} {F:FI} {n:Nat}
theorem Ox {hd:List Nat} {all:List Oper} {o:Oper} {st st':St} (h:step1 T C false hd all o st=some st'):ji st st':=by
 unfold step1 at h
 split at h
 · cases h
 · cases h;exact fun _ _ h=>h
 · split at h
   · rename_i hc
     simp only[Bool.and_eq_true]at hc
     cases h
     exact XQ hc.2
   · cases h
theorem IC {draw:Bool} {st:St} {o:Oper} {xs vs:List PV} (h:nJ draw st o=some (xs,vs)):∃ c ss t,draw=false∧o.op=.call c∧c.callee=.value (.tmp t)∧st.env.getD t .undef=.sJ∧look st.heap ah=some (.log true xs)∧C9 (look st.heap) (jw st.env c.args.toList)=some (vs,ss):=by
 cases draw with
 | true=>cases h
 | false =>
  have h:yieldOf st o=some (xs,vs):=h
  unfold yieldOf at h
  split at h
  · rename_i c hop
    split at h
    · rename_i t hce
      split at h
      · rename_i hy
        split at h
        · rename_i xs' vs' ss h1 h2
          cases h
          exact⟨c,ss,t,rfl,hop,hce,hy,h1,h2⟩
        · cases h
      · cases h
    · cases h
  · cases h
theorem sV (st:St) (d:Option Nat) (xs vs:List PV) (b:Bool):look (iY st d xs vs b).heap ah=some (.log b (xs++[.agg vs])):=by
 show look (put _ ah _) ah=_
 rw[aV,if_pos rfl]
theorem FH {hd:List (List Nat)} {all:List Oper} {k:St→Option (List AV × List aI)} (hk:∀ st x,k st=some x→Has x st):∀ (l:List Oper) (j:Nat) (st:St) (x:List AV × List aI),dW T C false hd all l j st k=some x→Has x st
 | [],j,st,x,h=>hk st x h
 | o::rest,j,st,x,h=>by
  cases hy:nJ false st o with
  | none =>
   rw[mY _ _ hy]at h
   cases h1:step1 T C false (hd.getD j []) all o st with
   | none=>rw[h1]at h;cases h
   | some st1 =>
    rw[h1]at h
    exact(FH hk rest (j+1) st1 x h).sub (Ox h1)
  | some p =>
   obtain⟨xs,vs⟩:=p
   rw[nK _ _ hy]at h
   obtain⟨_,_,_,_,_,_,_,hl,_⟩:=IC hy
   cases hg:guardOf all o st.env with
   | none=>rw[hg]at h;cases h
   | some b =>
    rw[hg]at h
    cases b with
    | false=>exact(FH hk rest (j+1) _ x h).sub fun _ _ h=>h
    | true =>
     obtain⟨r,_,h3⟩:=Cm h
     obtain⟨b,zs,h4,ys,h5⟩:=FH hk rest (j+1) _ x h3
     rw[sV]at h4
     cases h4
     exact⟨true,xs,hl,.agg vs::ys,by rw[h5];simp⟩
theorem XR {b:Option aI} {st:St} {k:St→Option (List AV × List aI)} {x:List AV × List aI} (hk:∀ st x,k st=some x→Has x st) (h:tN b st k=some x):∃ on zs,b=some (.log on zs)∧∃ ys,tu x.2=zs++ys:=by
 unfold tN at h
 split at h
 · split at h
   · rename_i on xs
     obtain⟨b',zs,h1,h2⟩:=hk _ _ h
     have h1:look (put st.heap ah (.log on xs)) ah=_:=h1
     rw[aV,if_pos rfl]at h1
     cases h1
     exact⟨_,_,rfl,h2⟩
   · cases h
 · rename_i hno
   obtain⟨b',zs,h1,h2⟩:=hk _ _ h
   exact absurd h1 (hno _ _)
theorem mZ (ts:List Nat):∀ (l:List Oper) (st:St),ji st (freezes ts l st)
 | [],st=>ji.refl _
 | o::r,st=>by
  simp only[freezes]
  split
  · cases hm:dZ _ ts with
    | false=>exact mZ ts r st
    | true =>
     simp only[cond_true]
     split
     · rename_i v ss _
       cases hf:fU ss with
       | false=>exact mZ ts r st
       | true =>
        refine ji.trans ?_ (mZ ts r _)
        exact fun b zs h=>qR st ss b zs h
     · exact mZ ts r st
  · exact mZ ts r st
theorem qy (hs:List Nat):∀ (l:List Oper) (st:St),ji st (jy hs l st)
 | [],st=>ji.refl _
 | o::r,st=>by
  simp only[Skm.jy]
  split
  · rename_i x _
    split
    · rename_i s _ _ _ _
      cases hc:dZ x hs&&(Nat.blt s 5000&&Nat.blt x 5000) with
      | false=>exact qy hs r st
      | true =>
       simp only[Bool.and_eq_true]at hc
       have h1:s<5000:=Nat.le_of_ble_eq_true hc.2.1
       have h2:x<5000:=Nat.le_of_ble_eq_true hc.2.2
       have k:∀ s y:Nat,s<5000→y<5000→s≠5000+y∧s<ah∧5000+y<ah:=fun s y h1 h2=>by
        have ea:ah=100000:=rfl
        omega
       obtain⟨k1,k2,k3⟩:=k s x h1 h2
       exact(LW k1 k2 k3).trans (qy hs r _)
    · exact qy hs r st
  · exact qy hs r st
theorem vP {F:Aw} (vW:F.nvars≤ah) (l:List Oper) (st:St):ji st (settle F l st):=by
 unfold settle
 split
 · exact(pz _ _ vW l st).trans (mZ _ l _)
 · exact((pz _ _ vW l st).trans (qy _ l _)).trans (mZ _ l _)
theorem UZ (vW:F.cfg.nvars≤ah) {id:Nat} {ops:Array Oper} {draw:Bool} {k:Ex→St→Option (List AV × List aI)} (hk:KP k) (st:St) (x:List AV × List aI) (h:aK T C F n (.region id ops draw) st k=some x):Has x st:=by
 have hk':∀ st x,(fC (settle F.cfg ops.toList st) fun st'=>k .normal st')=some x→Has x st:=fun st x h=>by
  rw[aH]at h
  exact(hk .normal _ x h).sub (vP vW _ _)
 simp only[aK]at h
 obtain⟨h,-⟩:=iy h
 cases draw with
 | false =>
  exact FH hk' _ _ _ _ h
 | true =>
  simp only at h
  split at h
  · simp only[aH]at h
    obtain⟨fin,_,h2⟩:=LM h
    obtain⟨on,zs,h3,h4⟩:=XR (fun st x h=>(hk .normal _ x h).sub (vP vW _ _)) h2
    exact⟨on,zs,qR _ _ _ _ h3,h4⟩
  · cases h
theorem ni (vW:F.cfg.nvars≤ah):∀ (c:Code) (k:Ex→St→Option (List AV × List aI)),KP k→∀ st x,aK T C F n c st k=some x→Has x st
 | .skip,k,hk,st,x,h=>hk .normal st x h
 | .region id ops draw,k,hk,st,x,h=>UZ vW hk st x h
 | .seq y z,k,hk,st,x,h=>by
  rw[wH]at h
  refine ni vW y _ (fun ex st x h=>?_) st x h
  cases ex with
  | normal=>exact(ni vW z k hk _ x h).sub (iI _ _ _)
  | exit id=>exact hk (.exit id) st x h
  | ret=>exact hk .ret st x h
 | .cond c y z,k,hk,st,x,h=>by
  simp only[aK]at h
  split at h
  · rename_i b _
    cases b with
    | true=>exact ni vW y k hk st x h
    | false=>exact ni vW z k hk st x h
  · cases h
 | .block id c,k,hk,st,x,h=>by
  rw[Dp]at h
  refine ni vW c _ (fun ex st x h=>?_) st x h
  cases ex with
  | normal=>exact hk .normal st x h
  | exit j =>
   simp only[GU]at h
   cases hj:(j==id) with
   | true=>rw[hj]at h;exact hk .normal st x h
   | false=>rw[hj]at h;exact hk (.exit j) st x h
  | ret=>exact hk .ret st x h
 | .loop c,k,hk,st,x,h=>by
  simp only[aK]at h
  have key:∀ (m:Nat) (st:St) (x:List AV × List aI),mD (aC F.cfg c) (fun st' k'=>aK T C F n c st' k') m st k=some x→Has x st:=by
   intro m
   induction m with
   | zero=>intro st x h;simp[mD]at h
   | succ m ih =>
    intro st x h
    rw[Bg]at h
    refine ni vW c _ (fun ex st x h=>?_) st x h
    cases ex with
    | normal =>
     simp only[LU,aH]at h
     exact(ih _ x h).sub (iI _ _ _)
    | exit id=>exact hk (.exit id) st x h
    | ret=>exact hk .ret st x h
  exact(key n _ x h).sub (iI _ _ _)
 | .exit id,k,hk,st,x,h=>hk (.exit id) st x h
 | .ret,k,hk,st,x,h=>hk .ret st x h
 | .label _,k,hk,st,x,h=>hk .normal st x h
 | .rangeFunc f ps y z,k,hk,st,x,h=>by
  obtain⟨g,caps,fi,r,_,_,_,_,_,h⟩:=ru h
  have key:∀ (l:List PV) (st:St) (x:List AV × List aI),jg (aC F.cfg (.seq y z)) fi.cfg.yk ps.toList (jW ps y z) (vO T C F n y z) l st k=some x→Has x st:=by
   intro l
   induction l with
   | nil=>intro st x h;exact hk .normal st x h
   | cons v l ih =>
    intro st x h
    simp only[jg]at h
    split at h
    · cases h
    · rename_i env _
      rw[aH]at h
      have hkr:KP (nV (aC F.cfg (.seq y z)) (jW ps y z) (fun st=>jg (aC F.cfg (.seq y z)) fi.cfg.yk ps.toList (jW ps y z) (vO T C F n y z) l st k) k):=by
       intro ex st x h
       cases ex with
       | normal =>
        simp only[nV,aH]at h
        exact((ih _ x h).sub (iI _ _ _)).sub fun _ _ h=>h
       | exit id =>
        simp only[nV,aH]at h
        exact(hk (.exit id) _ x h).sub fun _ _ h=>h
       | ret =>
        simp only[nV,aH]at h
        exact(hk .ret _ x h).sub fun _ _ h=>h
      refine(ni vW y (UO T C F n z _) (fun ex st x h=>?_) { st with env:=env } x h).sub fun _ _ h=>h
      cases ex with
      | normal=>exact(ni vW z _ hkr _ x h).sub (iI _ _ _)
      | exit id=>exact hkr (.exit id) st x h
      | ret=>exact hkr .ret st x h
  exact(key _ _ x h).sub (iI _ _ _)
 | .scope c,k,hk,st,x,h=>ni vW c k hk st x h
 | .goto ..,_,_,_,_,h | .refuse ..,_,_,_,_,h=>by simp[aK]at h
theorem KP.seq (vW:F.cfg.nvars≤ah) {k:Ex→St→Option (List AV × List aI)} (hk:KP k) (z:Code):KP (UO T C F n z k):=by
 intro ex st x h
 cases ex with
 | normal=>exact(ni vW z k hk _ x h).sub (iI _ _ _)
 | exit id=>exact hk (.exit id) st x h
 | ret=>exact hk .ret st x h
theorem KP.block {k:Ex→St→Option (List AV × List aI)} (hk:KP k) (id:Nat):KP (GU id k):=by
 intro ex st x h
 cases ex with
 | normal=>exact hk .normal st x h
 | exit j =>
  simp only[GU]at h
  cases hj:(j==id) with
  | true=>rw[hj]at h;exact hk .normal st x h
  | false=>rw[hj]at h;exact hk (.exit j) st x h
 | ret=>exact hk .ret st x h
theorem KP.loop (vW:F.cfg.nvars≤ah) {k:Ex→St→Option (List AV × List aI)} (hk:KP k) (c:Code) (m:Nat):KP (LU T C F n c m k):=by
 have key:∀ (m:Nat) (st:St) (x:List AV × List aI),mD (aC F.cfg c) (fun st' k'=>aK T C F n c st' k') m st k=some x→Has x st:=by
  intro m
  induction m with
  | zero=>intro st x h;simp[mD]at h
  | succ m ih =>
   intro st x h
   rw[Bg]at h
   refine ni vW c _ (fun ex st x h=>?_) st x h
   cases ex with
   | normal =>
    simp only[LU,aH]at h
    exact(ih _ x h).sub (iI _ _ _)
   | exit id=>exact hk (.exit id) st x h
   | ret=>exact hk .ret st x h
 intro ex st x h
 cases ex with
 | normal =>
  simp only[LU,aH]at h
  exact(key m _ x h).sub (iI _ _ _)
 | exit id=>exact hk (.exit id) st x h
 | ret=>exact hk .ret st x h
end
end Go.Skm
namespace Go.Skm
open Go.RowKit
def gcx (gl:Option (List (Nat × Obj))) (wd:World) (M0:Nat→Prop) (on:Bool) (done:List PV) (t0:Array Value) (ys:List Nat) (yv:Value):Cx :=
 { w0:=⟨wd,wd.heap.size,Nat.le_refl _,gl⟩,Pr:=fun _=>False,M0:=M0,Qd:=fun _=>none,hp0:=[(ah,.log on done)],Wr:=fun _=>True,t0,rd:=none,L0:=[],nm:=wd.heap.size,Ys:=fun t=>t∈ys,yv:=yv }
structure Gv where
 W0:World
 M0:Nat→Prop
 J:List PV→(Nat→Prop)→World→Prop
 Jx:World→Prop
 t0:Array Value
 l:Nat
 gl:Option (List (Nat × Obj))
 ys:List Nat
abbrev Gv.yv (G:Gv):Value:=.func (.yield G.l) #[] #[]
structure Gv.Ok (G:Gv) (P:Program):Prop where
 j:∀ r O W W',G.J r O W→sG G.gl W W'→G.J r O W'
 jx:∀ W W',G.Jx W→sG G.gl W W'→G.Jx W'
 lt:∀ r O W,G.J r O W→∀ b,O b→b<W.heap.size
 y:∀ vs r O W (M:Nat→Prop) aG,G.J (.agg vs::r) O W→G.W0.heap.size≤W.heap.size→(∀ b,M b→b<W.heap.size∧¬ O b∧(G.M0 b∨G.W0.heap.size≤b))→aG.size=vs.length→(∀ i c,vs[i]?=some c→VR W M c (aG.getD i undef))→abK P G.gl G.l aG W (G.J r) G.Jx O
def GI (G:Gv) (x:List AV × List aI) (st:St) (a:Act) (w:World):Prop :=
 ∃ wd Mk on done,Inv (gcx G.gl wd Mk on done G.t0 G.ys G.yv) st a w∧(∀ b zs,look st.heap ah=some (.log b zs)→b=on∧zs=done)∧G.W0.heap.size≤wd.heap.size∧(∀ b,Mk b→b<wd.heap.size∧(G.M0 b∨G.W0.heap.size≤b)) ∧
  ((on=true∧∃ rest O,tu x.2=done++rest∧G.J rest O wd∧∀ b,Mk b→¬ O b)∨(on=false∧G.Jx wd))
section
variable {P:Program} {G:Gv} {x:List AV × List aI} {st st':St} {a a':Act} {w w':World}
theorem GI.map (g:GI G x st a w) (h:∀ cx,Inv cx st a w→Inv cx st' a' w') (hl:ji st st'):GI G x st' a' w':=by
 obtain⟨wd,Mk,on,done,i,h1,h2,h3,h4⟩:=g
 exact⟨wd,Mk,on,done,h _ i,fun b zs hb=>h1 b zs (hl b zs hb),h2,h3,h4⟩
theorem AR.swap {w:World} {M:Nat→Prop} {β:Nat→Option (Nat × Nat)} {h h':Nat→Option aI} (hh:∀ s blk,h s=some blk→(∀ b zs,blk≠.log b zs)→h' s=some blk) {v:AV} {c:Value} (hv:AR w M β h v c):AR w M β h' v c:=by
 induction hv with
 | undef c=>exact .undef c
 | p v c hv=>exact .p v c hv
 | slice s off len a ks xs b o cap h1 hl hb hcap hr=>exact .slice s off len a ks xs b o cap (hh _ _ h1 (by simp)) hl hb hcap hr
 | sliceE s off a ks xs base h1 hl=>exact .sliceE s off a ks xs base (hh _ _ h1 (by simp)) hl
 | bslice s off len cs b o cap h1 hl hb hcap=>exact .bslice s off len cs b o cap (hh _ _ h1 (by simp)) hl hb hcap
 | bsliceE s off cs base h1 hl=>exact .bsliceE s off cs base (hh _ _ h1 (by simp)) hl
 | ptrB s off cs b o h1 hb=>exact .ptrB s off cs b o (hh _ _ h1 (by simp)) hb
 | ptrA s idx off a ks xs b o h1 hi hb=>exact .ptrA s idx off a ks xs b o (hh _ _ h1 (by simp)) hi hb
 | mO a ks x off b o f hM hx hc hv=>exact .mO a ks x off b o f hM hx hc hv
 | fn f cs vs hn _ ih=>exact .fn f cs vs hn ih
 | agg cs vs hn hl _ ih=>exact .agg cs vs hn hl ih
 | mG cs vs hn _ ih=>exact .mG cs vs hn ih
 | sJ l=>exact .sJ l
 | ptrT s off t c0 c1 b h1 hb=>exact .ptrT s off t c0 c1 b (hh _ _ h1 (by simp)) hb
 | Kr s t es b o h1 hb=>exact .Kr s t es b o (hh _ _ h1 (by simp)) hb
 | Kt s e xs b cap h1 hb hcap h0 hr=>exact .Kt s e xs b cap (hh _ _ h1 (by simp)) hb hcap h0 hr
 | AU s e h1=>exact .AU s e (hh _ _ h1 (by simp))
theorem Rel.adh {w0:Base} {Pr M0 M:Nat→Prop} {β:Nat→Option (Nat × Nat)} (r:Rel w0 Pr M0 M β st a w) {b0:Bool} {zs0:List PV} (h0:look st.heap ah=some (.log b0 zs0)) (b:Bool) (zs:List PV):Rel w0 Pr M0 M β { st with heap:=put st.heap ah (.log b zs) } a w:=by
 have hlk:∀ s,look (put st.heap ah (.log b zs)) s=if s=ah then some (.log b zs) else look st.heap s:=fun s=>aV _ _ _ _
 have key:∀ {v:AV} {c:Value},AR w M β (look st.heap) v c→AR w M β (look (put st.heap ah (.log b zs))) v c:=fun hv=>hv.swap fun s blk hs hn=>by
  rw[hlk]
  by_cases e:s=ah
  · subst e;rw[h0]at hs;cases hs;exact absurd rfl (hn _ _)
  · rw[if_neg e];exact hs
 have live:∀ s,(look (put st.heap ah (.log b zs)) s).isSome=true→(look st.heap s).isSome=true:=by
  intro s hs
  rw[hlk]at hs
  by_cases e:s=ah
  · subst e;rw[h0];rfl
  · rw[if_neg e]at hs;exact hs
 refine⟨r.lV,fun t v hv=>key (r.env t v hv),fun s blk hs=>?_,fun s b o hs hb=>r.own s b o (live s hs) hb,fun s s' b o o' hs hs'=>r.inj s s' b o o' (live s hs) (live s' hs'),r.fJ,r.jX,r.oJ,r.keep,r.room,r.size,r.os,r.tape,r.output,r.lK⟩
 have hs:look (put st.heap ah (.log b zs)) s=some blk:=hs
 rw[hlk]at hs
 by_cases e:s=ah
 · rw[if_pos e]at hs;cases hs;exact .log _ _
 · rw[if_neg e]at hs
   cases r.heap s blk hs with
   | box cs b o C e fr k1 k2 k3 k4 k5 k6=>exact .box cs b o C e fr k1 k2 k3 k4 k5 fun j c hj=>key (k6 j c hj)
   | fM a ks=>exact .fM a ks
   | log on ys=>exact .log on ys
   | arr a ks xs b o C e fr k1 k2 k3 k4 k5 k6=>exact .arr a ks xs b o C e fr k1 k2 k3 k4 k5 k6
   | tb t c0 c1 b C fr k1 k2 k3 k4 k5 k6 k7 k8=>exact .tb t _ _ b C fr k1 k2 k3 k4 k5 k6 (key k7) (key k8)
   | mp t es b o E k k1 k2 k3 k4=>exact .mp t es b o E k k1 k2 k3 k4
   | DR e=>exact .DR e
   | br e xs b C fr k1 k2 k3 k4 g5 g6=>exact .br e xs b C fr k1 k2 k3 k4 g5 g6
theorem pG {s k:Nat}:∀ {h:Heap},k∈gY s h↔k≠s∧(look h k).isSome=true
 | []=>by simp[gY,look]
 | (t,c)::h=>by
  have ih:=pG (s:=s) (k:=k) (h:=h)
  simp only[gY,look]
  by_cases hts:t=s
  · subst hts
    simp only[beq_self_eq_true,cond_true]
    rw[ih]
    by_cases htk:t=k
    · subst htk;simp
    · have:(t==k)=false:=by simpa using htk
      simp[this]
  · have:(t==s)=false:=by simpa using hts
    simp only[this,cond_false,List.mem_cons]
    rw[ih]
    by_cases htk:t=k
    · subst htk;simp[hts]
    · have h2:(t==k)=false:=by simpa using htk
      rw[h2]
      simp only[cond_false]
      constructor
      · rintro (rfl | h)
        · exact absurd rfl htk
        · exact h
      · exact .inr
theorem Dq {h:Nat→Option aI} {ss:List Nat}:∀ (l:List AV),(wY h ss l).length=l.length
 | []=>rfl
 | v::r=>by simp[wY,Dq r]
theorem LX {h:Nat→Option aI} {ss:List Nat}:∀ (l:List AV) (t:Nat),(wY h ss l)[t]?=(l[t]?).map (PI h ss)
 | [],t=>by simp[wY]
 | v::r,0=>by simp[wY]
 | v::r,t+1=>by simp[wY,LX r t]
theorem ZV {w0:Base} {Pr M0 M:Nat→Prop} {β:Nat→Option (Nat × Nat)} (r:Rel w0 Pr M0 M β st a w) {v:AV} {y:PV} {c:Value} (h:VH (jk [ah] (look st.heap)) v=some y) (hv:AR w M β (look st.heap) v c):VR w (aY M β (gY ah st.heap)) y c:=by
 unfold VH at h
 split at h
 · rename_i s
   split at h
   · rename_i cs hs
     split at h
     · rename_i vs hp
       cases h
       have hne:s≠ah:=by
        rintro rfl
        simp[jk,dZ]at hs
       have hs':look st.heap s=some (.box cs):=by
        have:dZ s [ah]=false:=dK.2 (by simp[hne])
        simpa only[jk,this,cond_false] using hs
       have hd:EN (look st.heap) (.ptr s 0 0)=some (.ref vs,[s]):=by
        have hcs:=qp hp
        have:∀ l:List PV,vw (look st.heap) (l.map .p)=some (l,[]):=by
         intro l
         induction l with
         | nil=>rfl
         | cons x l ih=>simp only[List.map_cons,vw,HY,ih];rfl
        simp only[EN,hs',hcs,this]
       obtain⟨d1,_,_⟩:=KI r.heap (fun _ _ h=>h) hd hv
       refine d1.mono fun b hb=>⟨hb.imp id fun ⟨s',o,h1,h2⟩=>⟨s',o,?_,h2⟩,rfl⟩
       simp only[List.mem_singleton]at h1
       subst h1
       exact pG.2 ⟨hne,by rw[hs'];rfl⟩
     · cases h
   · cases h
 · cases h
theorem GI.after {wd : World} {Mk : Nat → Prop} {done : List PV} (hG : G.Ok P) (i : Inv (gcx G.gl wd Mk true done G.t0 G.ys G.yv) st a w) (hl : look st.heap ah = some (.log true done)) (h2 : G.W0.heap.size ≤ wd.heap.size) (h3 : ∀ b,Mk b → b < wd.heap.size ∧ (G.M0 b ∨ G.W0.heap.size ≤ b)) {O : Nat → Prop} {vs rest : List PV}
    (hJ:G.J (.agg vs::rest) O wd) (hMO:∀ b,Mk b→¬ O b) {W':World} (ht:Turns G.gl O w W') {d:Option Nat} (hd:∀ t,d=some t→t ∉ G.ys) (b:Bool)
    (h4:(b=true∧(∃ O',G.J rest O' W'∧∀ c,O' c→O c∨w.heap.size≤c)∧∃ ys,tu x.2=(done++[.agg vs])++ys∧ys=rest)∨(b=false∧G.Jx W')):GI G x (iY st d done vs b) (a.put d (.bool b)) W':=by
  obtain⟨M,β,L,ds,r,i1,i2,i3,fx⟩:=i
  have hds:ds=[]:=fx.one fun h=>h done (by simp[gcx,look])
  subst hds
  have hgs:wd.heap.size≤w.heap.size:=r.size
  have hts:=ht.size
  have aeV:=hG.lt _ _ _ hJ
  have hn0:∀ c s o,s∈gY ah st.heap→β s=some (c,o)→wd.heap.size≤c:=fun c s o hs hb=>by
   rcases(r.own s c o (pG.1 hs).2 hb).2.2.1 with h | h
   · exact h
   · exact h.elim
  have r0:=r.strike (gY ah st.heap) (M':=aY M β (gY ah st.heap)) (fun _ h=>.inl h) (fun c h=>by
   rcases h with h | ⟨s,o,h1,h2⟩
   · exact .inl h
   · exact .inr ⟨hn0 c s o h1 h2,s,o,h1,(pG.1 h1).2,h2⟩)
  have r1:Rel _ _ _ (aY M β (gY ah st.heap)) β { env:=wY (jk [ah] (look st.heap)) (gY ah st.heap) st.env,heap:=(st.strike (gY ah st.heap)).heap } a w:=r0.slots (by rw[Dq];exact r.lV) fun t v hv=>by
   rw[LX]at hv
   cases he:st.env[t]? with
   | none=>rw[he]at hv;cases hv
   | some u =>
    rw[he]at hv
    simp only[Option.map_some,Option.some.injEq]at hv
    have hu:=r.env t u he
    unfold PI at hv
    cases hr:VH (jk [ah] (look st.heap)) u with
    | some y =>
     rw[hr]at hv
     subst hv
     exact .p _ _ (ZV r hr hu)
    | none =>
     rw[hr]at hv
     subst hv
     refine r0.env t _ ?_
     have hs:∀ ss:List Nat,(st.strike ss).env=fP ss st.env:=fun ss=>by
      cases ss with
      | nil=>show st.env=_;rw[o8]
      | cons _ _=>rfl
     rw[hs,gQ,he]
     rfl
  have hls:look (st.strike (gY ah st.heap)).heap ah=some (.log true done):=by
   rw[bQ,if_neg (fun h=>(pG.1 h).1 rfl),hl];rfl
  have hon:∀ s,(look (st.strike (gY ah st.heap)).heap s).isSome=true→s=ah:=fun s hs=>by
   rw[bQ]at hs
   by_cases h:s∈gY ah st.heap
   · rw[if_pos h]at hs;cases hs
   · rw[if_neg h]at hs
     by_cases e:s=ah
     · exact e
     · exact absurd (pG.2 ⟨e,by simpa using hs⟩) h
  have hMn:∀ c,aY M β (gY ah st.heap) c→c<w.heap.size∧¬ O c∧(G.M0 c∨G.W0.heap.size≤c):=fun c hc=>by
   refine⟨r0.fJ c hc,fun ho=>?_,?_⟩
   · rcases r0.jX c hc with h | ⟨h,_⟩
     · exact hMO c h ho
     · have:=aeV c ho
       have h:wd.heap.size≤c:=h
       omega
   · rcases r0.jX c hc with h | ⟨h,_⟩
     · exact(h3 c h).2
     · have h:wd.heap.size≤c:=h
       right;omega
  let Mn:Nat→Prop:=fun c=>c<w.heap.size∧¬ O c∧(G.M0 c∨G.W0.heap.size≤c)
  have nP:∀ c o,β ah≠some (c,o):=fun c o h=>by rw[i1 ah (Nat.le_refl _)]at h;cases h
  have hno:∀ s c o,(look (st.strike (gY ah st.heap)).heap s).isSome=true→β s≠some (c,o):=fun s c o hs h=>by rw[hon s hs]at h;exact nP c o h
  have r2:Rel ⟨W',W'.heap.size,Nat.le_refl _,G.gl⟩ (fun _=>False) Mn Mn β { env:=wY (jk [ah] (look st.heap)) (gY ah st.heap) st.env,heap:=(st.strike (gY ah st.heap)).heap } a W' :=
   r1.to rfl (fun c hc=>⟨hMn c hc,ht.keep c (hMn c hc).1 (hMn c hc).2.1⟩) (fun s c o hs h=>absurd h (hno s c o hs)) (fun c hc=>Nat.lt_of_lt_of_le hc.1 hts) (fun c hc=>.inl hc) (fun c hc=>hc) (fun _ _ _=>rfl) (fun _ _ _ h=>h.elim) (Nat.le_refl _) rfl rfl rfl
  have r3:=(r2.setEnv d (v:=.p (.bool b)) (c:=.bool b) (.p _ _ (.bool b))).adh (b0:=true) (zs0:=done) hls b (done++[.agg vs])
  refine⟨W',Mn,b,done++[.agg vs],⟨Mn,β,[],[],r3,i1,fun s hs blk hb=>?_,.refl _ _,⟨fun p hp=>by simp at hp,fun p hp=>hp,?_,List.nodup_nil,fun D hD=>by simp at hD,fun l hl=>(by cases hl),(RS _ _ _).trans fx.size,fun t ht=>absurd trivial ht,fun _=>rfl,fun t ht=>?_,Nat.le_refl _⟩⟩,fun c zs hc=>?_,by omega,fun c hc=>⟨Nat.lt_of_lt_of_le hc.1 hts,hc.2.2⟩,?_⟩
  · have hb:look (put (st.strike (gY ah st.heap)).heap ah (.log b (done++[.agg vs]))) s=some blk:=hb
    rw[aV]at hb
    by_cases e:s=ah
    · subst e
      rw[if_pos rfl]at hb;cases hb
      exact⟨.log b (done++[.agg vs]),by simp[gcx,look],rfl⟩
    · rw[if_neg e]at hb
      exact absurd (hon s (by rw[hb];rfl)) e
  · rw[put_defers];exact fx.marks
  · rw[Qe fun e=>hd t e ht];exact fx.yl t ht
  · rw[sV]at hc;cases hc;exact⟨rfl,rfl⟩
  · rcases h4 with ⟨rfl,⟨O',k1,k2⟩,ys,k3,rfl⟩ | ⟨rfl,k1⟩
    · refine .inl ⟨rfl,_,O',k3,k1,fun c hc ho=>?_⟩
      rcases k2 c ho with h | h
      · exact hc.2.1 h
      · have:=hc.1;omega
    · exact .inr ⟨rfl,k1⟩
theorem Qn {all:List Oper} {ops:Array Oper} (he:ops.toList=all) {cx:Cx} (i:Inv cx st a w) {o:Oper} {b:Bool} (h:guardOf all o st.env=some b):Region.wanted o (yielded ops a.tmps)=b:=by
 unfold guardOf at h
 cases hg:o.guard with
 | none=>rw[hg]at h;cases h;simp[Region.wanted,hg]
 | some gw =>
  obtain⟨g,want⟩:=gw
  rw[hg]at h
  simp only at h
  cases hd:oQ all g with
  | none=>rw[hd]at h;cases h
  | some t =>
   rw[hd]at h
   simp only at h
   split at h
   · rename_i c hc
     cases h
     have hy:=LC he hd i hc
     simp only[Region.wanted,hg,hy]
     cases c<;>cases want<;>rfl
   · rename_i hc
     cases h
     have hy:=Fp he hd i hc
     simp only[Region.wanted,hg,hy]
     rfl
   · cases h
theorem U0 {ρ : Operand → Value} {dst : Option Tmp} {fo : Operand} {args : Array Operand} {ts : Array TypeId} {type : TypeId} {pos : String} {after : Array Edge} {guard : Option (Nat × Bool)} {l : Nat} (h : ρ fo = .func (.yield l) #[] #[]) :
    (execOp ρ ⟨dst,.call ⟨.value fo,args,ts⟩,type,pos,after,guard⟩)=Instr.yield l (args.map ρ):=by
  simp only[execOp,resolve,h,Deferred.ofValue]
  simp[invoke]
end
end Go.Skm
namespace Go.Skm
section
variable {P:Program} {T:Tab} {w0:Base} {Pr M0 M:Nat→Prop} {β Qd:Nat→Option (Nat × Nat)} {hp0:Heap} {st st':St} {a:Act} {w:World}
theorem FK {keep:Bool} {b0 b1:aI} {x:Nat} (hx:(look (je keep [b0,b1]) x).isSome=true):x=ah∨x=bZ keep:=by
 rw[Bc]at hx
 by_cases h1:x=ah
 · exact .inl h1
 · rw[if_neg h1]at hx
   by_cases h2:x=bZ keep
   · exact .inr h2
   · rw[if_neg h2]at hx;cases hx
theorem Rel.adi {keep : Bool} {args : List AV} {b0 b1 : aI} {aG : Array Value} (hp : P5 keep w M β args [b0,b1] aG) {gl : Option (List (Nat × Obj))} (hgl : ∀ p ∈ gl.getD [],M p.1 ∧ w.heap[p.1]? = some p.2) (fn : Func) {n0 : Nat} (le : n0 ≤ w.heap.size) (hn0 : keep = true ∨ n0 = 0) :
    Rel ⟨w,n0,le,gl⟩ (fun b=>∃ x o,(look (je keep [b0,b1]) x).isSome=true∧β x=some (b,o)) M M β { env:=args++List.replicate (fn.ntmps-args.length) .undef,heap:=je keep [b0,b1] } { tmps:=aG++Array.replicate (fn.ntmps-aG.size) undef,defers:=[] } w:=by
  have hn:=hp.num
  refine⟨?_,fun t v ht=>?_,fun s blk hs=>hp.blk s blk hs,fun s b o hs hb=>?_,hp.inj,hp.fJ,fun b h=>.inl h,fun b h=>h,fun b _ _=>rfl,fun b n _ _ h=>h,Nat.le_refl _,rfl,rfl,rfl,hgl⟩
  · simp[hn]
  · by_cases hlt:t<args.length
    · have ht' : args[t]? = some v := by
        rwa[List.getElem?_append_left hlt]at ht
      have:=hp.args t v ht'
      have e:(aG++Array.replicate (fn.ntmps-aG.size) undef).getD t undef=aG.getD t undef:=by
       rw[Array.getD_eq_getD_getElem?,Array.getD_eq_getD_getElem?,Array.getElem?_append_left (by omega)]
      rw[e];exact this
    · have : v = .undef := by
        rw[List.getElem?_append_right (by omega),List.getElem?_replicate]at ht
        split at ht
        · simpa using ht.symm
        · cases ht
      subst this
      exact .undef _
  · obtain⟨g1,g2⟩:=hp.own s b o hs hb
    refine⟨g1,g2,.inr ⟨s,o,hs,hb⟩,?_⟩
    rcases FK hs with rfl | rfl
    · exact .inr (Nat.le_refl _)
    · rcases hn0 with rfl | rfl
      · right;simp[bZ,ah]
      · exact .inl (Nat.zero_le _)
theorem Na {h:Nat→Option aI} {ms:List dX} {ts:List TypeId} {rs:List AV} {cs:List Value} {ps:List (Option (Nat × Nat))} (hr:qA T w M β h ms ts rs cs ps) (hd:yA ms=true):∀ p∈ps,p=none:=by
 induction hr with
 | nil ms=>intro p hp;simp at hp
 | cons ms t ts v vs c cs p ps h1 h2 h3 ih =>
  have hm:ms.headD .deep=.deep∧yA ms.tail=true:=by
   cases ms with
   | nil=>exact⟨rfl,rfl⟩
   | cons m ms =>
    cases m<;>simp[yA]at hd
    exact⟨rfl,hd⟩
  intro q hq
  rcases List.mem_cons.1 hq with rfl | hq
  · rw[hm.1]at h1;cases h1;rfl
  · exact ih hm.2 q hq
theorem XT {keep:Bool} {z off len:Nat} {sa:Bool} {ks:List Kd} {xs:List PV}:yG (je keep [.box [.slice (bZ keep) z off len],.arr sa ks xs]):=by
 intro ys he
 rw[Bc,if_pos rfl]at he
 cases he
theorem U1 (ok : bP P T) {X : Ext} {gl : Option (List (Nat × Obj))} (hX : zA P T gl X) {n : Nat} (hC : gX P T gl (kR T X n)) (hS : SB P T gl (kR T X n)) :
    ∀ f fi args z off len sa ks xs rs iU,bG T.funcs f=some fi→fi.cfg.vcall=true→kR T X (n+1) f args [.box [.slice (bZ fi.cfg.vkeep) z off len],.arr sa ks xs]=some (rs,iU)→(∃ c,fi.fn.body=some c) ∧
    ∀ (w:World) (M:Nat→Prop) (β:Nat→Option (Nat × Nat)) (aG:Array Value),(∀ p∈gl.getD [],M p.1∧w.heap[p.1]?=some p.2)→P5 fi.cfg.vkeep w M β args [.box [.slice (bZ fi.cfg.vkeep) z off len],.arr sa ks xs] aG →
     Calls P f aG w fun e w'=>∃ cs M',e=.returned (rP cs)∧P6 gl T fi w M β sa ks xs rs iU w' M' cs:=by
  intro f fi args z XU len0 sa ks xs rs iU hf Qa h
  simp only[kR,hf]at h
  cases hx:X f with
  | some s =>
   rw[hx]at h
   obtain⟨_,h1,_⟩:=hX f fi s args _ rs iU hf hx h
   have:=h1 _ (List.mem_cons_self ..)
   simp[dn,zF]at this
  | none =>
   rw[hx]at h
   simp only at h
   cases hb:fi.fn.body with
   | none=>rw[hb]at h;cases h
   | some c =>
    rw[hb]at h
    simp only[Df,Qa,cond_true,fH,iH,aH,Kq,Xg]at h
    refine⟨⟨c,rfl⟩,fun w M β aG hgl hp=>?_⟩
    obtain⟨hfn,hname,hdr,hret⟩:=ok.funcs f fi hf
    have hle:cond fi.cfg.vkeep w.heap.size 0≤w.heap.size:=by cases fi.cfg.vkeep<;>simp
    let cx:Cx:={ w0:=⟨w,cond fi.cfg.vkeep w.heap.size 0,hle,gl⟩,Pr:=fun b=>∃ x o,(look (je fi.cfg.vkeep [.box [.slice (bZ fi.cfg.vkeep) z XU len0],.arr sa ks xs]) x).isSome=true∧β x=some (b,o),M0:=M,Qd:=β,hp0:=je fi.cfg.vkeep [.box [.slice (bZ fi.cfg.vkeep) z XU len0],.arr sa ks xs],Wr:=fun _=>True,t0:=aG++Array.replicate (fi.fn.ntmps-aG.size) undef,rd:=none,L0:=[],nm:=w.heap.size }
    have hi:Inv cx { env:=args++List.replicate (fi.fn.ntmps-args.length) .undef,heap:=je fi.cfg.vkeep [.box [.slice (bZ fi.cfg.vkeep) z XU len0],.arr sa ks xs] } { tmps:=aG++Array.replicate (fi.fn.ntmps-aG.size) undef,defers:=[] } w :=
     ⟨M,β,[],[],Rel.adi hp hgl fi.fn hle (by cases fi.cfg.vkeep<;>simp),fun _ _=>rfl,fun s _ b hb=>⟨b,hb,Like.refl b⟩,.refl _ _,⟨fun p hp=>by simp at hp,fun p hp=>by simp[cx]at hp,rfl,List.nodup_nil,fun D hD=>by simp at hD,fun l hl=>(by cases hl),rfl,fun _ _=>rfl,fun _=>rfl,fun _ h=>h.elim,Nat.le_refl _⟩⟩
    refine mM (rd:=none) (n:=0) (callsIn_of_wp_marks hfn hb trivial ?_)
    refine jG (ng:=false) (Ir (m:=0) ok hC (ok.nvars f fi hf) (rs,iU)) (fun _ f ps y z hy hz=>Ot ok hS hy hz) c ⟨cx,XT,rfl⟩ _ _ w _ _ _ trivial h (hdr c hb) (fun h=>by cases h) (fun _ _=>⟨fun _ _=>trivial,fun _ _ h=>h.elim⟩) ⟨rfl,hi⟩ fun ex x' st a w1 hk i=>?_
    obtain⟨rfl,i⟩:=i
    have hk':ac2 T fi.cfg fi.fn [.box [.slice (bZ fi.cfg.vkeep) z XU len0],.arr sa ks xs] st=some (rs,iU)∧(ex=.normal∨ex=.ret):=by
     cases ex with
     | normal=>exact⟨hk,.inl rfl⟩
     | exit id=>cases hk
     | ret=>exact⟨hk,.inr rfl⟩
    obtain⟨hk,hex⟩:=hk'
    obtain⟨M1,β1,L1,ds1,r1,e1,e2,e3',ZT⟩:=i
    have goal:LeavesInM (FW none) 0 P fi.fn a.tmps (fun e w'=>∃ cs M',e=.returned (rP cs)∧P6 gl T fi w M β sa ks xs rs iU w' M' cs) a.defers .returning w1:=by
     rw[ZT.marks]
     refine uo ds1 w1 ZT.nodup (fun D hD=>(ZT.lies _ (ZT.mark D hD).1).1) fun w' q1 q2 q3 q4 q5 q6=>?_
     have r:=Inv.shut r1 ZT rfl q1 q2 q3 q4 q5
     have e3:gZ gl w.drawn w'.drawn:=by rw[q6];exact e3'
     unfold ac2 at hk
     split at hk
     case h_2=>cases hk
     rename_i vs b0 a0 VK xs0 hvs hbl
     simp only[List.cons.injEq,aI.arr.injEq,and_true]at hbl
     obtain⟨_,rfl,rfl,rfl⟩:=hbl
     split at hk
     case h_2=>cases hk
     rename_i X z1 off len hbox
     split at hk
     case h_2=>cases hk
     rename_i a1 Uo ys harr
     cases hcd:(a1==sa&&Kd.wL Uo ks)&&(yA fi.cfg.rets&&cond fi.cfg.vkeep (X==100001) (Nat.blt X 100000)) with
     | false=>rw[hcd]at hk;cases hk
     | true =>
     rw[hcd]at hk
     simp only[Bool.and_eq_true,beq_iff_eq]at hcd
     obtain⟨⟨rfl,hks⟩,ae0,hXs⟩:=hcd
     have:=Kd.jY _ _ hks
     subst this
     simp only[cond_true]at hk
     split at hk
     case h_2=>cases hk
     rename_i rs' hrv
     simp only[fH,iH,Option.some.injEq,Prod.mk.injEq]at hk
     obtain⟨rfl,rfl⟩:=hk
     obtain⟨cs,g1,g2⟩:=CO ok r hvs
     have hsub:∀ s b,look (l9 st.heap [ah,X]) s=some b→look st.heap s=some b:=fun s b hb=>(wI hb).1
     obtain⟨S,ps,p1,p2,p3,p4⟩:=Eh r (hA:=look st.heap) (UW:=β1) (fun j blk hj=>⟨hj,rfl⟩) hrv hsub g2
     have hps:=Na p1 ae0
     have hS2:∀ s∈S,(look st.heap s).isSome=true∧s≠ah∧s≠X:=by
      intro s hs
      obtain⟨b,hb⟩:=Option.isSome_iff_exists.1 (p2 s hs).1
      obtain⟨k1,k2⟩:=wI hb
      simp only[List.mem_cons,List.not_mem_nil,or_false,not_or]at k2
      exact⟨by rw[k1];rfl,k2⟩
     have hup:∀ b,M1 b→aY M1 β1 S b:=fun b h=>.inl h
     have e0:β1 ah=β ah:=e1 ah (Nat.le_refl _)
     have hnS:∀ x b o,(look st.heap x).isSome=true→β1 x=some (b,o)→(x=ah∨x=X)→¬ aY M1 β1 S b:=by
      intro x b o hx hb hxx hm
      rcases hm with hm | ⟨s',o',hs',hb'⟩
      · exact(r.own x b o hx hb).1 hm
      · have:=r.inj x s' b o o' hx (hS2 s' hs').1 hb hb'
        subst this
        rcases hxx with h | h
        · exact(hS2 _ hs').2.1 h
        · exact(hS2 _ hs').2.2 h
     have hib:(look st.heap ah).isSome=true:=by rw[hbox];rfl
     have hiX:(look st.heap X).isSome=true:=by rw[harr];rfl
     have abh:X≠ah:=by rintro rfl;rw[hbox]at harr;cases harr
     have hPr:∀ x b o,(look st.heap x).isSome=true→β1 x=some (b,o)→x≠ah→w.heap.size≤b∨∃ o',β (bZ fi.cfg.vkeep)=some (b,o'):=by
      intro x b o hx hb hne
      rcases(r.own x b o hx hb).2.2.1 with h | ⟨y,o',hy,hby⟩
      · exact .inl h
      · rcases FK hy with rfl | rfl
        · exact absurd (r.inj x ah b o o' hx hib hb (e0.trans hby)) hne
        · exact .inr ⟨o',hby⟩
     refine⟨rP cs,Bl g1,cs,aY M1 β1 S,rfl,⟨β1,look st.heap,ps,p1,hps⟩,fun b h=>.inl (r.oJ b h),fun b h=>?_,fun b h=>?_,fun b hb h1 h2=>?_,r.size,r.os,r.tape,r.output,e3,?_⟩
     · rcases h with h | ⟨s',o',hs',hb'⟩
       · rcases r.jX b h with h' | ⟨_,h' | ⟨y,o',hy,hby⟩⟩
         · exact .inl h'
         · exact .inr (.inl h')
         · rcases FK hy with rfl | rfl
           · exact absurd h (r.own ah b o' hib (e0.trans hby)).1
           · exact .inr (.inr ⟨o',hby⟩)
       · exact .inr (hPr s' b o' (hS2 s' hs').1 hb' (hS2 s' hs').2.1)
     · rcases h with h | ⟨s',o',hs',hb'⟩
       · exact r.fJ b h
       · exact(r.own s' b o' (hS2 s' hs').1 hb').2.1
     · refine r.keep b hb fun ⟨y,o,hy,hby⟩=>?_
       rcases FK hy with rfl | rfl
       · exact h1 o hby
       · exact h2 o hby
     · have hB:=r.heap ah _ hbox
       have hA:=r.heap X _ harr
       cases hB with
       | box _ bb bo C e fr k1 k2 k3 k4 k5 k6 =>
       have hcell:=k6 0 _ rfl
       have hz:z1=Uo.length:=by
        generalize C.getD (bo+0) undef=u at hcell
        cases hcell with
        | slice _ _ _ a' ks' xs' b' o' cap h1 hl hb hcap hr=>rw[harr]at h1;cases h1;rfl
        | sliceE _ _ a' ks' xs' base h1 hl=>rw[harr]at h1;cases h1;rfl
       subst hz
       refine⟨off,len,ys,bb,bo,C,e,fr,β1 X,rfl,e0▸k1,hnS ah bb bo hib k1 (.inl rfl),k2,by simpa using k3,k4,?_,hA.Fj hup rfl,fun b o hb=>?_,fun hkp=>?_⟩
       · exact hcell.gy harr rfl rfl
       · refine⟨hnS X b o hiX hb (.inr rfl),(r.own X b o hiX hb).2.1,?_,hPr X b o hiX hb abh⟩
         rintro rfl
         exact abh (r.inj X ah b o bo hiX hib hb k1)
       · rw[hkp]at hXs
         have hXs:X=100001:=by simpa using hXs
         have hXv:X=bZ true:=hXs
         have hge:ah≤X:=by rw[hXs];simp[ah]
         have eX:β1 X=β X:=e1 X hge
         refine⟨by rw[eX,hXv],?_,fun b o n hb hr=>?_⟩
         · obtain⟨b0,m1,m2⟩:=e2 X hge _ harr
           have m1:look (je fi.cfg.vkeep [.box [.slice (bZ fi.cfg.vkeep) z XU len0],.arr a1 Uo xs]) X=some b0:=m1
           rw[Bc,if_neg abh,hkp,if_pos hXv]at m1
           cases m1
           exact m2.2.2
         · have hlv : (look (je fi.cfg.vkeep [.box [.slice (bZ fi.cfg.vkeep) z XU len0],.arr a1 Uo xs]) X).isSome = true := by
             rw[Bc,if_neg abh,hkp,if_pos hXv];rfl
           have hlt:=(hp.own X b o hlv (eX▸hb)).2
           refine r.room b n ?_ ⟨X,o,hlv,eX▸hb⟩ hr
           show b<cond fi.cfg.vkeep w.heap.size 0
           rw[hkp];exact hlt
    rcases hex with rfl | rfl
    · exact goal
    · exact goal
end
end Go.Skm
namespace Go.Skm
open Go.RowKit
section
variable {P:Program} {T:Tab} {C:aF} {G:Gv}
theorem abj (n i:Nat):((Array.replicate n undef)[i]?).getD undef=undef:=by
 by_cases h:i<n<;>simp[h]
theorem abk {A:Array Value} {i:Nat} (h:i<A.toList.length):A.toList[i]?=some (A.getD i undef):=by
 rw[List.getElem?_eq_getElem h]
 simp only[Array.length_toList]at h
 simp[h]
theorem V5 {gl:Option (List (Nat × Obj))} {wd:World} {Mk:Nat→Prop} {on:Bool} {done:List PV} {t0:Array Value} {ys:List Nat} {yv:Value} {o:Oper} (h:yOp ys o=true):zM (gcx gl wd Mk on done t0 ys yv) o:=by
 refine⟨fun _ _=>trivial,fun t ht hy=>?_⟩
 have hy:t∈ys:=hy
 simp only[yOp,ht,Bool.and_eq_true]at h
 have h1:=h.1
 simp only[jP.2 hy,cond_true]at h1
 split at h1
 · rename_i s hs;exact⟨s,jP.1 h1,.inl hs⟩
 · rename_i s hs;exact⟨s,jP.1 h1,.inr hs⟩
 · cases h1
theorem LY {n:Nat}:∀ {l:List Nat},PL n l=true→∀ t∈l,t=0∨n<t
 | [],_,t,ht=>by simp at ht
 | x::r,h,t,ht=>by
  simp only[PL,Bool.and_eq_true,Bool.or_eq_true]at h
  rcases List.mem_cons.1 ht with rfl | ht
  · exact h.1.imp Nat.eq_of_beq_eq_true Nat.le_of_ble_eq_true
  · exact LY h.2 t ht
theorem SI {ys:List Nat}:∀ {l:List Oper},aaV ys l=true→∀ o∈l,yOp ys o=true
 | [],_,o,ho=>by simp at ho
 | x::r,h,o,ho=>by
  simp only[aaV,Bool.and_eq_true]at h
  rcases List.mem_cons.1 ho with rfl | ho
  · exact h.1
  · exact SI h.2 o ho
theorem Oy (ok : bP P T) (hC : gX P T G.gl C) (hG : G.Ok P) {hd : List (List Nat)} {ops : Array Oper} {k : St → Option (List AV × List aI)} (hk : ∀ st x,k st = some x → Has x st) {Q : Exit → Act → World → Prop}
    (hQ:∀ x st' a' w',k st'=some x→GI G x st' a' w'→Q .normal a' w'):∀ (l:List Oper) (j:Nat) (st:St) (a:Act) (w:World) (x:List AV × List aI),(∀ o∈l,yOp G.ys o=true)→dW T C false hd ops.toList l j st k=some x→GI G x st a w →
    wpListIn (FW none) 0 P ops Q l a w
  | [],j,st,a,w,x,_,h,i=>hQ x st a w h i
  | o::rest,j,st,a,w,x,hw,h,gi=>by
   have ih:=fun st' a' w' x' h i=>Oy (hd:=hd) (ops:=ops) ok hC hG hk hQ rest (j+1) st' a' w' x' (fun o ho=>hw o (by simp[ho])) h i
   have step:∀ st1,step1 T C false (hd.getD j []) ops.toList o st=some st1→dW T C false hd ops.toList rest (j+1) st1 k=some x→wpListIn (FW none) 0 P ops Q (o::rest) a w:=by
    intro st1 h1 h
    obtain⟨wd,Mk,on,done,i,g1,g2⟩:=gi
    have:=adf ok hC rfl (V5 (hw o (by simp))) i h1 (rd:=none) (n:=0) (K:=wpListIn (FW none) 0 P ops Q rest) (fun a' w' i'=>ih st1 a' w' x h ⟨wd,Mk,on,done,i',fun b zs hb=>g1 b zs (Ox h1 b zs hb),g2⟩) (Q:=Q)
    unfold wpListIn
    split
    · rename_i hw;rw[if_pos hw]at this;exact this
    · rename_i hw;rw[if_neg hw]at this;exact⟨fun _ _=>trivial,this⟩
   cases hy:nJ false st o with
   | none =>
    rw[mY _ _ hy]at h
    cases h1:step1 T C false (hd.getD j []) ops.toList o st with
    | none=>rw[h1]at h;cases h
    | some st1=>rw[h1]at h;exact step st1 h1 h
   | some p =>
    obtain⟨xs,vs⟩:=p
    rw[nK _ _ hy]at h
    cases hg:guardOf ops.toList o st.env with
    | none=>rw[hg]at h;cases h
    | some b =>
     rw[hg]at h
     cases b with
     | false=>exact step _ (by unfold step1;rw[Lu,hg]) h
     | true =>
      obtain⟨no,hno,hyes⟩:=Cm h
      obtain⟨c,ss,ty,_,hop,hce,hyl,adk,hdp⟩:=IC hy
      obtain⟨wd,Mk,on,done,i,g1,g2,g3,g4⟩:=gi
      obtain⟨rfl,rfl⟩:=g1 _ _ adk
      have hwant:=Qn rfl i hg
      rcases g4 with ⟨_,ae2,O,k1,k2,k3⟩ | ⟨hf,_⟩
      case inr=>cases hf
      have i0:=i
      obtain⟨M,β,L,ds,r,i1,i2,i3,fx⟩:=i0
      have hgrow:sG G.gl wd w:=r.turns i3
      have hgs:wd.heap.size≤w.heap.size:=r.size
      obtain⟨b',zs,q1,ys,q2⟩:=FH hk rest (j+1) _ x hyes
      rw[sV]at q1
      cases q1
      have hrest:ae2=.agg vs::ys:=by
       rw[q2,List.append_assoc]at k1
       exact(List.append_cancel_left k1).symm
      subst hrest
      unfold wpListIn
      rw[hwant,if_pos rfl]
      refine qP (fun c' hc'=>by rw[hop]at hc';cases hc') ?_
      obtain⟨dst,op,type,pos,after,guard⟩:=o
      simp only at hop
      subst hop
      obtain⟨callee,args,ts⟩:=c
      simp only at hce hdp
      subst hce
      have hyo:=hw _ List.mem_cons_self
      simp only[yOp,Bool.and_eq_true]at hyo
      have hty:ty∈G.ys:=jP.1 hyo.2
      have hdst:∀ t,dst=some t→t ∉ G.ys:=fun t e ht=>by
       subst e
       have:=hyo.1
       simp only[jP.2 ht,cond_true]at this
       cases this
      have hev:a.eval (.tmp ty)=.func (.yield G.l) #[] #[]:=by
       show a.tmps.getD ty undef=_
       rcases fx.yl ty hty with h | h
       · exact h
       · have hs:=r.slot ty
         rw[hyl,h]at hs
         cases hs
      rw[U0 hev]
      have hls:kW w M β (look st.heap) (jw st.env args.toList) (args.map a.eval).toList:=by
       rw[Array.toList_map]
       exact r.jw _
      obtain⟨d1,d2,d3⟩:=E5 r.heap (fun _ _ h=>h) hdp hls
      have hlt:=hG.lt _ _ _ k2
      obtain⟨fn,tmps,asg,body,hrun,adl⟩:=hG.y vs ys O w (aY M β ss) (args.map a.eval) (hG.j _ _ _ _ k2 hgrow) (by omega) (fun b hb=>by
       have out:∀ b,wd.heap.size≤b→¬ O b∧(G.M0 b∨G.W0.heap.size≤b):=fun b hb=>⟨fun ho=>by have:=hlt b ho;omega,by right;omega⟩
       rcases hb with hb | ⟨s,o',hs,hb⟩
       · refine⟨r.fJ b hb,?_⟩
         rcases r.jX b hb with h | ⟨h,_⟩
         · exact⟨k3 b h,(g3 b h).2⟩
         · exact out b h
       · obtain⟨o1,o2,o3,_⟩:=r.own s b o' (d3 s hs) hb
         refine⟨o2,?_⟩
         rcases o3 with h | h
         · exact out b h
         · exact h.elim) (by rw[← Array.length_toList];exact d1.symm) (fun i c hc=>by
       have hi:i<(args.map a.eval).toList.length:=by rw[← d1];exact(List.getElem?_eq_some_iff.1 hc).1
       exact d2 i c _ hc (abk hi))
      rw[hrun,Oper.uponIn_round]
      refine⟨yE none,RoundIn.mono adl fun e W' hR=>?_⟩
      obtain⟨ht,(⟨rfl,O',hJ,hO⟩ | ⟨rfl,hJx⟩)⟩:=hR
      · exact ih _ _ W' x hyes (GI.after hG i adk g2 g3 k2 k3 ht hdst true (.inl ⟨rfl,⟨O',hJ,hO⟩,ys,q2,rfl⟩))
      · exact ih _ _ W' no hno (GI.after hG i adk g2 g3 k2 k3 ht hdst false (.inr ⟨rfl,hJx⟩))
theorem SK (ok:bP P T) (hC:gX P T G.gl C) (hG:G.Ok P) {F:FI} {n:Nat} (vW:F.cfg.nvars≤ah):Ql T C F n P 0 KP (fun _:Unit=>none) (fun _ o=>yOp G.ys o=true) (fun _ x st a w=>GI G x st a w) where
 reg:=by
  intro _ id ops draw st a w k x Q hk h hd hw gi hQ
  have hw':∀ o∈ops.toList,yOp G.ys o=true:=hw
  have hk':∀ st x,(fC (settle F.cfg ops.toList st) fun st'=>k .normal st')=some x→Has x st:=fun st x h=>by
   rw[aH]at h
   exact(hk .normal _ x h).sub (vP vW _ _)
  simp only[aK]at h
  obtain⟨h,-⟩:=iy h
  cases draw with
  | false =>
   refine wpIn_region_list (Oy ok hC hG hk' (fun x' st' a' w' h1 g=>?_) ops.toList 0 st a w x hw' h gi)
   rw[aH]at h1
   exact hQ x' _ a' w' h1 (g.map (fun _ i=>i.settle vW _) (vP vW _ _))
  | true =>
   simp only[iD]at hd
   cases hh:bG F.hides id with
   | none=>rw[hh]at h;cases h
   | some hid =>
    rw[hh]at h hd
    simp only[Bool.and_eq_true]at hd
    simp only[aH]at h
    obtain⟨wd,Mk,on,done,i,g1,g2⟩:=gi.map (st':=st.strike (present st.heap (yt ops.toList ops.toList))) (fun _ i=>i.strike _) (qR _ _)
    refine Sz ok hC hd.1 hd.2 h (fun o ho=>V5 (hw' o ho)) i fun st' a' w' h1 i'=>?_
    obtain⟨st2,h2,i2,hl2⟩:=i'.tN (fun on' xs he=>by
     obtain⟨rfl,rfl⟩:=g1 _ _ he
     exact⟨xs,by simp[gcx,look]⟩) h1
    exact hQ x _ a' w' h2 (GI.map (st:=st2) ⟨wd,Mk,on,done,i2,fun b zs hb=>g1 b zs (hl2 b zs hb),g2⟩ (fun _ i=>i.settle vW _) (vP vW _ _))
 forget:=fun _ x st a w c g=>g.map (fun _ i=>i.aC _ _) (iI _ _ _)
 cond:=by
  intro _ x st a w c b g hv
  obtain⟨wd,Mk,on,done,⟨M,β,L,ds,r,_⟩,_⟩:=g
  have hc:=r.aU c
  rw[hv]at hc
  exact hc.zf
 kseq:=fun z k hk=>hk.seq vW z
 kblock:=fun id k hk=>hk.block id
 kloop:=fun c j k hk=>hk.loop vW c j
theorem ZW (ok:bP P T) {X:Ext} {gl:Option (List (Nat × Obj))} (hX:zA P T gl X) {n:Nat} (hC:gX P T gl (kR T X n)):SB P T gl (kR T X (n+1)):=by
 intro g fi caps x hf hpb h
 simp only[kR,hf]at h
 cases hx:X g with
 | some s =>
  rw[hx]at h
  obtain⟨rs,iU⟩:=x
  obtain⟨_,h1,_⟩:=hX g fi s _ _ rs iU hf hx h
  have:=h1 _ (List.mem_singleton.2 rfl)
  simp[dn]at this
 | none =>
  rw[hx]at h
  simp only at h
  cases hb:fi.fn.body with
  | none=>rw[hb]at h;cases h
  | some c =>
   rw[hb]at h
   simp only at h
   have adn:iW c=true∧(∀ o∈opsOf c,yOp fi.cfg.ys o=true)∧∀ t∈fi.cfg.ys,t=0∨caps.length<t:=by
    unfold jE at hpb
    rw[hb]at hpb
    simp only[Bool.and_eq_true]at hpb
    exact⟨hpb.1,SI hpb.2.2.1,LY hpb.2.1⟩
   have Qa:fi.cfg.vcall=false:=by
    unfold jE at hpb
    rw[hb]at hpb
    simp only[Bool.and_eq_true,Bool.not_eq_true']at hpb
    exact hpb.2.2.2
   have hcb:Df fi.cfg [.log true []]=true:=by simp[Df,Qa]
   rw[hcb]at h
   simp only[cond_true,fH,iH,aH,Kq,Xg,Qa]at h
   obtain⟨hfn,hname,hdr,hret⟩:=ok.funcs g fi hf
   refine⟨hfn,?_⟩
   intro W0 M0 l lb J Jx O0 hgl hlb hlv hM0 hJ hJx hlt hY h0
   let aG:Array Value:=#[.func (.yield l) #[] #[]]++lb
   let t0:Array Value:=aG++Array.replicate (fi.fn.ntmps-aG.size) undef
   let G:Gv:={ W0,M0,J,Jx,t0,l,gl,ys:=fi.cfg.ys }
   have hc0:aG[0]?=some (.func (.yield l) #[] #[]):=by
    show (#[Value.func (.yield l) #[] #[]]++lb)[0]?=_
    rw[Array.getElem?_append_left (by simp)];rfl
   have hcs:0<aG.size:=by
    show 0<(#[Value.func (.yield l) #[] #[]]++lb).size
    rw[Array.size_append]
    show 0<1+lb.size
    omega
   have hG:G.Ok P:=⟨hJ,hJx,hlt,hY⟩
   have hrep:∀ i,((Array.replicate (fi.fn.ntmps-aG.size) undef)[i]?).getD undef=undef:=fun i=>abj _ i
   have hp:oH W0 M0 (fun _=>none) (.sJ::caps.map .p) [.log true []] aG:=by
    refine⟨by simp[aG,hlb];omega,fun i v hi=>?_,fun i b0 hi=>?_,fun i b o hi hb=>(by cases hb),fun i j b o o' hi hj hb=>(by cases hb),fun b hb=>(hM0 b hb).1⟩
    · cases i with
      | zero =>
       simp at hi;subst hi
       have:aG.getD 0 undef=.func (.yield l) #[] #[]:=by rw[Array.getD_eq_getD_getElem?,hc0];rfl
       rw[this];exact .sJ l
      | succ i =>
       simp only[List.getElem?_cons_succ,List.getElem?_map,Option.map_eq_some_iff]at hi
       obtain⟨c,hc,rfl⟩:=hi
       have:aG.getD (i+1) undef=lb.getD i undef:=by
        simp only[aG,Array.getD_eq_getD_getElem?]
        rw[Array.getElem?_append_right (by simp)]
        simp
       rw[this];exact .p _ _ (hlv i c hc)
    · cases i with
      | zero=>simp at hi;subst hi;exact .log _ _
      | succ i=>simp at hi
   have hr:Rel ⟨W0,W0.heap.size,Nat.le_refl _,gl⟩ (fun _=>False) M0 M0 (fun _=>none) (uf fi.fn (.sJ::caps.map .p) [.log true []]) { tmps:=t0,defers:=[] } W0:=by
    have:=Rel.start hp hgl fi.fn
    rwa[show (fun b=>∃ i o,i<[aI.log true []].length∧(none:Option (Nat × Nat))=some (b,o))=fun _=>False from funext fun b=>propext ⟨fun ⟨_,_,_,h⟩=>(by cases h),fun h=>h.elim⟩]at this
   have hlk:look (uf fi.fn (.sJ::caps.map .p) [.log true []]).heap ah=some (.log true []):=by
    show look (dN 0 [.log true []]) (ah+0)=_
    rw[mX];rfl
   have hgi:GI G x (uf fi.fn (.sJ::caps.map .p) [.log true []]) { tmps:=t0,defers:=[] } W0:=by
    refine⟨W0,M0,true,[],⟨M0,fun _=>none,[],[],hr,fun _ _=>rfl,fun s _ blk hb=>⟨blk,?_,Like.refl _⟩,.refl _ _,⟨fun p hp=>by simp at hp,fun p hp=>hp,rfl,List.nodup_nil,fun D hD=>by simp at hD,fun l hl=>(by cases hl),rfl,fun _ _=>rfl,fun _=>rfl,fun t ht=>?_,Nat.le_refl _⟩⟩,fun b zs hb=>?_,Nat.le_refl _,fun b hb=>⟨(hM0 b hb).1,.inl hb⟩,.inl ⟨rfl,tu x.2,O0,rfl,h0,fun b hb=>(hM0 b hb).2⟩⟩
    · exact hb
    · rcases adn.2.2 t ht with rfl | hlt
      · left
        show t0.getD 0 undef=_
        rw[Array.getD_eq_getD_getElem?]
        show ((aG++Array.replicate (fi.fn.ntmps-aG.size) undef)[0]?).getD undef=_
        rw[Array.getElem?_append_left hcs,hc0];rfl
      · right
        show t0.getD t undef=_
        have hsz:aG.size=1+lb.size:=by
         show (#[Value.func (.yield l) #[] #[]]++lb).size=_
         rw[Array.size_append];rfl
        rw[Array.getD_eq_getD_getElem?]
        show ((aG++Array.replicate (fi.fn.ntmps-aG.size) undef)[t]?).getD undef=_
        rw[Array.getElem?_append_right (by omega)]
        exact hrep _
    · rw[hlk]at hb;cases hb;exact⟨rfl,rfl⟩
   let kf:Ex→St→Option (List AV × List aI):=fun ex st=>match ex with
    | .exit _=>none
    | _=>Rf T fi.cfg fi.fn [.log true []] st
   have hlast:∀ st x',Rf T fi.cfg fi.fn [.log true []] st=some x'→∃ b zs vs,look st.heap ah=some (.log b zs)∧tu x'.2=zs∧DL T st.env (look st.heap) fi.fn.results.toList=some vs:=by
    intro st x' hk
    unfold Rf at hk
    split at hk
    · cases hk
    · rename_i vs hvs
      split at hk
      · rename_i rs' abg hrv hab
        simp only[fH,iH,Option.some.injEq]at hk
        subst hk
        simp only[yx]at hab
        split at hab
        · rename_i b bs h1 h2
          cases h2
          cases hc:BU b&&backOk (.log true []) b with
          | false=>rw[hc]at hab;cases hab
          | true =>
           rw[hc]at hab
           simp only[cond_true,Option.some.injEq]at hab
           subst hab
           simp only[Bool.and_eq_true]at hc
           cases b with
           | box=>simp[backOk]at hc
           | arr=>simp[backOk]at hc
           | tb=>simp[backOk]at hc
           | mp=>simp[backOk]at hc
           | br=>simp[backOk]at hc
           | log on zs=>exact⟨on,zs,vs,h1,rfl,hvs⟩
        · cases hab
      · cases hk
   have hkp:KP kf:=by
    intro ex st x' hk
    have hk:Rf T fi.cfg fi.fn [.log true []] st=some x':=by
     cases ex with
     | normal=>exact hk
     | exit id=>cases hk
     | ret=>exact hk
    obtain⟨b,zs,_,h1,h2,_⟩:=hlast st x' hk
    exact⟨b,zs,h1,[],by rw[h2];simp⟩
   refine mM (rd:=none) (n:=0) (callsIn_of_wp_marks hfn hb trivial ?_)
   refine jG (ng:=true) (SK ok hC hG (ok.nvars g fi hf)) (fun h=>by cases h) c () _ _ W0 kf x _ hkp h (hdr c hb) (fun _=>adn.1) adn.2.1 hgi fun ex x' st a w1 hk gi=>?_
   have hk':Rf T fi.cfg fi.fn [.log true []] st=some x'∧(ex=.normal∨ex=.ret):=by
    cases ex with
    | normal=>exact⟨hk,.inl rfl⟩
    | exit id=>cases hk
    | ret=>exact⟨hk,.inr rfl⟩
   obtain⟨hk,hex⟩:=hk'
   obtain⟨b,zs,vs,q1,q2,q3⟩:=hlast st x' hk
   obtain⟨wd,Mk,on,done,⟨M,β,L,ds,r,i1,i2,i3,fx⟩,g1,g2,g3,g4⟩:=gi
   obtain⟨rfl,rfl⟩:=g1 _ _ q1
   have goal:LeavesInM (FW none) 0 P fi.fn a.tmps (fun e W'=>(∃ v,e=.returned v)∧((∃ O,J [] O W')∨Jx W')) a.defers .returning w1:=by
    rw[fx.marks]
    refine uo ds w1 fx.nodup (fun D hD=>(fx.lies _ (fx.mark D hD).1).1) fun w' k1 k2 k3 k4 k5 k6=>?_
    have r':=Inv.shut r fx rfl k1 k2 k3 k4 k5
    obtain⟨cs,e1,e2⟩:=CO ok r' q3
    have hgrow:sG G.gl wd w':=r'.turns (by rw[k6];exact i3)
    refine⟨rP cs,Bl e1,⟨_,rfl⟩,?_⟩
    rcases g4 with ⟨_,rest,O,p1,p2,_⟩ | ⟨_,p1⟩
    · rw[q2]at p1
      have:rest=[]:=by
       have:=congrArg List.length p1
       simp at this
       exact this
      subst this
      exact .inl ⟨O,hJ _ _ _ _ p2 hgrow⟩
    · exact .inr (hJx _ _ p1 hgrow)
   rcases hex with rfl | rfl
   · exact goal
   · exact goal
theorem nM (ok:bP P T) {X:Ext} {gl:Option (List (Nat × Obj))} (hX:zA P T gl X):∀ n,gX P T gl (kR T X n)∧SB P T gl (kR T X n)
 | 0=>⟨⟨fun f fi args bl rs iU _ _ h=>by simp[kR]at h,fun f fi args z off len a ks xs rs iU _ _ h=>by simp[kR]at h⟩,fun g fi caps r _ _ h=>by simp[kR]at h⟩
 | n+1=>⟨⟨XP ok hX (nM ok hX n).1 (nM ok hX n).2,U1 ok hX (nM ok hX n).1 (nM ok hX n).2⟩,ZW ok hX (nM ok hX n).1⟩
theorem IE (ok:bP P T) {X:Ext} {gl:Option (List (Nat × Obj))} (hX:zA P T gl X) (n:Nat):gX P T gl (kR T X n):=(nM ok hX n).1
end
end Go.Skm
namespace Go.Skm
section
variable {α β:Type}
open Classical in
noncomputable def lim (f:Nat→Option α):Option α:=if h:∃ x n,f n=some x then some h.choose else none
def ae3 (f:Nat→Option α):Prop:=∀ n m x,n≤m→f n=some x→f m=some x
theorem yI {f:Nat→Option α} {x:α} (h:lim f=some x):∃ n,f n=some x:=by
 unfold lim at h
 split at h
 · rename_i h'
   have:=h'.choose_spec
   simp only[Option.some.injEq]at h
   rwa[h]at this
 · cases h
theorem LZ {f:Nat→Option α} (hm:ae3 f) {x:α} {n:Nat} (h:f n=some x):lim f=some x:=by
 have hex:∃ x n,f n=some x:=⟨x,n,h⟩
 unfold lim
 rw[dif_pos hex]
 obtain⟨m,hm'⟩:=hex.choose_spec
 have h1:=hm n (max n m) x (by omega) h
 have h2:=hm m (max n m) _ (by omega) hm'
 rw[h1]at h2
 exact h2.symm
noncomputable def L6 (fg:St→St) (body:St→(Ex→St→Option α)→Option α) (st:St) (k:Ex→St→Option α):Option α:=lim fun m=>mD fg body m st k
def GX (k k':Ex→St→Option α):Prop:=∀ ex st x,k ex st=some x→k' ex st=some x
def LeB (b b':St→(Ex→St→Option α)→Option α):Prop:=∀ st k k' x,GX k k'→b st k=some x→b' st k'=some x
def Tf (C C':aF):Prop:=∀ f a b x,C f a b=some x→C' f a b=some x
theorem GX.refl (k:Ex→St→Option α):GX k k:=fun _ _ _ h=>h
theorem Tf.refl (C:aF):Tf C C:=fun _ _ _ _ h=>h
def next (fg:St→St) (L:St→Option α) (k:Ex→St→Option α):Ex→St→Option α
 | .normal,st=>fC (fg st) L
 | .exit id,st=>k (.exit id) st
 | .ret,st=>k .ret st
theorem zo {fg:St→St} {body:St→(Ex→St→Option α)→Option α} {m:Nat} {st:St} {k:Ex→St→Option α}:mD fg body (m+1) st k=body st (next fg (fun st'=>mD fg body m st' k) k):=by
 simp only[mD]
 congr 1
 funext ex st'
 cases ex<;>rfl
theorem Je {fg:St→St} {L L':St→Option α} {k k':Ex→St→Option α} (hL:∀ st x,L st=some x→L' st=some x) (hk:GX k k'):GX (next fg L k) (next fg L' k'):=by
 intro ex st x h
 cases ex with
 | normal=>simp only[next,aH]at h ⊢;exact hL _ _ h
 | exit id=>exact hk _ _ _ h
 | ret=>exact hk _ _ _ h
theorem jT {fg:St→St} {b b':St→(Ex→St→Option α)→Option α} (hb:LeB b b'):∀ {m m':Nat} {st:St} {k k':Ex→St→Option α} {x:α},m≤m'→GX k k'→mD fg b m st k=some x→mD fg b' m' st k'=some x
 | 0,_,_,_,_,_,_,_,h=>by simp[mD]at h
 | m+1,0,_,_,_,_,hm,_,_=>by omega
 | m+1,m'+1,st,k,k',x,hm,hk,h=>by
  rw[zo]at h ⊢
  exact hb _ _ _ _ (Je (fun st x h=>jT hb (by omega) hk h) hk) h
theorem L8 {fg:St→St} {b b':St→(Ex→St→Option α)→Option α} (hb:LeB b b') (hb':LeB b' b') {st:St} {k k':Ex→St→Option α} {x:α} (hk:GX k k') (h:L6 fg b st k=some x):L6 fg b' st k'=some x:=by
 obtain⟨m,hm⟩:=yI h
 exact LZ (fun n m x hnm h=>jT hb' hnm (GX.refl _) h) (jT hb (Nat.le_refl m) hk hm)
end
section
variable {α:Type} (T:Tab)
noncomputable def aP (C:aF) (F:FI):Code→St→(Ex→St→Option α)→Option α
 | .skip,st,k=>k .normal st
 | .region id ops draw,st,k=>yu (y7 F.cfg.alts id) st fun st =>
  match draw with
  | false=>dW T C false [] ops.toList ops.toList 0 st fun st'=>fC (settle F.cfg ops.toList st') fun st'=>k .normal st'
  | true =>
   match bG F.hides id with
   | some hd=>fC (st.strike (present st.heap (yt ops.toList ops.toList))) fun st=>dW T C true hd ops.toList ops.toList 0 st fun st'=>tN (look st.heap ah) st' fun st'=>fC (settle F.cfg ops.toList st') fun st'=>k .normal st'
   | none=>none
 | .seq a b,st,k=>aP C F a st fun ex st' =>
  match ex with
  | .normal=>aP C F b (aC F.cfg b st') k
  | .exit id=>k (.exit id) st'
  | .ret=>k .ret st'
 | .cond c x y,st,k =>
  match aU st.env c with
  | .p (.bool b)=>cond b (aP C F x st k) (aP C F y st k)
  | _=>none
 | .block id c,st,k=>aP C F c st fun ex st' =>
  match ex with
  | .normal=>k .normal st'
  | .exit i=>bif i==id then k .normal st' else k (.exit i) st'
  | .ret=>k .ret st'
 | .scope c,st,k=>aP C F c st k
 | .loop c,st,k=>L6 (aC F.cfg c) (fun st' k'=>aP C F c st' k') (aC F.cfg c st) k
 | .exit id,st,k=>k (.exit id) st
 | .ret,st,k=>k .ret st
 | .label _,st,k=>k .normal st
 | .rangeFunc f ps a b,st,k=>yu (y7 F.cfg.alts (yw a b)) st fun st =>
  match aU st.env f with
  | .p (.fn g caps) =>
   match bG T.funcs g,kQ a with
   | some fi,true =>
    bif jE fi caps.length then
    match C g (.sJ::caps.map .p) [.log true []] with
    | some r => jg (aC F.cfg (.seq a b)) fi.cfg.yk ps.toList (jW ps a b)
        (fun st k=>aP C F a st fun ex st' =>
          match ex with
          | .normal=>aP C F b (aC F.cfg b st') k
          | .exit id=>k (.exit id) st'
          | .ret=>k .ret st') (tu r.2) (aC F.cfg (.seq a b) st) k
    | none=>none
    else none
   | _,_=>none
  | _=>none
 | _,_,_=>none
def abl (F:FI) (bl:List aI):Ex→St→Option (List AV × List aI)
 | .exit _,_=>none
 | .normal,st=>Xg T F.cfg F.fn bl st
 | .ret,st=>Xg T F.cfg F.fn bl st
noncomputable def bn (C:aF):aF:=fun f args bl =>
 match bG T.funcs f with
 | none=>none
 | some fi =>
  match fi.fn.body with
  | none=>none
  | some c=>bif Df fi.cfg bl then lU T.strict args fun args=>qM T.strict bl fun bl=>fC (Kq fi.cfg fi.fn args bl) fun st=>aP T C fi c st (abl T fi bl) else none
noncomputable def run (X:Ext):aF:=fun f args bl=>lim fun n=>kR T X n f args bl
end
section
variable {α:Type} {T:Tab} {C C':aF}
theorem FM (env:List AV) (h:Nat→Option aI) (o:Oper):(∃ D,∀ C,cO T C env h o=D)∨∃ f as_ bl g,∀ C,cO T C env h o=.call (C f as_ bl) g:=by
 have call:∀ (d:Option Nat) (f:Nat) (args:List AV),(∃ D,∀ C,vG T C h d f args=D)∨∃ f' as_ bl g,∀ C,vG T C h d f args=.call (C f' as_ bl) g:=by
  intro d f args
  unfold vG
  cases (iZ T f).zT.is with
  | true=>exact .inl ⟨_,fun C=>rfl⟩
  | false =>
  simp only[cond_false]
  have go:∀ (d:Nat) (fi:FI) (pre:List AV) (s A:Nat) (nw:List Nat) (a:Bool) (ks:List Kd) (off len:Nat) (xs:List PV),(∃ D,∀ C,J5 T C h d f fi pre s A nw a ks off len xs=D)∨∃ f' as_ bl g,∀ C,J5 T C h d f fi pre s A nw a ks off len xs=.call (C f' as_ bl) g:=by
   intro d fi pre s A nw a ks off len xs
   unfold J5
   split
   · rename_i vs ss hd
     cases (Nat.blt s 100000&&(Nat.blt A 100000&&!(A==s)))&&(!(dZ s ss)&&!(dZ A ss)) with
     | true=>exact .inr ⟨_,_,_,_,fun C=>rfl⟩
     | false=>exact .inl ⟨_,fun C=>rfl⟩
   · exact .inl ⟨_,fun C=>rfl⟩
  cases (iZ T f).vcall with
  | true =>
   simp only[cond_true]
   unfold Jb
   split
   · split
     · split
       · exact go ..
       · exact .inl ⟨_,fun C=>rfl⟩
     · rename_i fi _ _ _ _ _ _
       cases fi.cfg.vkeep with
       | true=>exact .inl ⟨_,fun C=>rfl⟩
       | false=>exact go ..
     · exact .inl ⟨_,fun C=>rfl⟩
   · exact .inl ⟨_,fun C=>rfl⟩
  | false =>
  simp only[cond_false]
  unfold nI
  split
  · split
    · split
      · exact .inr ⟨_,_,_,_,fun C=>rfl⟩
      · exact .inl ⟨_,fun C=>rfl⟩
    · simp only
      split
      · exact .inr ⟨_,_,_,_,fun C=>rfl⟩
      · exact .inl ⟨_,fun C=>rfl⟩
  · exact .inl ⟨_,fun C=>rfl⟩
 obtain⟨dst,op,type,pos,after,guard⟩:=o
 cases op with
 | call c =>
  obtain⟨callee,args,ts⟩:=c
  cases callee with
  | builtin b=>cases b<;>exact .inl ⟨_,fun C=>rfl⟩
  | invoke r n=>exact .inl ⟨_,fun C=>rfl⟩
  | value f =>
   simp only[cO]
   split
   · exact call _ _ _
   · exact call _ _ _
   · exact .inl ⟨_,fun C=>rfl⟩
 | _=>exact .inl ⟨_,fun C=>rfl⟩
theorem XV (hC:Tf C C') {all:List Oper} {o:Oper} {env:List AV} {h:Nat→Option aI} {y:Option Eff} (h1:vX T C all o env h=some y):vX T C' all o env h=some y:=by
 have go:∀ {y:Option Eff},((cO T C env h o).run some).map some=some y→((cO T C' env h o).run some).map some=some y:=by
  intro y hy
  rcases FM (T:=T) env h o with ⟨D,hD⟩ | ⟨f,as_,bl,g,hD⟩
  · rw[hD]at hy ⊢;exact hy
  · rw[hD]at hy ⊢
    cases hc:C f as_ bl with
    | none=>rw[hc]at hy;simp[DT.run]at hy
    | some r=>rw[hc]at hy;rw[hC _ _ _ _ hc];exact hy
 unfold vX at h1 ⊢
 cases hg:o.guard with
 | none=>rw[hg]at h1;exact go h1
 | some gw =>
  obtain⟨g,want⟩:=gw
  rw[hg]at h1
  simp only at h1 ⊢
  cases hd:oQ all g with
  | none=>rw[hd]at h1;cases h1
  | some t =>
   rw[hd]at h1
   simp only at h1 ⊢
   by_cases hx:∃ b,env.getD t .undef=.p (.bool b)
   · obtain⟨b,hb⟩:=hx
     rw[hb]at h1 ⊢
     simp only at h1 ⊢
     split
     · rename_i hw;rw[if_pos hw]at h1;exact go h1
     · rename_i hw;rw[if_neg hw]at h1;exact h1
   · by_cases hh:env.getD t .undef=.mG []
     · rw[hh]at h1 ⊢;exact h1
     · split at h1
       · rename_i b hb;exact absurd ⟨b,hb⟩ hx
       · rename_i hb;exact absurd hb hh
       · cases h1
theorem L9 (hC:Tf C C') {draw:Bool} {hd:List Nat} {all:List Oper} {o:Oper} {st st':St} (h1:step1 T C draw hd all o st=some st'):step1 T C' draw hd all o st=some st':=by
 unfold step1 at h1 ⊢
 cases ha:vX T C all o st.env (jk hd (look st.heap)) with
 | none=>rw[ha]at h1;cases h1
 | some y=>rw[ha]at h1;rw[XV hC ha];exact h1
theorem vS {b:Option aI} {st:St} {k k':St→Option α} {x:α} (hk:∀ st x,k st=some x→k' st=some x) (h:tN b st k=some x):tN b st k'=some x:=by
 unfold tN at h ⊢
 split at h
 · split at h
   · exact hk _ _ h
   · cases h
 · exact hk _ _ h
theorem eY (hC:Tf C C') {draw:Bool} {hd:List (List Nat)} {all:List Oper} {k k':St→Option α} (hk:∀ st x,k st=some x→k' st=some x):∀ {l:List Oper} {j:Nat} {st:St} {x:α},dW T C draw hd all l j st k=some x→dW T C' draw hd all l j st k'=some x
 | [],j,st,x,h=>hk _ _ h
 | o::r,j,st,x,h=>by
  cases hy:nJ draw st o with
  | none =>
   rw[mY _ _ hy]at h ⊢
   cases h1:step1 T C draw (hd.getD j []) all o st with
   | none=>rw[h1]at h;cases h
   | some st1=>rw[h1]at h;rw[L9 hC h1];exact eY hC hk (l:=r) h
  | some p =>
   obtain⟨xs,vs⟩:=p
   rw[nK _ _ hy]at h ⊢
   cases hg:guardOf all o st.env with
   | none=>rw[hg]at h;cases h
   | some b =>
    rw[hg]at h
    cases b with
    | false=>exact eY hC hk (l:=r) h
    | true =>
     obtain⟨no,h1,h2⟩:=Cm h
     exact VW (eY hC hk (l:=r) h1) (eY hC hk (l:=r) h2)
theorem SL {fg:St→St} {ws:List Nat} {L L':St→Option α} {k k':Ex→St→Option α} (hL:∀ st x,L st=some x→L' st=some x) (hk:GX k k'):GX (nV fg ws L k) (nV fg ws L' k'):=by
 intro ex st x h
 cases ex with
 | normal=>simp only[nV,aH]at h ⊢;exact hL _ _ h
 | exit id=>simp only[nV,aH]at h ⊢;exact hk _ _ _ h
 | ret=>simp only[nV,aH]at h ⊢;exact hk _ _ _ h
theorem ny {fg:St→St} {ss:List (Bool × List Kd)} {ps ws:List Nat} {b b':St→(Ex→St→Option α)→Option α} (hb:LeB b b'):∀ {xs:List PV} {st:St} {k k':Ex→St→Option α} {x:α},GX k k'→jg fg ss ps ws b xs st k=some x→jg fg ss ps ws b' xs st k'=some x
 | [],_,_,_,_,hk,h=>hk _ _ _ h
 | v::xs,st,k,k',x,hk,h=>by
  simp only[jg]at h ⊢
  split at h
  · cases h
  · rename_i env he
    rw[aH]at h ⊢
    exact hb _ _ _ _ (SL (fun st x h=>ny hb hk h) hk) h
theorem Bo {F : FI} {f : Operand} {ps : Array Tmp} {y z : Code} {st : St} {k : Ex → St → Option α} {x : α} (h : aP T C F (.rangeFunc f ps y z) st k = some x) :
    ∃ g caps fi r,aU st.env f=.p (.fn g caps)∧bG T.funcs g=some fi∧kQ y=true∧jE fi caps.length=true∧C g (.sJ::caps.map .p) [.log true []]=some r ∧
     jg (aC F.cfg (.seq y z)) fi.cfg.yk ps.toList (jW ps y z) (fun st k=>aP T C F (.seq y z) st k) (tu r.2) (aC F.cfg (.seq y z) st) k=some x:=by
  simp only[aP]at h
  obtain⟨h,-⟩:=iy h
  split at h
  · rename_i g caps hv
    split at h
    · rename_i fi hf hp
      cases hb:jE fi caps.length with
      | false=>rw[hb]at h;cases h
      | true =>
       rw[hb]at h
       simp only[cond_true]at h
       split at h
       · rename_i r hr
         exact⟨g,caps,fi,r,hv,hf,hp,hb,hr,h⟩
       · cases h
    · cases h
  · cases h
theorem Ei {F:FI} {f:Operand} {ps:Array Tmp} {y z:Code} {st:St} {k:Ex→St→Option α} {x:α} (h:aP T C F (.rangeFunc f ps y z) st k=some x):∀ K:St→Option α,yu (y7 F.cfg.alts (yw y z)) st K=K st:=by
 simp only[aP]at h
 exact(iy h).2
theorem Oz {F:FI} {n:Nat} {f:Operand} {ps:Array Tmp} {y z:Code} {st:St} {k:Ex→St→Option α} {x:α} (h:aK T C F n (.rangeFunc f ps y z) st k=some x):∀ K:St→Option α,yu (y7 F.cfg.alts (yw y z)) st K=K st:=by
 simp only[aK]at h
 exact(iy h).2
theorem GY {F : FI} {f : Operand} {ps : Array Tmp} {y z : Code} {st : St} {k : Ex → St → Option α} {x : α} {g : Nat} {caps : List PV} {fi : FI} {r : List AV × List aI} (ha : ∀ K : St → Option α,yu (y7 F.cfg.alts (yw y z)) st K = K st) (h1 : aU st.env f = .p (.fn g caps)) (h2 : bG T.funcs g = some fi) (h3 : kQ y = true) (h4 : jE fi caps.length = true) (h5 : C g (.sJ::caps.map .p) [.log true []] = some r)
    (h:jg (aC F.cfg (.seq y z)) fi.cfg.yk ps.toList (jW ps y z) (fun st k=>aP T C F (.seq y z) st k) (tu r.2) (aC F.cfg (.seq y z) st) k=some x):aP T C F (.rangeFunc f ps y z) st k=some x:=by
  simp only[aP]
  rw[ha]
  simp only[h1,h2,h3,h4,h5,cond_true]
  exact h
theorem SN {F : FI} {n : Nat} {f : Operand} {ps : Array Tmp} {y z : Code} {st : St} {k : Ex → St → Option α} {x : α} {g : Nat} {caps : List PV} {fi : FI} {r : List AV × List aI} (ha : ∀ K : St → Option α,yu (y7 F.cfg.alts (yw y z)) st K = K st) (h1 : aU st.env f = .p (.fn g caps)) (h2 : bG T.funcs g = some fi) (h3 : kQ y = true) (h4 : jE fi caps.length = true) (h5 : C g (.sJ::caps.map .p) [.log true []] = some r)
    (h:jg (aC F.cfg (.seq y z)) fi.cfg.yk ps.toList (jW ps y z) (vO T C F n y z) (tu r.2) (aC F.cfg (.seq y z) st) k=some x):aK T C F n (.rangeFunc f ps y z) st k=some x:=by
  simp only[aK]
  rw[ha]
  simp only[h1,h2,h3,h4,h5,cond_true]
  exact h
theorem xC {k k' : Ex → St → Option α} {f f' : St → Option α} (hf : ∀ st x,f st = some x → f' st = some x) (hk : GX k k') :
    GX (fun ex st'=>match ex with | .normal=>f st' | .exit id=>k (.exit id) st' | .ret=>k .ret st') (fun ex st'=>match ex with | .normal=>f' st' | .exit id=>k' (.exit id) st' | .ret=>k' .ret st'):=by
  intro ex st x h
  cases ex with
  | normal=>exact hf _ _ h
  | exit id=>exact hk _ _ _ h
  | ret=>exact hk _ _ _ h
theorem Bq {k k' : Ex → St → Option α} {id : Nat} (hk : GX k k') :
    GX (fun ex st'=>match ex with | .normal=>k .normal st' | .exit i=>bif i==id then k .normal st' else k (.exit i) st' | .ret=>k .ret st') (fun ex st'=>match ex with | .normal=>k' .normal st' | .exit i=>bif i==id then k' .normal st' else k' (.exit i) st' | .ret=>k' .ret st'):=by
  intro ex st x h
  cases ex with
  | normal=>exact hk _ _ _ h
  | exit i =>
   simp only at h ⊢
   cases hi:i==id with
   | true=>rw[hi]at h;exact hk _ _ _ h
   | false=>rw[hi]at h;exact hk _ _ _ h
  | ret=>exact hk _ _ _ h
theorem dD (hC:Tf C C') {F:FI} {n n':Nat} (hn:n≤n'):∀ {c:Code} {st:St} {k k':Ex→St→Option α} {x:α},GX k k'→aK T C F n c st k=some x→aK T C' F n' c st k'=some x
 | .skip,st,k,k',x,hk,h=>hk _ _ _ h
 | .region id ops draw,st,k,k',x,hk,h=>by
  simp only[aK]at h ⊢
  obtain⟨h,e⟩:=iy h
  rw[e]
  cases draw with
  | false=>exact eY hC (fun st x h=>by rw[aH]at h ⊢;exact hk _ _ _ h) h
  | true =>
   simp only at h ⊢
   cases hh:bG F.hides id with
   | none=>rw[hh]at h;cases h
   | some hd =>
    rw[hh]at h
    simp only[aH]at h ⊢
    exact eY hC (fun st x h=>vS (fun st x h=>hk _ _ _ h) h) h
 | .seq y z,st,k,k',x,hk,h=>dD hC hn (c:=y) (xC (fun st x h=>dD hC hn (c:=z) hk h) hk) h
 | .cond c y z,st,k,k',x,hk,h=>by
  simp only[aK]at h ⊢
  split
  · rename_i b hb
    rw[hb]at h
    cases b with
    | true=>exact dD hC hn (c:=y) hk h
    | false=>exact dD hC hn (c:=z) hk h
  · rename_i hx
    split at h
    · rename_i b hb;exact absurd hb (hx b)
    · cases h
 | .block id c,st,k,k',x,hk,h=>dD hC hn (c:=c) (Bq hk) h
 | .loop c,st,k,k',x,hk,h=>jT (b:=fun st' k'=>aK T C F n c st' k') (b':=fun st' k'=>aK T C' F n' c st' k') (fun st k k' x hk h=>dD hC hn (c:=c) hk h) hn hk h
 | .exit id,st,k,k',x,hk,h=>hk _ _ _ h
 | .ret,st,k,k',x,hk,h=>hk _ _ _ h
 | .label _,st,k,k',x,hk,h=>hk _ _ _ h
 | .rangeFunc f ps y z,st,k,k',x,hk,h=>by
  have ha:=Oz h
  obtain⟨g,caps,fi,r,h1,h2,h3,h4,h5,h⟩:=ru h
  refine SN ha h1 h2 h3 h4 (hC _ _ _ _ h5) (ny (fun st k k' x hk h=>?_) hk h)
  exact dD hC hn (c:=y) (xC (fun st x h=>dD hC hn (c:=z) hk h) hk) h
 | .scope c,st,k,k',x,hk,h=>dD hC hn (c:=c) hk h
 | .goto ..,st,k,k',x,hk,h=>by simp[aK]at h
 | .refuse ..,st,k,k',x,hk,h=>by simp[aK]at h
theorem dV {F:FI}:∀ {c:Code} {st:St} {k k':Ex→St→Option α} {x:α},GX k k'→aP T C F c st k=some x→aP T C F c st k'=some x
 | .skip,st,k,k',x,hk,h=>hk _ _ _ h
 | .region id ops draw,st,k,k',x,hk,h=>by
  simp only[aP]at h ⊢
  obtain⟨h,e⟩:=iy h
  rw[e]
  cases draw with
  | false=>exact eY (Tf.refl C) (fun st x h=>by rw[aH]at h ⊢;exact hk _ _ _ h) h
  | true =>
   simp only at h ⊢
   cases hh:bG F.hides id with
   | none=>rw[hh]at h;cases h
   | some hd =>
    rw[hh]at h
    simp only[aH]at h ⊢
    exact eY (Tf.refl C) (fun st x h=>vS (fun st x h=>hk _ _ _ h) h) h
 | .seq y z,st,k,k',x,hk,h=>dV (c:=y) (xC (fun st x h=>dV (c:=z) hk h) hk) h
 | .cond c y z,st,k,k',x,hk,h=>by
  simp only[aP]at h ⊢
  split
  · rename_i b hb
    rw[hb]at h
    cases b with
    | true=>exact dV (c:=y) hk h
    | false=>exact dV (c:=z) hk h
  · rename_i hx
    split at h
    · rename_i b hb;exact absurd hb (hx b)
    · cases h
 | .block id c,st,k,k',x,hk,h=>dV (c:=c) (Bq hk) h
 | .loop c,st,k,k',x,hk,h=>L8 (b:=fun st' k'=>aP T C F c st' k') (b':=fun st' k'=>aP T C F c st' k') (fun st k k' x hk h=>dV (c:=c) hk h) (fun st k k' x hk h=>dV (c:=c) hk h) hk h
 | .exit id,st,k,k',x,hk,h=>hk _ _ _ h
 | .ret,st,k,k',x,hk,h=>hk _ _ _ h
 | .label _,st,k,k',x,hk,h=>hk _ _ _ h
 | .rangeFunc f ps y z,st,k,k',x,hk,h=>by
  have ha:=Ei h
  obtain⟨g,caps,fi,r,h1,h2,h3,h4,h5,h⟩:=Bo h
  refine GY ha h1 h2 h3 h4 h5 (ny (fun st k k' x hk h=>?_) hk h)
  exact dV (c:=y) (xC (fun st x h=>dV (c:=z) hk h) hk) h
 | .scope c,st,k,k',x,hk,h=>dV (c:=c) hk h
 | .goto ..,st,k,k',x,hk,h=>by simp[aP]at h
 | .refuse ..,st,k,k',x,hk,h=>by simp[aP]at h
theorem gq (hC:Tf C C') {F:FI}:∀ {c:Code} {st:St} {k k':Ex→St→Option α} {x:α},GX k k'→aP T C F c st k=some x→aP T C' F c st k'=some x
 | .skip,st,k,k',x,hk,h=>hk _ _ _ h
 | .region id ops draw,st,k,k',x,hk,h=>by
  simp only[aP]at h ⊢
  obtain⟨h,e⟩:=iy h
  rw[e]
  cases draw with
  | false=>exact eY hC (fun st x h=>by rw[aH]at h ⊢;exact hk _ _ _ h) h
  | true =>
   simp only at h ⊢
   cases hh:bG F.hides id with
   | none=>rw[hh]at h;cases h
   | some hd =>
    rw[hh]at h
    simp only[aH]at h ⊢
    exact eY hC (fun st x h=>vS (fun st x h=>hk _ _ _ h) h) h
 | .seq y z,st,k,k',x,hk,h=>gq hC (c:=y) (xC (fun st x h=>gq hC (c:=z) hk h) hk) h
 | .cond c y z,st,k,k',x,hk,h=>by
  simp only[aP]at h ⊢
  split
  · rename_i b hb
    rw[hb]at h
    cases b with
    | true=>exact gq hC (c:=y) hk h
    | false=>exact gq hC (c:=z) hk h
  · rename_i hx
    split at h
    · rename_i b hb;exact absurd hb (hx b)
    · cases h
 | .block id c,st,k,k',x,hk,h=>gq hC (c:=c) (Bq hk) h
 | .loop c,st,k,k',x,hk,h=>L8 (b:=fun st' k'=>aP T C F c st' k') (b':=fun st' k'=>aP T C' F c st' k') (fun st k k' x hk h=>gq hC (c:=c) hk h) (fun st k k' x hk h=>dV (c:=c) hk h) hk h
 | .exit id,st,k,k',x,hk,h=>hk _ _ _ h
 | .ret,st,k,k',x,hk,h=>hk _ _ _ h
 | .label _,st,k,k',x,hk,h=>hk _ _ _ h
 | .rangeFunc f ps y z,st,k,k',x,hk,h=>by
  have ha:=Ei h
  obtain⟨g,caps,fi,r,h1,h2,h3,h4,h5,h⟩:=Bo h
  refine GY ha h1 h2 h3 h4 (hC _ _ _ _ h5) (ny (fun st k k' x hk h=>?_) hk h)
  exact gq hC (c:=y) (xC (fun st x h=>gq hC (c:=z) hk h) hk) h
 | .scope c,st,k,k',x,hk,h=>gq hC (c:=c) hk h
 | .goto ..,st,k,k',x,hk,h=>by simp[aP]at h
 | .refuse ..,st,k,k',x,hk,h=>by simp[aP]at h
theorem jU (hC:Tf C C') {F:FI} {n:Nat}:∀ {c:Code} {st:St} {k k':Ex→St→Option α} {x:α},GX k k'→aK T C F n c st k=some x→aP T C' F c st k'=some x
 | .skip,st,k,k',x,hk,h=>hk _ _ _ h
 | .region id ops draw,st,k,k',x,hk,h=>by
  simp only[aP,aK]at h ⊢
  obtain⟨h,e⟩:=iy h
  rw[e]
  cases draw with
  | false=>exact eY hC (fun st x h=>by rw[aH]at h ⊢;exact hk _ _ _ h) h
  | true =>
   simp only at h ⊢
   cases hh:bG F.hides id with
   | none=>rw[hh]at h;cases h
   | some hd =>
    rw[hh]at h
    simp only[aH]at h ⊢
    exact eY hC (fun st x h=>vS (fun st x h=>hk _ _ _ h) h) h
 | .seq y z,st,k,k',x,hk,h=>jU hC (c:=y) (xC (fun st x h=>jU hC (c:=z) hk h) hk) h
 | .cond c y z,st,k,k',x,hk,h=>by
  simp only[aP,aK]at h ⊢
  split
  · rename_i b hb
    rw[hb]at h
    cases b with
    | true=>exact jU hC (c:=y) hk h
    | false=>exact jU hC (c:=z) hk h
  · rename_i hx
    split at h
    · rename_i b hb;exact absurd hb (hx b)
    · cases h
 | .block id c,st,k,k',x,hk,h=>jU hC (c:=c) (Bq hk) h
 | .loop c,st,k,k',x,hk,h => LZ (f := fun m => mD (aC F.cfg c) (fun st' k' => aP T C' F c st' k') m (aC F.cfg c st) k') (n := n) (fun _ _ _ hnm h => jT (b := fun st' k' => aP T C' F c st' k') (b' := fun st' k' => aP T C' F c st' k') (fun st k k' x hk h => dV (c := c) hk h) hnm (GX.refl _) h)
     (jT (b:=fun st' k'=>aK T C F n c st' k') (b':=fun st' k'=>aP T C' F c st' k') (fun st k k' x hk h=>jU hC (c:=c) hk h) (Nat.le_refl n) hk h)
 | .exit id,st,k,k',x,hk,h=>hk _ _ _ h
 | .ret,st,k,k',x,hk,h=>hk _ _ _ h
 | .label _,st,k,k',x,hk,h=>hk _ _ _ h
 | .rangeFunc f ps y z,st,k,k',x,hk,h=>by
  have ha:=Oz h
  obtain⟨g,caps,fi,r,h1,h2,h3,h4,h5,h⟩:=ru h
  refine GY ha h1 h2 h3 h4 (hC _ _ _ _ h5) (ny (fun st k k' x hk h=>?_) hk h)
  exact jU hC (c:=y) (xC (fun st x h=>jU hC (c:=z) hk h) hk) h
 | .scope c,st,k,k',x,hk,h=>jU hC (c:=c) hk h
 | .goto ..,st,k,k',x,hk,h=>by simp[aK]at h
 | .refuse ..,st,k,k',x,hk,h=>by simp[aK]at h
structure OA (Cn:Nat→aF) (C:aF):Prop where
 mono:∀ n m,n≤m→Tf (Cn n) (Cn m)
 lim:∀ f a b x,C f a b=some x→∃ n,Cn n f a b=some x
structure IG (kn:Nat→Ex→St→Option α) (k:Ex→St→Option α):Prop where
 mono:∀ n m,n≤m→GX (kn n) (kn m)
 lim:∀ ex st x,k ex st=some x→∃ n,kn n ex st=some x
theorem XW {Cn:Nat→aF} (hC:OA Cn C) {all:List Oper} {o:Oper} {env:List AV} {h:Nat→Option aI} {y:Option Eff} (h1:vX T C all o env h=some y):∃ n,vX T (Cn n) all o env h=some y:=by
 rcases FM (T:=T) env h o with ⟨D,hD⟩ | ⟨f,as_,bl,g,hD⟩
 · refine⟨0,?_⟩
   unfold vX at h1 ⊢
   rw[hD]at h1 ⊢;exact h1
 · cases hc:C f as_ bl with
   | some r =>
    obtain⟨n,hn⟩:=hC.lim _ _ _ _ hc
    refine⟨n,?_⟩
    unfold vX at h1 ⊢
    rw[hD,hc]at h1
    rw[hD,hn];exact h1
   | none =>
    refine⟨0,?_⟩
    unfold vX at h1 ⊢
    rw[hD,hc]at h1
    cases hg:o.guard with
    | none=>rw[hg]at h1;simp[DT.run]at h1
    | some gw =>
     obtain⟨g',want⟩:=gw
     rw[hg]at h1
     simp only at h1 ⊢
     cases hd:oQ all g' with
     | none=>rw[hd]at h1;cases h1
     | some t =>
      rw[hd]at h1
      simp only at h1 ⊢
      by_cases hx:∃ b,env.getD t .undef=.p (.bool b)
      · obtain⟨b,hb⟩:=hx
        rw[hb]at h1 ⊢
        simp only at h1 ⊢
        split
        · rename_i hw;rw[if_pos hw]at h1;simp[DT.run]at h1
        · rename_i hw;rw[if_neg hw]at h1;exact h1
      · by_cases hh:env.getD t .undef=.mG []
        · rw[hh]at h1 ⊢;exact h1
        · split at h1
          · rename_i b hb;exact absurd ⟨b,hb⟩ hx
          · rename_i hb;exact absurd hb hh
          · cases h1
theorem U2 {Cn:Nat→aF} (hC:OA Cn C) {draw:Bool} {hd:List Nat} {all:List Oper} {o:Oper} {st st':St} (h1:step1 T C draw hd all o st=some st'):∃ n,step1 T (Cn n) draw hd all o st=some st':=by
 unfold step1 at h1
 cases ha:vX T C all o st.env (jk hd (look st.heap)) with
 | none=>rw[ha]at h1;cases h1
 | some y =>
  obtain⟨n,hn⟩:=XW hC ha
  refine⟨n,?_⟩
  unfold step1
  rw[ha]at h1;rw[hn];exact h1
theorem U3 {b:Option aI} {st:St} {kn:Nat→St→Option α} {k:St→Option α} {x:α} (hk:∀ st x,k st=some x→∃ n,kn n st=some x) (h:tN b st k=some x):∃ n,tN b st (kn n)=some x:=by
 unfold tN at h ⊢
 split at h
 · split at h
   · exact hk _ _ h
   · cases h
 · exact hk _ _ h
theorem pI {Cn : Nat → aF} (hC : OA Cn C) {draw : Bool} {hd : List (List Nat)} {all : List Oper} {kn : Nat → St → Option α} {k : St → Option α} (hm : ∀ n m st x,n ≤ m → kn n st = some x → kn m st = some x) (hk : ∀ st x,k st = some x → ∃ n,kn n st = some x) :
    ∀ {l:List Oper} {j:Nat} {st:St} {x:α},dW T C draw hd all l j st k=some x→∃ n,dW T (Cn n) draw hd all l j st (kn n)=some x
  | [],j,st,x,h=>hk _ _ h
  | o::r,j,st,x,h=>by
   cases hy:nJ draw st o with
   | none =>
    rw[mY _ _ hy]at h
    cases h1:step1 T C draw (hd.getD j []) all o st with
    | none=>rw[h1]at h;cases h
    | some st1 =>
     rw[h1]at h
     obtain⟨n1,hn1⟩:=U2 hC h1
     obtain⟨n2,hn2⟩:=pI hC hm hk (l:=r) h
     refine⟨max n1 n2,?_⟩
     rw[mY _ _ hy,L9 (hC.mono n1 (max n1 n2) (by omega)) hn1]
     exact eY (hC.mono n2 (max n1 n2) (by omega)) (fun st x h=>hm n2 _ st x (by omega) h) hn2
   | some p =>
    obtain⟨xs,vs⟩:=p
    rw[nK _ _ hy]at h
    cases hg:guardOf all o st.env with
    | none=>rw[hg]at h;cases h
    | some b =>
     rw[hg]at h
     cases b with
     | false =>
      obtain⟨n,hn⟩:=pI hC hm hk (l:=r) h
      refine⟨n,?_⟩
      rw[nK _ _ hy,hg]
      exact hn
     | true =>
      obtain⟨no,h1,h2⟩:=Cm h
      obtain⟨n1,hn1⟩:=pI hC hm hk (l:=r) h1
      obtain⟨n2,hn2⟩:=pI hC hm hk (l:=r) h2
      refine⟨max n1 n2,?_⟩
      rw[nK _ _ hy,hg]
      exact VW (eY (hC.mono n1 (max n1 n2) (by omega)) (fun st x h=>hm n1 _ st x (by omega) h) hn1) (eY (hC.mono n2 (max n1 n2) (by omega)) (fun st x h=>hm n2 _ st x (by omega) h) hn2)
theorem SQ {kn : Nat → Ex → St → Option α} {k : Ex → St → Option α} (hk : IG kn k) {fn : Nat → St → Option α} {f : St → Option α} (hm : ∀ n m st x,n ≤ m → fn n st = some x → fn m st = some x) (hl : ∀ st x,f st = some x → ∃ n,fn n st = some x) :
    IG (fun n ex st'=>match ex with | .normal=>fn n st' | .exit id=>kn n (.exit id) st' | .ret=>kn n .ret st') (fun ex st'=>match ex with | .normal=>f st' | .exit id=>k (.exit id) st' | .ret=>k .ret st') :=
  ⟨fun n m h=>xC (fun st x h'=>hm n m st x h h') (hk.mono n m h),fun ex st x h=>by
    cases ex with
    | normal=>exact hl _ _ h
    | exit id=>exact hk.lim _ _ _ h
    | ret=>exact hk.lim _ _ _ h⟩
theorem U4 {kn : Nat → Ex → St → Option α} {k : Ex → St → Option α} {id : Nat} (hk : IG kn k) :
    IG (fun n ex st'=>match ex with | .normal=>kn n .normal st' | .exit i=>bif i==id then kn n .normal st' else kn n (.exit i) st' | .ret=>kn n .ret st') (fun ex st'=>match ex with | .normal=>k .normal st' | .exit i=>bif i==id then k .normal st' else k (.exit i) st' | .ret=>k .ret st') :=
  ⟨fun n m h=>Bq (hk.mono n m h),fun ex st x h=>by
    cases ex with
    | normal=>exact hk.lim _ _ _ h
    | exit i =>
     simp only at h ⊢
     cases hi:i==id with
     | true=>rw[hi]at h;exact hk.lim _ _ _ h
     | false=>rw[hi]at h;exact hk.lim _ _ _ h
    | ret=>exact hk.lim _ _ _ h⟩
theorem gI {Cn:Nat→aF} (hC:OA Cn C) {F:FI}:∀ {c:Code} {st:St} {kn:Nat→Ex→St→Option α} {k:Ex→St→Option α} {x:α},IG kn k→aP T C F c st k=some x→∃ n,aK T (Cn n) F n c st (kn n)=some x
 | .skip,st,kn,k,x,hk,h=>hk.lim _ _ _ h
 | .region id ops draw,st,kn,k,x,hk,h=>by
  simp only[aP,aK]at h ⊢
  obtain⟨h,e⟩:=iy h
  simp only[e]
  cases draw with
  | false =>
   exact pI hC (kn:=fun n st'=>fC (settle F.cfg ops.toList st') fun st'=>kn n .normal st') (fun n m st x hnm h=>by rw[aH]at h ⊢;exact hk.mono n m hnm _ _ _ h) (fun st x h=>by
    rw[aH]at h
    obtain⟨n,hn⟩:=hk.lim _ _ _ h
    exact⟨n,by rw[aH];exact hn⟩) h
  | true =>
   simp only[]at h ⊢
   cases hh:bG F.hides id with
   | none=>rw[hh]at h;cases h
   | some hd =>
    rw[hh]at h
    simp only[aH]at h ⊢
    exact pI hC (kn:=fun n st'=>tN (look (st.strike (present st.heap (yt ops.toList ops.toList))).heap ah) st' fun st'=>kn n .normal (settle F.cfg ops.toList st')) (fun n m st x hnm h=>vS (fun st x h=>hk.mono n m hnm _ _ _ h) h) (fun st x h=>U3 (kn:=fun n st'=>kn n .normal (settle F.cfg ops.toList st')) (fun st x h=>hk.lim _ _ _ h) h) h
 | .seq y z,st,kn,k,x,hk,h=>gI hC (c:=y) (SQ hk (fn:=fun n st'=>aK T (Cn n) F n z (aC F.cfg z st') (kn n)) (fun n m st x hnm h=>dD (hC.mono n m hnm) hnm (hk.mono n m hnm) h) (fun st x h=>gI hC (c:=z) hk h)) h
 | .cond c y z,st,kn,k,x,hk,h=>by
  simp only[aP,aK]at h ⊢
  by_cases hx:∃ b,aU st.env c=.p (.bool b)
  · obtain⟨b,hb⟩:=hx
    rw[hb]at h ⊢
    cases b with
    | true=>exact gI hC (c:=y) hk h
    | false=>exact gI hC (c:=z) hk h
  · split at h
    · rename_i b hb;exact absurd ⟨b,hb⟩ hx
    · cases h
 | .block id c,st,kn,k,x,hk,h=>gI hC (c:=c) (U4 hk) h
 | .loop c,st,kn,k,x,hk,h=>by
  obtain⟨m,hm⟩:=yI h
  have key:∀ m st x,mD (aC F.cfg c) (fun st' k'=>aP T C F c st' k') m st k=some x→∃ n,mD (aC F.cfg c) (fun st' k'=>aK T (Cn n) F n c st' k') n st (kn n)=some x:=by
   intro m
   induction m with
   | zero=>intro st x h;simp[mD]at h
   | succ m ih =>
    intro st x h
    rw[zo]at h
    have happ:IG (fun n=>next (aC F.cfg c) (fun st'=>mD (aC F.cfg c) (fun st' k'=>aK T (Cn n) F n c st' k') n st' (kn n)) (kn n)) (next (aC F.cfg c) (fun st'=>mD (aC F.cfg c) (fun st' k'=>aP T C F c st' k') m st' k) k) :=
     ⟨fun n m hnm=>Je (fun st x h=>jT (b:=fun st' k'=>aK T (Cn n) F n c st' k') (b':=fun st' k'=>aK T (Cn m) F m c st' k') (fun st k k' x hk h=>dD (hC.mono n m hnm) hnm (c:=c) hk h) hnm (hk.mono n m hnm) h) (hk.mono n m hnm),fun ex st x h=>by
       cases ex with
       | normal =>
        simp only[next,aH]at h ⊢
        exact ih _ _ h
       | exit id=>exact hk.lim _ _ _ h
       | ret=>exact hk.lim _ _ _ h⟩
    obtain⟨n,hn⟩:=gI hC (c:=c) happ h
    refine⟨n+1,?_⟩
    rw[zo]
    exact dD (hC.mono n (n+1) (by omega)) (by omega) (Je (fun st x h=>jT (b:=fun st' k'=>aK T (Cn n) F n c st' k') (b':=fun st' k'=>aK T (Cn (n+1)) F (n+1) c st' k') (fun st k k' x hk h=>dD (hC.mono n (n+1) (by omega)) (by omega) (c:=c) hk h) (by omega) (hk.mono n (n+1) (by omega)) h) (hk.mono n (n+1) (by omega))) hn
  obtain⟨n,hn⟩:=key m _ x hm
  exact⟨n,hn⟩
 | .exit id,st,kn,k,x,hk,h=>hk.lim _ _ _ h
 | .ret,st,kn,k,x,hk,h=>hk.lim _ _ _ h
 | .label _,st,kn,k,x,hk,h=>hk.lim _ _ _ h
 | .rangeFunc f ps y z,st,kn,k,x,hk,h=>by
  have ha:=Ei h
  obtain⟨g,caps,fi,r,h1,h2,h3,h4,h5,h⟩:=Bo h
  obtain⟨n0,h5⟩:=hC.lim _ _ _ _ h5
  have abM:∀ n m,n≤m→LeB (vO (α:=α) T (Cn n) F n y z) (vO T (Cn m) F m y z):=fun n m hnm st k k' x hk h=>dD (hC.mono n m hnm) hnm (c:=y) (xC (fun st x h=>dD (hC.mono n m hnm) hnm (c:=z) hk h) hk) h
  have key:∀ (xs:List PV) (st:St) (x:α),jg (aC F.cfg (.seq y z)) fi.cfg.yk ps.toList (jW ps y z) (fun st k=>aP T C F (.seq y z) st k) xs st k=some x→∃ n,jg (aC F.cfg (.seq y z)) fi.cfg.yk ps.toList (jW ps y z) (vO T (Cn n) F n y z) xs st (kn n)=some x:=by
   intro xs
   induction xs with
   | nil=>intro st x h;exact hk.lim _ _ _ h
   | cons v xs ih =>
    intro st x h
    simp only[jg]at h ⊢
    split at h
    · cases h
    · rename_i env he
      rw[aH]at h
      have happ:IG (fun n=>nV (aC F.cfg (.seq y z)) (jW ps y z) (fun st=>jg (aC F.cfg (.seq y z)) fi.cfg.yk ps.toList (jW ps y z) (vO T (Cn n) F n y z) xs st (kn n)) (kn n)) (nV (aC F.cfg (.seq y z)) (jW ps y z) (fun st=>jg (aC F.cfg (.seq y z)) fi.cfg.yk ps.toList (jW ps y z) (fun st k=>aP T C F (.seq y z) st k) xs st k) k) :=
       ⟨fun n m hnm=>SL (fun st x h=>ny (abM n m hnm) (hk.mono n m hnm) h) (hk.mono n m hnm),fun ex st x h=>by
         cases ex with
         | normal =>
          simp only[nV,aH]at h ⊢
          exact ih _ _ h
         | exit id =>
          simp only[nV,aH]at h ⊢
          exact hk.lim _ _ _ h
         | ret =>
          simp only[nV,aH]at h ⊢
          exact hk.lim _ _ _ h⟩
      have h':=gI hC (c:=y) (SQ happ (fn:=fun n st'=>aK T (Cn n) F n z (aC F.cfg z st') (nV (aC F.cfg (.seq y z)) (jW ps y z) (fun st=>jg (aC F.cfg (.seq y z)) fi.cfg.yk ps.toList (jW ps y z) (vO T (Cn n) F n y z) xs st (kn n)) (kn n))) (fun n m st x hnm h=>dD (hC.mono n m hnm) hnm (c:=z) (happ.mono n m hnm) h) (fun st x h=>gI hC (c:=z) happ h)) h
      obtain⟨n,hn⟩:=h'
      exact⟨n,by rw[aH];exact hn⟩
  obtain⟨n1,h⟩:=key _ _ _ h
  refine⟨max n0 n1,SN ha h1 h2 h3 h4 (hC.mono n0 (max n0 n1) (by omega) _ _ _ _ h5) (ny (abM n1 (max n0 n1) (by omega)) (hk.mono n1 (max n0 n1) (by omega)) h)⟩
 | .scope c,st,kn,k,x,hk,h=>gI hC (c:=c) hk h
 | .goto ..,st,kn,k,x,hk,h=>by simp[aP]at h
 | .refuse ..,st,kn,k,x,hk,h=>by simp[aP]at h
theorem abm {C:aF} {F:FI} {c:Code} {fg:St→St} {st:St} {k:Ex→St→Option α} {x:α} (h:aP T C F c st (next fg (fun st'=>L6 fg (fun st' k'=>aP T C F c st' k') st' k) k)=some x):L6 fg (fun st' k'=>aP T C F c st' k') st k=some x:=by
 have hb:LeB (fun st' k'=>aP (α:=α) T C F c st' k') (fun st' k'=>aP T C F c st' k'):=fun st k k' x hk h=>gq (Tf.refl _) (c:=c) hk h
 have happ:IG (fun n=>next fg (fun st'=>mD fg (fun st' k'=>aP T C F c st' k') n st' k) k) (next fg (fun st'=>L6 fg (fun st' k'=>aP T C F c st' k') st' k) k) :=
  ⟨fun n m hnm=>Je (fun st x h=>jT hb hnm (GX.refl _) h) (GX.refl _),fun ex st x h=>by
    cases ex with
    | normal =>
     simp only[next,aH]at h ⊢
     exact yI h
    | exit id=>exact⟨0,h⟩
    | ret=>exact⟨0,h⟩⟩
 have hC:OA (fun _=>C) C:=⟨fun _ _ _=>Tf.refl _,fun _ _ _ _ h=>⟨0,h⟩⟩
 obtain⟨n,hn⟩:=gI hC happ h
 have:=jU (Tf.refl C) (GX.refl _) hn
 exact LZ (n:=n+1) (fun _ _ _ hnm h=>jT hb hnm (GX.refl _) h) (by rw[zo];exact this)
theorem Ej {X:Ext}:∀ {n m:Nat},n≤m→Tf (kR T X n) (kR T X m)
 | 0,_,_=>fun f a b x h=>by simp[kR]at h
 | n+1,0,hm=>by omega
 | n+1,m+1,hm=>fun f a b x h=>by
  simp only[kR]at h ⊢
  split at h
  · cases h
  · rename_i fi hf
    split at h
    · exact h
    · rename_i hx
      split at h
      · cases h
      · rename_i c hc
        cases hb:Df fi.cfg b with
        | false=>rw[hb]at h;cases h
        | true =>
        rw[hb]at h
        simp only[cond_true,fH,iH,aH]at h ⊢
        exact dD (Ej (by omega)) (by omega) (GX.refl _) h
theorem ZX {X:Ext}:OA (kR T X) (run T X):=⟨fun _ _ h=>Ej h,fun _ _ _ _ h=>yI h⟩
theorem SS {X:Ext} {f:Nat} {a:List AV} {b:List aI}:ae3 fun n=>kR T X n f a b:=fun _n _m x hnm h=>Ej hnm f a b x h
theorem bK {X:Ext} {f:Nat} {args:List AV} {bl:List aI} {r:List AV × List aI} (hX:X f=none) (h:bn T (run T X) f args bl=some r):run T X f args bl=some r:=by
 unfold bn at h
 split at h
 · cases h
 · rename_i fi hf
   split at h
   · cases h
   · rename_i c hc
     cases hb:Df fi.cfg bl with
     | false=>rw[hb]at h;cases h
     | true =>
     rw[hb]at h
     simp only[cond_true,fH,iH,aH]at h
     obtain⟨n,hn⟩:=gI ZX (kn:=fun _=>abl T fi bl) ⟨fun _ _ _=>GX.refl _,fun _ _ _ h=>⟨0,h⟩⟩ h
     refine LZ (n:=n+1) SS ?_
     simp only[kR,hf,hX,hc,hb,cond_true,fH,iH,aH]
     refine dD (Tf.refl _) (Nat.le_refl n) (fun ex st x h=>?_) hn
     cases ex<;>exact h
theorem vZ {X:Ext} {f:Nat} {fi:FI} {s:List AV→List aI→Option (List AV × List aI)} {args:List AV} {bl:List aI} {r:List AV × List aI} (hf:bG T.funcs f=some fi) (hX:X f=some s) (h:s args bl=some r):run T X f args bl=some r :=
 LZ (n:=1) SS (by simp only[kR,hf,hX];exact h)
theorem NI {P:Program} (ok:bP P T) {X:Ext} {gl:Option (List (Nat × Obj))} (hX:zA P T gl X):gX P T gl (run T X):=by
 refine⟨fun f fi args bl rs iU hf hpb h=>?_,fun f fi args z off len a ks xs rs iU hf hv h=>?_⟩
 · obtain⟨n,hn⟩:=yI h
   exact(IE ok hX n).plain f fi args bl rs iU hf hpb hn
 · obtain⟨n,hn⟩:=yI h
   exact(IE ok hX n).var f fi args z off len a ks xs rs iU hf hv hn
end
inductive Wy where
 | lp (p:List Nat)
 | rg (p:List Nat) (ss:List (Bool × List Kd)) (xs:List PV)
section
variable {α:Type} (T:Tab) (C:aF) (F:FI)
def xE:Code→List Nat→Code
 | c,[]=>c
 | .seq a _,0::p=>xE a p
 | .seq _ b,_::p=>xE b p
 | .cond _ a _,0::p=>xE a p
 | .cond _ _ b,_::p=>xE b p
 | .block _ c,_::p=>xE c p
 | .scope c,_::p=>xE c p
 | .loop c,_::p=>xE c p
 | c,_=>c
def vT (c:Code) (p:List Nat):Code:=match xE c p with
 | .loop b=>b
 | .rangeFunc _ _ a b=>.seq a b
 | _=>.skip
def ajW (c:Code) (p:List Nat):List Nat:=match xE c p with
 | .rangeFunc _ ps _ _=>ps.toList
 | _=>[]
def ae4 (c:Code) (p:List Nat):List Nat:=match xE c p with
 | .rangeFunc _ ps a b=>jW ps a b
 | _=>[]
noncomputable def xG:Code→List Nat→(Ex→St→Option α)→Ex→St→Option α
 | .seq a b,0::p,k=>xG a p fun ex st' =>
  match ex with
  | .normal=>aP T C F b (aC F.cfg b st') k
  | .exit id=>k (.exit id) st'
  | .ret=>k .ret st'
 | .seq _ b,_::p,k=>xG b p k
 | .cond _ a _,0::p,k=>xG a p k
 | .cond _ _ b,_::p,k=>xG b p k
 | .block id c,_::p,k=>xG c p fun ex st' =>
  match ex with
  | .normal=>k .normal st'
  | .exit i=>bif i==id then k .normal st' else k (.exit i) st'
  | .ret=>k .ret st'
 | .scope c,_::p,k=>xG c p k
 | _,_,k=>k
noncomputable def ae5 (c:Code) (p:List Nat) (k:Ex→St→Option α) (st:St):Option α:=L6 (aC F.cfg (vT c p)) (fun st' k'=>aP T C F (vT c p) st' k') st (xG T C F c p k)
noncomputable def U5 (c:Code) (p:List Nat) (k:Ex→St→Option α):Ex→St→Option α:=next (aC F.cfg (vT c p)) (ae5 T C F c p k) (xG T C F c p k)
noncomputable def ado (c:Code) (p:List Nat) (ss:List (Bool × List Kd)) (k:Ex→St→Option α) (xs:List PV) (st:St):Option α :=
 jg (aC F.cfg (vT c p)) ss (ajW c p) (ae4 c p) (fun st k=>aP T C F (vT c p) st k) xs st (xG T C F c p k)
noncomputable def ZY (c:Code) (p:List Nat) (ss:List (Bool × List Kd)) (xs:List PV) (k:Ex→St→Option α):Ex→St→Option α:=nV (aC F.cfg (vT c p)) (ae4 c p) (ado T C F c p ss k xs) (xG T C F c p k)
noncomputable def Qo:Code→(Ex→St→Option α)→List Wy→St→Option α
 | _,_,[],_=>none
 | c,k,[.lp p],st=>ae5 T C F c p k st
 | c,k,[.rg p ss xs],st=>ado T C F c p ss k xs st
 | c,k,.lp p::q::r,st=>Qo (vT c p) (U5 T C F c p k) (q::r) st
 | c,k,.rg p ss xs::q::r,st=>Qo (vT c p) (ZY T C F c p ss xs k) (q::r) st
noncomputable def FN:Code→(Ex→St→Option α)→List Wy→St→Option α
 | _,_,[],_=>none
 | c,k,[.lp p],st=>aP T C F (vT c p) st (U5 T C F c p k)
 | c,k,[.rg p ss xs],st=>ado T C F c p ss k xs st
 | c,k,.lp p::q::r,st=>FN (vT c p) (U5 T C F c p k) (q::r) st
 | c,k,.rg p ss xs::q::r,st=>FN (vT c p) (ZY T C F c p ss xs k) (q::r) st
variable {T C F}
theorem GZ {x:α}:∀ {l:List Wy} {c:Code} {k:Ex→St→Option α} {st:St},FN T C F c k l st=some x→Qo T C F c k l st=some x
 | [],_,_,_,h=>by simp[FN]at h
 | [.lp p],c,k,st,h=>abm h
 | [.rg p ss xs],c,k,st,h=>h
 | .lp p::q::r,c,k,st,h=>GZ (l:=q::r) h
 | .rg p ss xs::q::r,c,k,st,h=>GZ (l:=q::r) h
end
section
variable (T:Tab) (C:aF) (f:Nat) (bl:List aI)
noncomputable def XY:FI:=match bG T.funcs f with | some fi=>fi | none=>⟨default,{},[]⟩
def codeOf (F:FI):Code:=match F.fn.body with | some c=>c | none=>.skip
noncomputable def L (l:List Wy) (st:St):Option (List AV × List aI):=Qo T C (XY T f) (codeOf (XY T f)) (abl T (XY T f) bl) l st
noncomputable def R (l:List Wy) (st:St):Option (List AV × List aI):=FN T C (XY T f) (codeOf (XY T f)) (abl T (XY T f) bl) l st
variable {T C f bl}
theorem dQ {l:List Wy} {st:St} {x:List AV × List aI} (h:R T C f bl l st=some x):L T C f bl l st=some x:=GZ h
end
end Go.Skm
namespace Go.Skm
open Go.ChangeShapes Go.WideShapes
mutual
def PV.wf:PV→Prop
 | .int k n=>(Lit.int k n).wf=true
 | .str s=>s.size≤maxLen
 | .list _ _ xs=>xs.length≤maxLen∧PV.wfs xs
 | .agg cs=>PV.wfs cs
 | .nil=>False
 | _=>True
def PV.wfs:List PV→Prop
 | []=>True
 | v::r=>PV.wf v∧PV.wfs r
end
theorem CP:∀ {l:List PV},PV.wfs l↔∀ v∈l,v.wf
 | []=>by simp[PV.wfs]
 | v::r=>by simp[PV.wfs,CP]
section
variable (P:Program)
def kN:Nat→TypeId→Bool
 | 0,_=>false
 | n+1,t =>
  match P.underlying t with
  | some (.int _)=>Nat.beq (P.cellsOf t) 1
  | some .bool=>Nat.beq (P.cellsOf t) 1
  | some .string=>Nat.beq (P.cellsOf t) 1
  | some (.slice e)=>kN n e&&(Nat.blt 0 (P.cellsOf e)&&Nat.beq (P.cellsOf t) 1)
  | some (.struct fs)=>go n 0 fs.toList&&Nat.beq (P.cellsOf t) (sum fs.toList)
  | some (.array m e)=>kN n e&&Nat.beq (P.cellsOf t) (m*P.cellsOf e)
  | _=>false
where
 go (n:Nat):Nat→List Field→Bool
 | _,[]=>true
 | o,f::r=>f.offset==o&&(kN n f.type&&go n (o+P.cellsOf f.type) r)
 sum:List Field→Nat
 | []=>0
 | f::r=>P.cellsOf f.type+sum r
end
section
variable {H:Type} {enc:TypeId × Value→H} {P:Program} {w:World} {base:Nat} {sp:Nat→Bool} {held:Bool} {M:Nat→Prop}
theorem Mc:∀ {n:Nat} {t:TypeId},kN P n t=true→(aX P n t).2.length=P.cellsOf t
 | 0,t,h=>by simp[kN]at h
 | n+1,t,h=>by
  unfold kN at h
  unfold aX
  split at h
  · rename_i k hu;rw[hu];simpa using (Nat.eq_of_beq_eq_true h).symm
  · rename_i hu;rw[hu];simpa using (Nat.eq_of_beq_eq_true h).symm
  · rename_i hu;rw[hu];simpa using (Nat.eq_of_beq_eq_true h).symm
  · rename_i e hu
    rw[hu]
    simp only[Bool.and_eq_true]at h
    simpa using (Nat.eq_of_beq_eq_true h.2.2).symm
  · rename_i fs hu
    rw[hu]
    simp only[Bool.and_eq_true]at h
    rw[Nat.eq_of_beq_eq_true h.2]
    have:∀ (l:List Field) (o:Nat),kN.go P n o l=true→(l.flatMap fun f=>(aX P n f.type).2).length=kN.sum P l:=by
     intro l
     induction l with
     | nil=>intro o _;rfl
     | cons f r ih =>
      intro o h
      simp only[kN.go,Bool.and_eq_true]at h
      simp only[List.flatMap_cons,List.length_append,kN.sum,Mc h.2.1,ih _ h.2.2]
    exact this _ _ h.1
  · rename_i m e hu
    rw[hu]
    simp only[Bool.and_eq_true]at h
    simp only[List.length_flatten,List.map_replicate,List.sum_replicate_nat,Mc h.1]
    exact(Nat.eq_of_beq_eq_true h.2).symm
  · cases h
def I4 (w:World) (M:Nat→Prop) (ks:List Kd) (cs:List Value) (ps:List PV):Prop :=
 bH ks ps=true∧ps.length=cs.length∧(∀ (i:Nat) (p:PV),ps[i]?=some p→VR w M p (cs.getD i undef))∧PV.wfs ps
theorem Bv:∀ {k1 k2:List Kd} {p1 p2:List PV},bH k1 p1=true→bH k2 p2=true→bH (k1++k2) (p1++p2)=true
 | [],k2,[],p2,_,h=>h
 | k::k1,k2,v::p1,p2,h1,h2=>by
  simp only[bH,Bool.and_eq_true]at h1
  simp only[List.cons_append,bH,Bool.and_eq_true]
  exact⟨h1.1,Bv h1.2 h2⟩
 | [],_,_::_,_,h,_=>by simp[bH]at h
 | _::_,_,[],_,h,_=>by simp[bH]at h
theorem I4.append {k1 k2:List Kd} {c1 c2:List Value} {p1 p2:List PV} (h1:I4 w M k1 c1 p1) (h2:I4 w M k2 c2 p2):I4 w M (k1++k2) (c1++c2) (p1++p2):=by
 refine⟨Bv h1.1 h2.1,by simp[h1.2.1,h2.2.1],fun i p hp=>?_,?_⟩
 · by_cases hi:i<p1.length
   · rw[List.getElem?_append_left hi]at hp
     have:=h1.2.2.1 i p hp
     rw[List.getD_eq_getElem?_getD]at this ⊢
     rwa[List.getElem?_append_left (by rw[← h1.2.1];exact hi)]
   · rw[List.getElem?_append_right (by omega)]at hp
     have:=h2.2.2.1 _ p hp
     rw[List.getD_eq_getElem?_getD]at this ⊢
     rwa[List.getElem?_append_right (by rw[← h1.2.1];omega),← h1.2.1]
 · rw[CP]at *
   have a:=CP.1 h1.2.2.2
   have b:=CP.1 h2.2.2.2
   intro v hv
   rcases List.mem_append.1 hv with hv | hv
   · exact a v hv
   · exact b v hv
def xH (a:Bool) (ps:List PV):PV:=match a with | true=>.agg ps | false=>ps.headD .nil
theorem Md {n:Nat} {t:TypeId} (h:kN P n t=true) (ha:(aX P n t).1=false):(aX P n t).2.length=1:=by
 cases n with
 | zero=>simp[kN]at h
 | succ n =>
  unfold kN at h
  unfold aX at ha ⊢
  split at h<;>rename_i hu<;>first | (simp only[hu]at ha ⊢;done) | skip
  all_goals (try (simp only[hu]at ha ⊢;rfl))
  all_goals (simp only[hu]at ha)
  all_goals (cases ha)
theorem sH {n : Nat} {t : TypeId} {cs : List Value} {ps : List PV} (h : kN P n t = true) (hc : I4 w M (aX P n t).2 cs ps) :
    aA (aX P n t).1 (aX P n t).2 (xH (aX P n t).1 ps)=true∧(xH (aX P n t).1 ps).cells=ps∧(xH (aX P n t).1 ps).wf:=by
  cases ha:(aX P n t).1 with
  | true=>exact⟨hc.1,rfl,by simp only[xH,PV.wf];exact hc.2.2.2⟩
  | false =>
   have h1:=Md h ha
   have hk:=hc.1
   match hks:(aX P n t).2,h1,hk with
   | [k],_,hk =>
    match ps,hk,hc with
    | [p],hk,hc =>
     simp only[bH,Bool.and_true]at hk
     have hl:=iL hk
     refine⟨hk,?_,?_⟩
     · simp only[xH,List.headD_cons]
       cases p<;>first | rfl | simp[PV.leaf]at hl
     · exact(CP.1 hc.2.2.2) p (by simp)
    | [],hk,_=>simp[bH]at hk
    | _::_::_,hk,_=>simp[bH]at hk
theorem Nb {a:Addr} {n i:Nat} {v:Value} (h:w.cell? (a.add i)=some v) (hi:i<n) (h0:i=0):a.spot=none:=by
 subst h0
 simp only[Addr.add,if_true]at h
 unfold World.cell? at h
 split at h
 · cases hs:a.spot with
   | none=>rfl
   | some s=>rw[hs]at h;simp at h
 · cases h
theorem Em {a:Addr} {n:Nat} {cs:List Value} (h:w.cells? base a n=some cs):cs.length=n∧∀ i,i<n→∃ v,cs[i]?=some v∧w.cell? (a.add i)=some v:=by
 unfold World.cells? at h
 split at h
 · have hl:=mapM_some_length h
   simp at hl
   refine⟨hl,fun i hi=>?_⟩
   have:=mapM_some_get h i i (by simp[hi])
   have hlt:i<cs.length:=by omega
   rw[List.getElem?_eq_getElem hlt]at this
   exact⟨cs[i],by simp,this⟩
 · cases h
theorem XZ (hM:∀ b,b<w.heap.size→M b):∀ (fuel n:Nat) (t:TypeId) (cs:List Value) (x:DataW H × List MemPlace),DataW.trod enc P w base sp held fuel t cs=some x→kN P n t=true→∃ ps,I4 w M (aX P n t).2 cs ps:=by
 intro fuel
 induction fuel with
 | zero=>intro n t cs x h;simp[DataW.trod]at h
 | succ fuel ih =>
  intro n t cs x h ha
  cases n with
  | zero=>simp[kN]at ha
  | succ n =>
   unfold kN at ha
   have one:∀ (k:Kd) (p:PV) (v:Value),kindOk k p=true→VR w M p v→p.wf→I4 w M [k] [v] [p]:=by
    intro k p v h1 h2 h3
    refine⟨by simp[bH,h1],rfl,fun i q hq=>?_,by simp[PV.wfs,h3]⟩
    cases i with
    | zero=>simp at hq;subst hq;simpa using h2
    | succ i=>simp at hq
   split at ha
   · rename_i k hu
     obtain⟨m,rfl,_,hw⟩:=DataW.trod_int hu h
     have e:(aX P (n+1) t).2=[.int k]:=by (conv=>lhs;unfold aX);rw[hu]
     rw[e]
     exact⟨_,one _ (.int k m) _ (by simp[kindOk]) (.int k m) hw⟩
   · rename_i hu
     obtain⟨b,rfl,_⟩:=DataW.trod_bool hu h
     have e:(aX P (n+1) t).2=[.bool]:=by (conv=>lhs;unfold aX);rw[hu]
     rw[e]
     exact⟨_,one _ (.bool b) _ rfl (.bool b) trivial⟩
   · rename_i hu
     obtain⟨s,rfl,_,hw⟩:=DataW.trod_string hu h
     have e:(aX P (n+1) t).2=[.str]:=by (conv=>lhs;unfold aX);rw[hu]
     rw[e]
     exact⟨_,one _ (.str s) _ rfl (.str s) hw⟩
   · -- a slice
     rename_i e hu
     simp only[Bool.and_eq_true]at ha
     have es:(aX P (n+1) t).2=[.slice (aX P n e).1 (aX P n e).2]:=by (conv=>lhs;unfold aX);rw[hu]
     rw[es]
     have hpos:0<P.cellsOf e:=Nat.le_of_ble_eq_true ha.2.1
     have hlen:=Mc ha.1
     rcases DataW.trod_slice hu h with ⟨rfl,_⟩ | ⟨a,len,cap,elems,rest,m,hm,rfl,_,hb,hlc,hcm,hel,hget,_,_⟩
     · exact⟨_,one _ (.list (aX P n e).1 (aX P n e).2 []) _ (by simp[kindOk,Kd.oN]) (.kD _ _ none 0) (by simp[PV.wf,PV.wfs])⟩
     · cases hm
       have good:∀ i,i<len→∃ (ps:List PV) (csi:List Value),w.cells? base (a.add (i*P.cellsOf e)) (P.cellsOf e)=some csi∧I4 w M (aX P n e).2 csi ps:=by
        intro i hi
        have h1:=hget i hi
        rw[List.getElem?_eq_getElem (by omega)]at h1
        simp only[Option.bind_eq_some_iff]at h1
        obtain⟨csi,h2,h3⟩:=h1
        obtain⟨ps,h4⟩:=ih n e csi _ h3 ha.1
        exact⟨ps,csi,h2,h4⟩
       by_cases h0:len=0
       · subst h0
         exact⟨_,one _ (.list (aX P n e).1 (aX P n e).2 []) _ (by simp[kindOk,Kd.oN]) (.kD _ _ (some a) cap) (by simp[PV.wf,PV.wfs])⟩
       · have hspot : a.spot = none := by
           obtain⟨ps,csi,h2,_⟩:=good 0 (by omega)
           obtain⟨_,h3⟩:=Em h2
           obtain⟨v,_,h4⟩:=h3 0 hpos
           simp only[Nat.zero_mul]at h4
           have e0:a.add 0=a:=by simp[Addr.add]
           rw[e0]at h4
           exact Nb h4 hpos rfl
         have addr:∀ i j,(a.add (i*P.cellsOf e)).add j=⟨a.block,a.off+i*P.cellsOf e+j,none⟩:=by
          intro i j
          obtain⟨ab,ao,as⟩:=a
          simp only at hspot
          subst hspot
          unfold Addr.add
          by_cases h1:i*P.cellsOf e=0<;>by_cases h2:j=0<;>simp[h1,h2]
         have hex:∃ (f:Nat→List PV) (g:Nat→List Value),∀ i,i<len→w.cells? base (a.add (i*P.cellsOf e)) (P.cellsOf e)=some (g i)∧I4 w M (aX P n e).2 (g i) (f i) :=
          ⟨fun i=>if h:i<len then(good i h).choose else [],fun i=>if h:i<len then(good i h).choose_spec.choose else [],fun i hi=>by
            simp only[dif_pos hi];exact(good i hi).choose_spec.choose_spec⟩
         obtain⟨f,g,hfg⟩:=hex
         have hblk:a.block<w.heap.size:=by
          obtain⟨h2,_⟩:=hfg 0 (by omega)
          obtain⟨_,h3⟩:=Em h2
          obtain⟨v,_,h4⟩:=h3 0 hpos
          rw[addr]at h4
          unfold World.cell? at h4
          simp only at h4
          rcases Nat.lt_or_ge a.block w.heap.size with h' | h'
          · exact h'
          · rw[Array.getElem?_eq_none h']at h4;cases h4
         have hxs:∀ (i:Nat) (x:PV),((List.range len).map fun i=>xH (aX P n e).1 (f i))[i]?=some x→i<len∧x=xH (aX P n e).1 (f i):=by
          intro i x hx
          simp only[List.getElem?_map,Option.map_eq_some_iff]at hx
          obtain⟨j,hj,rfl⟩:=hx
          have hi:i<len:=by simpa using (List.getElem?_eq_some_iff.1 hj).1
          rw[List.getElem?_range hi]at hj
          cases hj
          exact⟨hi,rfl⟩
         refine⟨[.list (aX P n e).1 (aX P n e).2 ((List.range len).map fun i=>xH (aX P n e).1 (f i))],one _ _ _ (by simp[kindOk,Kd.oN]) ?_ ?_⟩
         · have := VR.list (w := w) (M := M) (aX P n e).1 (aX P n e).2 ((List.range len).map fun i => xH (aX P n e).1 (f i)) a.block a.off cap (fun i j => (g i).getD j undef) (hM _ hblk) (by simpa using hlc)
             (fun i x j c hx hj=>by
               obtain⟨hi,rfl⟩:=hxs i x hx
               obtain⟨h2,h3⟩:=hfg i hi
               rw[(sH ha.1 h3).2.1]at hj
               obtain⟨hl,h4⟩:=Em h2
               have hjl:j<P.cellsOf e:=by
                have:=(List.getElem?_eq_some_iff.1 hj).1
                rw[h3.2.1,hl]at this;exact this
               obtain⟨v,h5,h6⟩:=h4 j hjl
               rw[addr]at h6
               rw[hlen,h6,List.getD_eq_getElem?_getD,h5];rfl)
             (fun i x j c hx hj=>by
               obtain⟨hi,rfl⟩:=hxs i x hx
               obtain⟨h2,h3⟩:=hfg i hi
               rw[(sH ha.1 h3).2.1]at hj
               exact h3.2.2.1 j c hj)
             (fun x hx=>by
               obtain⟨i,hi⟩:=List.mem_iff_getElem?.1 hx
               obtain⟨hi',rfl⟩:=hxs i x hi
               exact(sH ha.1 (hfg i hi').2).1)
           have ea:a=⟨a.block,a.off,none⟩:=by cases a;simp at hspot;simp[hspot]
           rw[List.length_map,List.length_range]at this
           rw[ea];exact this
         · refine⟨by simpa using Nat.le_trans hlc hcm,CP.2 fun x hx=>?_⟩
           obtain⟨i,hi⟩:=List.mem_iff_getElem?.1 hx
           obtain⟨hi',rfl⟩:=hxs i x hi
           exact(sH ha.1 (hfg i hi').2).2.2
   · -- a struct
     rename_i fs hu
     simp only[Bool.and_eq_true]at ha
     have es:(aX P (n+1) t).2=fs.toList.flatMap fun f=>(aX P n f.type).2:=by (conv=>lhs;unfold aX);rw[hu]
     rw[es]
     obtain⟨xs,m,hm,_,hl,hxl,hget⟩:=DataW.trod_struct hu h
     cases hm
     have htot:=Nat.eq_of_beq_eq_true ha.2
     have key : ∀ (l : List Field) (o : Nat),kN.go P n o l = true → (∀ f ∈ l,∃ y,DataW.trod enc P w base sp held fuel f.type ((cs.drop f.offset).take (P.cellsOf f.type)) = some y) → o + kN.sum P l = cs.length →
         ∃ ps,I4 w M (l.flatMap fun f=>(aX P n f.type).2) (cs.drop o) ps:=by
       intro l
       induction l with
       | nil =>
        intro o _ _ ho
        simp only[kN.sum,Nat.add_zero]at ho
        refine⟨[],rfl,?_,fun i p h=>by simp at h,trivial⟩
        simp[ho]
       | cons f r ihl =>
        intro o hg hm ho
        simp only[kN.go,Bool.and_eq_true,beq_iff_eq]at hg
        obtain⟨hoff,hf,hr⟩:=hg
        obtain⟨y,hy⟩:=hm f (by simp)
        rw[hoff]at hy
        obtain⟨p1,h1⟩:=ih n f.type _ y hy hf
        simp only[kN.sum]at ho
        obtain⟨p2,h2⟩:=ihl (o+P.cellsOf f.type) hr (fun g hg=>hm g (by simp[hg])) (by omega)
        refine⟨p1++p2,?_⟩
        have:=h1.append h2
        rw[← List.drop_drop]at this
        rwa[List.take_append_drop]at this
     obtain⟨ps,hps⟩:=key fs.toList 0 ha.1 (fun f hf=>by
      obtain⟨i,hi⟩:=List.mem_iff_getElem?.1 hf
      have hi':fs[i]?=some f:=by simpa using hi
      have hlt:i<xs.length:=by rw[hxl];exact(Array.getElem?_eq_some_iff.1 hi').1
      exact⟨xs[i],by rw[hget i f hi',List.getElem?_eq_getElem hlt]⟩) (by rw[Nat.zero_add,hl,htot])
     exact⟨ps,by simpa using hps⟩
   · -- an array
     rename_i m e hu
     simp only[Bool.and_eq_true]at ha
     have es:(aX P (n+1) t).2=(List.replicate m (aX P n e).2).flatten:=by (conv=>lhs;unfold aX);rw[hu]
     rw[es]
     have h':(if cs.length=P.cellsOf t then((List.range m).mapM fun i=>DataW.trod enc P w base sp held fuel e ((cs.drop (i*P.cellsOf e)).take (P.cellsOf e))).map fun xs=>((.agg (xs.map (·.1)):DataW H),xs.flatMap (·.2)) else none)=some x:=by
      rw[← h,DataW.trod_step]
      unfold DataW.trodStep
      rw[hu]
     clear h
     split at h'
     · rename_i hl
       simp only[Option.map_eq_some_iff]at h'
       obtain⟨xs,hxs,rfl⟩:=h'
       have htot:=Nat.eq_of_beq_eq_true ha.2
       have hel:∀ i,i<m→∃ ps,I4 w M (aX P n e).2 ((cs.drop (i*P.cellsOf e)).take (P.cellsOf e)) ps:=by
        intro i hi
        have h1:=mapM_some_get hxs i i (by simp[hi])
        have hl:=mapM_some_length hxs
        simp at hl
        rw[List.getElem?_eq_getElem (by omega)]at h1
        exact ih n e _ _ h1 ha.1
       have key:∀ (k:Nat),k≤m→∃ ps,I4 w M (List.replicate k (aX P n e).2).flatten (cs.drop ((m-k)*P.cellsOf e)) ps:=by
        intro k
        induction k with
        | zero =>
         intro _
         refine⟨[],rfl,?_,fun i p h=>by simp at h,trivial⟩
         simp[hl,htot]
        | succ k ihk =>
         intro hk
         obtain⟨p2,h2⟩:=ihk (by omega)
         obtain⟨p1,h1⟩:=hel (m-(k+1)) (by omega)
         refine⟨p1++p2,?_⟩
         have:=h1.append h2
         rw[List.replicate_succ,List.flatten_cons]
         have e1:m-k=m-(k+1)+1:=by omega
         rw[e1,Nat.add_mul,Nat.one_mul,← List.drop_drop,List.take_append_drop]at this
         exact this
       obtain⟨ps,hps⟩:=key m (Nat.le_refl m)
       exact⟨ps,by simpa using hps⟩
     · cases h'
   · cases ha
theorem X0 {w w':World} (hb:∀ b,b<w.heap.size→w'.heap[b]?=w.heap[b]?) {p:MemPlace} (hp:p.block<w.heap.size):w.sameAt w' p:=by
 cases p with
 | cell b off=>simp only[World.sameAt,World.cell?];rw[hb b hp]
 | map b=>exact hb b hp
theorem U6:∀ (fuel n:Nat) (t:TypeId) (cs:List Value) (x:DataW H × List MemPlace),DataW.trod enc P w base (fun _=>true) held fuel t cs=some x→kN P n t=true→(∀ p∈x.2,sp p.block=true)→DataW.trod enc P w base sp held fuel t cs=some x:=by
 intro fuel
 induction fuel with
 | zero=>intro n t cs x h;simp[DataW.trod]at h
 | succ fuel ih =>
  intro n t cs x h ha hs
  cases n with
  | zero=>simp[kN]at ha
  | succ n =>
   unfold kN at ha
   split at ha
   · rename_i k hu
     obtain⟨m,rfl,rfl,hw⟩:=DataW.trod_int hu h
     rw[DataW.trod_step];simp[DataW.trodStep,hu,hw]
   · rename_i hu
     obtain⟨b,rfl,rfl⟩:=DataW.trod_bool hu h
     rw[DataW.trod_step];simp[DataW.trodStep,hu]
   · rename_i hu
     obtain⟨s,rfl,rfl,hw⟩:=DataW.trod_string hu h
     rw[DataW.trod_step];simp[DataW.trodStep,hu,hw]
   · rename_i e hu
     simp only[Bool.and_eq_true]at ha
     have hpos:0<P.cellsOf e:=Nat.le_of_ble_eq_true ha.2.1
     rcases DataW.trod_slice hu h with ⟨rfl,rfl⟩ | ⟨a,len,cap,elems,rest,m,hm,rfl,rfl,hb,hlc,hcm,hel,hget,hrest,_⟩
     · rw[DataW.trod_step];simp[DataW.trodStep,hu]
     · cases hm
       obtain⟨hrl,hrg⟩:=hrest rfl
       rw[DataW.trod_step]at h ⊢
       unfold DataW.trodStep at h ⊢
       rw[hu]at h ⊢
       simp only[hb,hlc,hcm,and_self,if_true,Option.bind_eq_some_iff,Option.map_eq_some_iff]at h ⊢
       obtain⟨el,he,rs,hr,hd⟩:=h
       have hall:∀ y∈el++rs,∀ p∈y.2,sp p.block=true:=by
        intro y hy p hp
        refine hs p ?_
        rw[← (Prod.mk.inj hd).2]
        exact List.mem_append.2 (.inr (List.mem_flatMap.2 ⟨y,hy,hp⟩))
       refine⟨el,mapM_carry he fun i y hi hy hf=>?_,rs,?_,hd⟩
       · simp only[Option.bind_eq_some_iff]at hf ⊢
         obtain⟨cs',h1,h2⟩:=hf
         exact⟨cs',h1,ih n e cs' y h2 ha.1 (hall y (by simp[hy]))⟩
       · split
         · refine mapM_carry hr fun i y hi hy hf=>?_
           simp only[Option.bind_eq_some_iff]at hf ⊢
           obtain⟨cs',h1,h2⟩:=hf
           exact⟨cs',h1,ih n e cs' y h2 ha.1 (hall y (by simp[hy]))⟩
         · rename_i hsp
           by_cases hz:rs=[]
           · rw[hz]
           · exfalso
             refine hsp (hs (.cell a.block a.off) ?_)
             rw[← (Prod.mk.inj hd).2]
             refine List.mem_append.2 (.inl (MemPlace.mem_row.2 ⟨0,?_,by simp⟩))
             have:0<rs.length:=List.length_pos_iff.2 hz
             exact Nat.mul_pos (by omega) hpos
   · rename_i fs hu
     simp only[Bool.and_eq_true]at ha
     obtain⟨xs,m,hm,rfl,hl,hxl,hget⟩:=DataW.trod_struct hu h
     cases hm
     have h':(if cs.length=P.cellsOf t then(fs.toList.mapM fun f=>DataW.trod enc P w base (fun _=>true) held fuel f.type ((cs.drop f.offset).take (P.cellsOf f.type))).map fun xs=>((.agg (xs.map (·.1)):DataW H),xs.flatMap (·.2)) else none)=some (.agg (xs.map (·.1)),xs.flatMap (·.2)):=by
      rw[← h,DataW.trod_step]
      unfold DataW.trodStep
      rw[hu]
     rw[DataW.trod_step]
     unfold DataW.trodStep
     rw[hu]
     show (if cs.length=P.cellsOf t then(fs.toList.mapM fun f=>DataW.trod enc P w base sp held fuel f.type ((cs.drop f.offset).take (P.cellsOf f.type))).map fun xs=>((.agg (xs.map (·.1)):DataW H),xs.flatMap (·.2)) else none)=_
     rw[if_pos hl]at h' ⊢
     simp only[Option.map_eq_some_iff]at h' ⊢
     obtain⟨ys,hy,hd⟩:=h'
     have hfs:∀ (l:List Field) (o:Nat),kN.go P n o l=true→∀ f∈l,kN P n f.type=true:=by
      intro l
      induction l with
      | nil=>intro o _ f hf;simp at hf
      | cons g r ihl =>
       intro o hg f hf
       simp only[kN.go,Bool.and_eq_true]at hg
       rcases List.mem_cons.1 hf with rfl | hf
       · exact hg.2.1
       · exact ihl _ hg.2.2 f hf
     refine⟨ys,mapM_carry hy fun f y hf hy' h1=>ih n f.type _ y h1 (hfs _ _ ha.1 f hf) fun p hp=>hs p ?_,hd⟩
     rw[← (Prod.mk.inj hd).2]
     exact List.mem_flatMap.2 ⟨y,hy',hp⟩
   · rename_i m e hu
     simp only[Bool.and_eq_true]at ha
     have h':(if cs.length=P.cellsOf t then((List.range m).mapM fun i=>DataW.trod enc P w base (fun _=>true) held fuel e ((cs.drop (i*P.cellsOf e)).take (P.cellsOf e))).map fun xs=>((.agg (xs.map (·.1)):DataW H),xs.flatMap (·.2)) else none)=some x:=by
      rw[← h,DataW.trod_step]
      unfold DataW.trodStep
      rw[hu]
     rw[DataW.trod_step]
     unfold DataW.trodStep
     rw[hu]
     show (if cs.length=P.cellsOf t then((List.range m).mapM fun i=>DataW.trod enc P w base sp held fuel e ((cs.drop (i*P.cellsOf e)).take (P.cellsOf e))).map fun xs=>((.agg (xs.map (·.1)):DataW H),xs.flatMap (·.2)) else none)=_
     split at h'
     · rename_i hl
       rw[if_pos hl]
       simp only[Option.map_eq_some_iff]at h' ⊢
       obtain⟨ys,hy,hd⟩:=h'
       refine⟨ys,mapM_carry hy fun i y hi hy' h1=>ih n e _ y h1 ha.1 fun p hp=>hs p ?_,hd⟩
       rw[← hd]
       exact List.mem_flatMap.2 ⟨y,hy',hp⟩
     · cases h'
   · cases ha
inductive uZ (P:Program) (w:World) (M:Nat→Prop):List TypeId→List Value→List PV→Prop
 | nil:uZ P w M [] [] []
 | cons (t:TypeId) (ts:List TypeId) (v:Value) (vs:List Value) (x:PV) (xs:List PV) (h1:VR w M x v) (h2:aA (aX P 8 t).1 (aX P 8 t).2 x=true) (h3:x.wf) (h:uZ P w M ts vs xs):uZ P w M (t::ts) (v::vs) (x::xs)
theorem Z4 {b0 : Nat} (hM : ∀ b,b < w.heap.size → M b) {t : TypeId} {v : Value} {d : DataW H} {ps : List MemPlace} (ha : kN P 8 t = true) (hok : Value.okWide P w .any b0 t v) (h : DataW.Trod enc P w base sp held t v d ps) :
    ∃ x,VR w M x v∧aA (aX P 8 t).1 (aX P 8 t).2 x=true∧x.wf:=by
  obtain⟨fuel,h⟩:=h
  obtain⟨qs,hq⟩:=XZ hM fuel 8 t _ _ h ha
  obtain⟨e1,e2,e3⟩:=sH ha hq
  refine⟨_,?_,e1,e3⟩
  cases hs:(aX P 8 t).1 with
  | true =>
   have hagg:(∃ fs,P.underlying t=some (.struct fs))∨∃ m e,P.underlying t=some (.array m e):=by
    unfold aX at hs
    split at hs<;>first | (cases hs;done) | skip
    · exact .inl ⟨_,‹_›⟩
    · exact .inr ⟨_,_,‹_›⟩
   have hv:∃ cs,v=.agg cs:=by
    unfold Value.okWide at hok
    rcases hagg with ⟨fs,hu⟩ | ⟨m,e,hu⟩
    · rw[hu]at hok;obtain⟨cs,rfl,_⟩:=hok;exact⟨cs,rfl⟩
    · rw[hu]at hok;obtain⟨cs,rfl,_⟩:=hok;exact⟨cs,rfl⟩
   obtain⟨cs,rfl⟩:=hv
   have hc:(Value.agg cs).cells.toList=cs.toList:=rfl
   rw[hc]at hq
   refine .agg qs cs (by simpa using hq.2.1.symm) (fun c hc=>?_) fun i c hi=>?_
   · obtain⟨j,hj⟩:=List.mem_iff_getElem?.1 hc
     have hk:=eH hq.1
     have hjl:j<(aX P 8 t).2.length:=by rw[hk.1];exact(List.getElem?_eq_some_iff.1 hj).1
     exact iL (hk.2 j _ c (List.getElem?_eq_getElem hjl) hj)
   · have:=hq.2.2.1 i c hi
     rwa[List.getD_eq_getElem?_getD,Array.getElem?_toList,← Array.getD_eq_getD_getElem?]at this
  | false =>
   have h1:=Md ha hs
   have hk:=eH hq.1
   match qs,hq,hk with
   | [q],hq,hk =>
    have hl:q.leaf=true:=by
     refine iL (hk.2 0 ((aX P 8 t).2[0]'(by omega)) q (by simp) rfl)
    have hv:v.cells.toList=[v]:=by
     have hl1:=hq.2.1
     cases v<;>first | rfl | skip
     rename_i cs
     exfalso
     unfold Value.okWide at hok
     split at hok
     · rename_i fs hu
       unfold aX at hs
       rw[hu]at hs
       cases hs
     · rename_i m e hu
       unfold aX at hs
       rw[hu]at hs
       cases hs
     · rename_i hns hna
       unfold kN at ha
       split at ha<;>rename_i hu<;>first | (cases ha;done) | skip
       · obtain⟨m,hc,_⟩:=DataW.trod_int hu h
         simp[Value.cells]at hc
         unfold Cell.okWide Cell.ok at hok
         rw[hu]at hok
         simp at hok
       · unfold Cell.okWide Cell.ok at hok
         rw[hu]at hok
         simp at hok
       · unfold Cell.okWide Cell.ok at hok
         rw[hu]at hok
         simp at hok
       · unfold Cell.okWide Cell.ok at hok
         rw[hu]at hok
         simp at hok
       · exact hns _ hu
       · exact hna _ _ hu
    rw[hv]at hq
    simpa [xH] using hq.2.2.1 0 q rfl
   | [],hq,hk=>have:=hk.1;rw[h1]at this;simp at this
   | _::_::_,hq,hk=>have:=hk.1;rw[h1]at this;simp at this
theorem CZ {w' : World} (hb : ∀ b,b < w.heap.size → w'.heap[b]? = w.heap[b]?) : ∀ {ts : List TypeId} {vs : List Value} {ds : List (DataW H)} {ps : List MemPlace},DataW.TrodAll enc P w base (fun _ => true) held ts vs ds ps → (∀ t ∈ ts,kN P 8 t = true) →
    DataW.TrodAll enc P w' base (fun b=>decide (b<w.heap.size)) held ts vs ds ps
  | [],[],[],ps,h,_=>h
  | t::ts,v::vs,d::ds,ps,⟨p,q,h1,h2,e⟩,ha=>by
   refine⟨p,q,?_,CZ hb h2 (fun u hu=>ha u (by simp[hu])),e⟩
   obtain⟨fuel,h1⟩:=h1
   have hlt:=DataW.trod_lt _ _ _ _ h1
   exact⟨fuel,U6 fuel 8 t _ _ (DataW.trod_carry fuel t _ _ h1 fun p hp=>X0 hb (hlt p hp)) (ha t (by simp)) fun p hp=>by simpa using hlt p hp⟩
theorem NM {b0 : Nat} (hM : ∀ b,b < w.heap.size → M b) : ∀ {ts : List TypeId} {vs : List Value} {ds : List (DataW H)} {ps : List MemPlace},DataW.TrodAll enc P w base sp held ts vs ds ps → (∀ t ∈ ts,kN P 8 t = true) → (∀ (j : Nat) t v,ts[j]? = some t → vs[j]? = some v → Value.okWide P w .any b0 t v) →
    ∃ xs,uZ P w M ts vs xs
  | [],[],[],ps,_,_,_=>⟨[],.nil⟩
  | t::ts,v::vs,d::ds,ps,⟨p,q,h1,h2,e⟩,ha,hv=>by
   obtain⟨xs,hxs⟩:=NM hM h2 (fun u hu=>ha u (by simp[hu])) fun j t v h1 h2=>hv (j+1) t v (by simpa using h1) (by simpa using h2)
   obtain⟨x,e1,e2,e3⟩:=Z4 hM (ha t (by simp)) (hv 0 t v rfl rfl) h1
   exact⟨x::xs,.cons t ts v vs x xs e1 e2 e3 hxs⟩
theorem uZ.length {ts:List TypeId} {vs:List Value} {xs:List PV} (h:uZ P w M ts vs xs):xs.length=vs.length:=by
 induction h with
 | nil=>rfl
 | cons _ _ _ _ _ _ _ _ _ _ ih=>simp[ih]
theorem uZ.get {ts:List TypeId} {vs:List Value} {xs:List PV} (h:uZ P w M ts vs xs):∀ (i:Nat) (x:PV),xs[i]?=some x→∃ v,vs[i]?=some v∧VR w M x v:=by
 induction h with
 | nil=>intro i x h;simp at h
 | cons t ts v vs x xs h1 h2 h3 h ih =>
  intro i y hy
  cases i with
  | zero=>simp at hy;subst hy;exact⟨v,rfl,h1⟩
  | succ i=>simp at hy;simpa using ih i y hy
end
def Qp (P:Program):List (Nat × TI)→Prop
 | []=>True
 | (t,i)::r=>nO P t=some i∧Qp P r
structure aJ (P:Program) (T:Tab) (f:Nat) (fi:FI):Prop where
 fn:P.funcs[f]?=some fi.fn
 name : (fi.fn.name == "runtime.NumGoroutine") = false
 draws:(match fi.fn.body with | some c=>iD T fi.hides c | none=>true)=true
 flat:(fi.cfg.zD||(fi.cfg.shares||lT T fi.cfg.rets fi.fn.resultTypes.toList))=true
 nvars:Nat.ble fi.cfg.nvars 100000=true
def Qq (P:Program) (T:Tab):List (Nat × FI)→Prop
 | []=>True
 | (f,i)::r=>aJ P T f i∧Qq P T r
theorem II {P:Program}:∀ {l:List (Nat × TI)} {t:Nat} {i:TI},Qp P l→bG l t=some i→nO P t=some i
 | [],t,i,_,h=>by simp[bG]at h
 | (k,x)::r,t,i,hk,h=>by
  simp only[bG]at h
  cases he:k==t with
  | true =>
   rw[he]at h
   have e:k=t:=by simpa using he
   subst e
   cases h
   exact hk.1
  | false=>rw[he]at h;exact II hk.2 h
theorem Bz {P:Program} {T:Tab}:∀ {l:List (Nat × FI)} {f:Nat} {i:FI},Qq P T l→bG l f=some i→aJ P T f i
 | [],f,i,_,h=>by simp[bG]at h
 | (k,x)::r,f,i,hk,h=>by
  simp only[bG]at h
  cases he:k==f with
  | true =>
   rw[he]at h
   have e:k=f:=by simpa using he
   subst e
   cases h
   exact hk.1
  | false=>rw[he]at h;exact Bz hk.2 h
def OJ (P:Program) (T:Tab):Prop:=∀ f fi,bG T.funcs f=some fi→fi.cfg.zT.is=true→(∃ c,fi.fn.body=some c)∧VN P f fi.cfg.Gi fi.cfg.JR fi.cfg.zT
theorem Z5 {P:Program} {T:Tab} (h1:Qp P T.types) (h2:Qq P T T.funcs) (h3:P.follows .mixedOrders=true) (h4:OJ P T):bP P T:=by
 refine⟨fun t i h=>II h1 h,fun f fi h=>?_,h3,fun f fi h=>Nat.le_of_ble_eq_true (Bz h2 h).nvars,h4⟩
 have g:=Bz h2 h
 refine⟨g.fn,g.name,fun c hc=>?_,fun hb hs=>?_⟩
 · have:=g.draws
   rw[hc]at this
   exact this
 · have:=g.flat
   rw[hb,hs]at this
   exact this
end Go.Skm
