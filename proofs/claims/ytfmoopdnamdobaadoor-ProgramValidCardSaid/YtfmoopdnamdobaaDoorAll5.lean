import Derived.Test.YtfmoopdnamdobaaDoorAll3
namespace Go.Skm.Prg
open Go Go.Skm
def Ir (fr:List V3):List Ac→Nat→List V3
 | _,0=>fr
 | [],_+1=>fr
 | a::r,k+1=>Ir (a.iw.map Mv.to) r k
theorem JY (fr:List V3):∀ (zs:List Ac) (k:Nat),k<zs.length→Ir fr zs (k+1)=(zs.getD k default).iw.map Mv.to
 | [],k,h=>by simp at h
 | a::r,0,_=>by cases r<;>rfl
 | a::r,k+1,h=>by
  have hk:k<r.length:=by simpa using h
  have:=JY (a.iw.map Mv.to) r k hk
  rw[List.getD_cons_succ,← this]
  rfl
theorem JZ (p:Pg) (k:Nat) (h:k≤p.acts.length):Ir p.homes p.acts k=iV p k:=by
 cases k with
 | zero=>cases hz:p.acts<;>rfl
 | succ k=>rw[JY _ _ _ (by omega),iV]
theorem VP (n : Nat) : ∀ (zs : List Ac) (t : Int) (fr : List V3) (cs : List Int),Ad n t fr cs zs = true → fr.length = n → cs.length = n → 0 ≤ t → t ≤ 3600000 → ∀ k,k < zs.length →
    (Ir fr zs k).length=n∧(zs.getD k default).iw.length=n∧1≤(zs.getD k default).len∧0≤t+jq (zs.take k)∧t+jq (zs.take k)+(zs.getD k default).len≤3600000 ∧
      ∀ j,j<n→pt ((Ir fr zs k).getD j default)=true∧lY ((Ir fr zs k).getD j default) ((zs.getD k default).iw.getD j default) (zs.getD k default).len=true
  | [],_,_,_,_,_,_,_,_,k,hk=>by simp at hk
  | a::r,t,fr,cs,h,hf,hc,h0,h1,k,hk=>by
   simp only[Ad,qBa,qDa]at h
   obtain⟨q1,q2,q3,q4,q5⟩:=h
   cases hq:cntF t a.len fr a.iw cs with
   | none=>rw[hq]at q5;cases q5
   | some w =>
    rw[hq]at q5
    have hwl:=Jz _ _ _ _ _ _ (by omega) (by omega) hq
    cases k with
    | zero =>
     refine⟨hf,q4,q2,by simpa [jq] using h0,?_,fun j hj=>?_⟩
     · simp only[List.take_zero,jq,List.getD_cons_zero];omega
     · exact Oa _ _ _ _ _ _ (by omega) (by omega) hq j (by omega)
    | succ k =>
     have ih:=VP n r (t+a.len) (a.iw.map Mv.to) w q5 (by simp;omega) (by omega) (by omega) (by omega) k (by simpa using hk)
     simp only[List.getD_cons_succ,List.take_succ_cons,jq]
     rw[← Int.add_assoc]
     exact ih
theorem J3 (i : Nat) : ∀ (zs : List Ac) (t : Int) (fr : List V3) (k : Nat),k < zs.length →
    rW i t fr (zs.take (k+1))=rW i t fr (zs.take k)++qY ((Ir fr zs k).getD i default) ((zs.getD k default).iw.getD i default) (t+jq (zs.take k)) (zs.getD k default).len
  | [],_,_,k,h=>by simp at h
  | a::r,t,fr,0,_=>by simp[rW,jq,Ir]
  | a::r,t,fr,k+1,h=>by
   have:=J3 i r (t+a.len) (a.iw.map Mv.to) k (by simpa using h)
   simp only[List.take_succ_cons,rW,List.getD_cons_succ,jq,List.append_assoc]at this ⊢
   rw[this,← Int.add_assoc]
   rfl
def lN (p:Pg) (k:Nat):List (List Sg):=(List.range p.names.length).map fun j=>rW j 0 p.homes (p.acts.take k)
def rU (p:Pg) (k:Nat):List (List Sg):=(List.range p.names.length).map fun j=>qY ((iV p k).getD j default) ((p.acts.getD k default).iw.getD j default) (jq (p.acts.take k)) (p.acts.getD k default).len
theorem lG (p:Pg) (k:Nat):(lN p k).length=p.names.length:=by simp[lN]
theorem uI (p:Pg) (k:Nat):(rU p k).length=p.names.length:=by simp[rU]
theorem Ul (p:Pg):lN p 0=List.replicate p.names.length []:=by
 rw[lN]
 apply List.ext_getElem
 · simp
 · intro j h1 h2
   simp[rW]
theorem Xe (p:Pg):lN p p.acts.length=(List.range p.names.length).map (Fj p):=by
 rw[lN,List.take_length];rfl
theorem Nv (qs ps:List (List Sg)) (h:ps.length=qs.length) (i:Nat) (hi:i<qs.length):(kK qs ps)[i]'(by rw[yA];exact hi)=qs[i]++ps[i]'(by omega):=by
 have h1:=G5 qs ps i
 rw[qLb,qLd (by rw[yA];exact hi),Option.getD_some,qLb,qLd hi,Option.getD_some,if_pos hi,qLb,qLd (by omega),Option.getD_some]at h1
 exact h1
theorem Um (p:Pg) (k:Nat) (hk:k<p.acts.length):kK (lN p k) (rU p k)=lN p (k+1):=by
 apply List.ext_getElem
 · rw[yA,lG,lG]
 · intro j h1 h2
   have hj:j<p.names.length:=by rw[lG]at h2;exact h2
   rw[Nv _ _ (by rw[uI,lG]) j (by rw[lG];exact hj)]
   simp only[lN,rU,List.getElem_map,List.getElem_range]
   rw[J3 j p.acts 0 p.homes k hk,JZ p k (by omega),Int.zero_add]
theorem Uj {p : Pg} (hv : dV p = true) {k : Nat} (hk : k < p.acts.length) : (iV p k).length = p.names.length ∧ p.acts[k].iw.length = p.names.length ∧ 1 ≤ p.acts[k].len ∧ 0 ≤ jq (p.acts.take k) ∧ jq (p.acts.take k) + p.acts[k].len ≤ 3600000 ∧
    gv (jq (p.acts.take k)) p.acts[k].len (iV p k) p.acts[k].iw=(rU p k).map JU:=by
  obtain⟨⟨_,_,h1⟩,_,_,_⟩:=yt hv
  obtain⟨q1,q2,q3,q4,q5,q6⟩:=VP p.names.length p.acts 0 p.homes (List.replicate p.names.length 0) (by simp only[dV,qBa]at hv;exact hv.2.2) h1 (by simp) (by omega) (by omega) k hk
  rw[JZ p k (by omega)]at q1 q6
  rw[oJ p hk]at q2 q3 q5 q6
  rw[Int.zero_add]at q4 q5
  refine⟨q1,q2,q3,q4,q5,?_⟩
  have key : ∀ (t len : Int) (vs : List V3) (ms : List Mv),vs.length = ms.length → 1 ≤ len → 0 ≤ t → t + len ≤ 3600000 → (∀ j,j < vs.length → pt (vs.getD j default) = true ∧ lY (vs.getD j default) (ms.getD j default) len = true) →
      gv t len vs ms=((List.range vs.length).map fun j=>qY (vs.getD j default) (ms.getD j default) t len).map JU:=by
    intro t len vs
    induction vs with
    | nil=>intro ms _ _ _ _ _;rfl
    | cons v vs ih =>
     intro ms hl c1 c2 c3 hj
     cases ms with
     | nil=>simp at hl
     | cons m ms =>
      obtain⟨e1,e2⟩:=hj 0 (by simp)
      simp only[List.getD_cons_zero]at e1 e2
      have hR:=Rh v m t len e1 c1 c2 c3
      rw[if_pos e2]at hR
      rw[gv,hR,ih ms (by simpa using hl) c1 c2 c3 fun j hj'=>by
       have:=hj (j+1) (by simpa using hj')
       simpa only[List.getD_cons_succ] using this]
      rw[List.length_cons,List.range_succ_eq_map,List.map_cons,List.map_cons]
      refine congrArg (List.cons _) ?_
      rw[List.map_map,List.map_map,List.map_map]
      rfl
  rw[key _ _ _ _ (by omega) q3 q4 q5 (fun j hj=>q6 j (by omega)),rU,q1,oJ p hk]
theorem aaK (a:V3) (m:Mv) (t len:Int) (h:1≤len):qY a m t len≠[]:=by
 unfold qY
 split
 · rw[lg,if_neg (by omega)];simp
 · split
   · simp
   · simp[Nw]
theorem Xb {p:Pg} (hv:dV p=true) {k:Nat} (hk:k<p.acts.length):∀ q∈rU p k,q≠[]:=by
 intro q hq
 obtain⟨j,_,rfl⟩:=List.mem_map.1 hq
 have:=(Uj hv hk).2.2.1
 rw[oJ p hk]
 exact aaK _ _ _ _ this
theorem Yv (p:Pg) (k:Nat) (hk:k≤p.acts.length) (j:Nat):((lN p k).getD j []).length≤5*k:=by
 by_cases hj:j<p.names.length
 · have : (lN p k).getD j [] = rW j 0 p.homes (p.acts.take k) := by
     rw[qLb,qLd (by rw[lG];exact hj)];simp[lN]
   rw[this]
   have:=Ob j (p.acts.take k) 0 p.homes
   rw[List.length_take]at this
   omega
 · rw[qLb,List.getElem?_eq_none (by rw[lG];omega)]
   simp
theorem Xc (p:Pg) (k j:Nat):((rU p k).getD j []).length≤5:=by
 by_cases hj:j<p.names.length
 · have : (rU p k).getD j [] = qY ((iV p k).getD j default) ((p.acts.getD k default).iw.getD j default) (jq (p.acts.take k)) (p.acts.getD k default).len := by
     rw[qLb,qLd (by rw[uI];exact hj)];simp[rU]
   rw[this]
   exact Fp _ _ _ _
 · rw[qLb,List.getElem?_eq_none (by rw[uI];omega)]
   simp
end Go.Skm.Prg
