/-
  All paths of a program, plainly: what is known of each act of a valid program; the rows act by act; no condition beside those of each.
-/
import Derived.Test.YtfmoopdnamdobaaDoorAll3
namespace Go.Skm.Prg
open Go Go.Skm
def fromL (fr:List V3):List Ac→Nat→List V3
 | _,0=>fr
 | [],_+1=>fr
 | a::r,k+1=>fromL (a.mvs.map Mv.to) r k
theorem fromL_succ (fr:List V3):∀ (zs:List Ac) (k:Nat),k<zs.length→fromL fr zs (k+1)=(zs.getD k default).mvs.map Mv.to
 | [],k,h=>by simp at h
 | a::r,0,_=>by cases r<;>rfl
 | a::r,k+1,h=>by
  have hk:k<r.length:=by simpa using h
  have:=fromL_succ (a.mvs.map Mv.to) r k hk
  rw[List.getD_cons_succ,← this]
  rfl
theorem fromL_form (p:Pg) (k:Nat) (h:k≤p.acts.length):fromL p.homes p.acts k=formP p k:=by
 cases k with
 | zero=>cases hz:p.acts<;>rfl
 | succ k=>rw[fromL_succ _ _ _ (by omega),formP]
theorem acts_at (n : Nat) : ∀ (zs : List Ac) (t : Int) (fr : List V3) (cs : List Int),actsF n t fr cs zs = true → fr.length = n → cs.length = n → 0 ≤ t → t ≤ 3600000 → ∀ k,k < zs.length →
    (fromL fr zs k).length=n∧(zs.getD k default).mvs.length=n∧1≤(zs.getD k default).len∧0≤t+lenR (zs.take k)∧t+lenR (zs.take k)+(zs.getD k default).len≤3600000 ∧
      ∀ j,j<n→pt ((fromL fr zs k).getD j default)=true∧validM ((fromL fr zs k).getD j default) ((zs.getD k default).mvs.getD j default) (zs.getD k default).len=true
  | [],_,_,_,_,_,_,_,_,k,hk=>by simp at hk
  | a::r,t,fr,cs,h,hf,hc,h0,h1,k,hk=>by
   simp only[actsF,Bool.and_eq_true,decide_eq_true_eq]at h
   obtain⟨q1,q2,q3,q4,q5⟩:=h
   cases hq:cntF t a.len fr a.mvs cs with
   | none=>rw[hq]at q5;cases q5
   | some w =>
    rw[hq]at q5
    have hwl:=cnt_len _ _ _ _ _ _ (by omega) (by omega) hq
    cases k with
    | zero =>
     refine⟨hf,q4,q2,by simpa [lenR] using h0,?_,fun j hj=>?_⟩
     · simp only[List.take_zero,lenR,List.getD_cons_zero];omega
     · exact cnt_valid _ _ _ _ _ _ (by omega) (by omega) hq j (by omega)
    | succ k =>
     have ih:=acts_at n r (t+a.len) (a.mvs.map Mv.to) w q5 (by simp;omega) (by omega) (by omega) (by omega) k (by simpa using hk)
     simp only[List.getD_cons_succ,List.take_succ_cons,lenR]
     rw[← Int.add_assoc]
     exact ih
theorem trail_snoc (i : Nat) : ∀ (zs : List Ac) (t : Int) (fr : List V3) (k : Nat),k < zs.length →
    trailR i t fr (zs.take (k+1))=trailR i t fr (zs.take k)++pathS ((fromL fr zs k).getD i default) ((zs.getD k default).mvs.getD i default) (t+lenR (zs.take k)) (zs.getD k default).len
  | [],_,_,k,h=>by simp at h
  | a::r,t,fr,0,_=>by simp[trailR,lenR,fromL]
  | a::r,t,fr,k+1,h=>by
   have:=trail_snoc i r (t+a.len) (a.mvs.map Mv.to) k (by simpa using h)
   simp only[List.take_succ_cons,trailR,List.getD_cons_succ,lenR,List.append_assoc]at this ⊢
   rw[this,← Int.add_assoc]
   rfl
def rowsK (p:Pg) (k:Nat):List (List Sg):=(List.range p.names.length).map fun j=>trailR j 0 p.homes (p.acts.take k)
def pathsK (p:Pg) (k:Nat):List (List Sg):=(List.range p.names.length).map fun j=>pathS ((formP p k).getD j default) ((p.acts.getD k default).mvs.getD j default) (lenR (p.acts.take k)) (p.acts.getD k default).len
theorem rowsK_len (p:Pg) (k:Nat):(rowsK p k).length=p.names.length:=by simp[rowsK]
theorem pathsK_len (p:Pg) (k:Nat):(pathsK p k).length=p.names.length:=by simp[pathsK]
theorem rowsK_zero (p:Pg):rowsK p 0=List.replicate p.names.length []:=by
 rw[rowsK]
 apply List.ext_getElem
 · simp
 · intro j h1 h2
   simp[trailR]
theorem rowsK_end (p:Pg):rowsK p p.acts.length=(List.range p.names.length).map (pathP p):=by
 rw[rowsK,List.take_length];rfl
theorem addTo_getElem (qs ps:List (List Sg)) (h:ps.length=qs.length) (i:Nat) (hi:i<qs.length):(addTo qs ps)[i]'(by rw[addTo_len];exact hi)=qs[i]++ps[i]'(by omega):=by
 have h1:=addTo_get qs ps i
 rw[List.getD_eq_getElem?_getD,List.getElem?_eq_getElem (by rw[addTo_len];exact hi),Option.getD_some,List.getD_eq_getElem?_getD,List.getElem?_eq_getElem hi,Option.getD_some,if_pos hi,List.getD_eq_getElem?_getD,List.getElem?_eq_getElem (by omega),Option.getD_some]at h1
 exact h1
theorem rowsK_succ (p:Pg) (k:Nat) (hk:k<p.acts.length):addTo (rowsK p k) (pathsK p k)=rowsK p (k+1):=by
 apply List.ext_getElem
 · rw[addTo_len,rowsK_len,rowsK_len]
 · intro j h1 h2
   have hj:j<p.names.length:=by rw[rowsK_len]at h2;exact h2
   rw[addTo_getElem _ _ (by rw[pathsK_len,rowsK_len]) j (by rw[rowsK_len];exact hj)]
   simp only[rowsK,pathsK,List.getElem_map,List.getElem_range]
   rw[trail_snoc j p.acts 0 p.homes k hk,fromL_form p k (by omega),Int.zero_add]
theorem act_at {p : Pg} (hv : validP p = true) {k : Nat} (hk : k < p.acts.length) : (formP p k).length = p.names.length ∧ p.acts[k].mvs.length = p.names.length ∧ 1 ≤ p.acts[k].len ∧ 0 ≤ lenR (p.acts.take k) ∧ lenR (p.acts.take k) + p.acts[k].len ≤ 3600000 ∧
    gv (lenR (p.acts.take k)) p.acts[k].len (formP p k) p.acts[k].mvs=(pathsK p k).map pairP:=by
  obtain⟨⟨_,_,h1⟩,_,_,_⟩:=valid_of hv
  obtain⟨q1,q2,q3,q4,q5,q6⟩:=acts_at p.names.length p.acts 0 p.homes (List.replicate p.names.length 0) (by simp only[validP,Bool.and_eq_true]at hv;exact hv.2.2) h1 (by simp) (by omega) (by omega) k hk
  rw[fromL_form p k (by omega)]at q1 q6
  rw[acts_getD p hk]at q2 q3 q5 q6
  rw[Int.zero_add]at q4 q5
  refine⟨q1,q2,q3,q4,q5,?_⟩
  have key : ∀ (t len : Int) (vs : List V3) (ms : List Mv),vs.length = ms.length → 1 ≤ len → 0 ≤ t → t + len ≤ 3600000 → (∀ j,j < vs.length → pt (vs.getD j default) = true ∧ validM (vs.getD j default) (ms.getD j default) len = true) →
      gv t len vs ms=((List.range vs.length).map fun j=>pathS (vs.getD j default) (ms.getD j default) t len).map pairP:=by
    intro t len vs
    induction vs with
    | nil=>intro ms _ _ _ _ _;rfl
    | cons v vs ih =>
     intro ms hl c1 c2 c3 hj
     cases ms with
     | nil=>simp at hl
     | cons m ms =>
      obtain⟨e1,e2⟩:=hj 0 (by simp)
      simp only[List.getD_cons_zero]at e1 e2
      have hR:=pathR_of v m t len e1 c1 c2 c3
      rw[if_pos e2]at hR
      rw[gv,hR,ih ms (by simpa using hl) c1 c2 c3 fun j hj'=>by
       have:=hj (j+1) (by simpa using hj')
       simpa only[List.getD_cons_succ] using this]
      rw[List.length_cons,List.range_succ_eq_map,List.map_cons,List.map_cons]
      refine congrArg (List.cons _) ?_
      rw[List.map_map,List.map_map,List.map_map]
      rfl
  rw[key _ _ _ _ (by omega) q3 q4 q5 (fun j hj=>q6 j (by omega)),pathsK,q1,acts_getD p hk]
theorem path_ne (a:V3) (m:Mv) (t len:Int) (h:1≤len):pathS a m t len≠[]:=by
 unfold pathS
 split
 · rw[stayS,if_neg (by omega)];simp
 · split
   · simp
   · simp[arcS]
theorem pathsK_ne {p:Pg} (hv:validP p=true) {k:Nat} (hk:k<p.acts.length):∀ q∈pathsK p k,q≠[]:=by
 intro q hq
 obtain⟨j,_,rfl⟩:=List.mem_map.1 hq
 have:=(act_at hv hk).2.2.1
 rw[acts_getD p hk]
 exact path_ne _ _ _ _ this
theorem rowsK_le (p:Pg) (k:Nat) (hk:k≤p.acts.length) (j:Nat):((rowsK p k).getD j []).length≤5*k:=by
 by_cases hj:j<p.names.length
 · have : (rowsK p k).getD j [] = trailR j 0 p.homes (p.acts.take k) := by
     rw[List.getD_eq_getElem?_getD,List.getElem?_eq_getElem (by rw[rowsK_len];exact hj)];simp[rowsK]
   rw[this]
   have:=trail_len j (p.acts.take k) 0 p.homes
   rw[List.length_take]at this
   omega
 · rw[List.getD_eq_getElem?_getD,List.getElem?_eq_none (by rw[rowsK_len];omega)]
   simp
theorem pathsK_le (p:Pg) (k j:Nat):((pathsK p k).getD j []).length≤5:=by
 by_cases hj:j<p.names.length
 · have : (pathsK p k).getD j [] = pathS ((formP p k).getD j default) ((p.acts.getD k default).mvs.getD j default) (lenR (p.acts.take k)) (p.acts.getD k default).len := by
     rw[List.getD_eq_getElem?_getD,List.getElem?_eq_getElem (by rw[pathsK_len];exact hj)];simp[pathsK]
   rw[this]
   exact path_len _ _ _ _
 · rw[List.getD_eq_getElem?_getD,List.getElem?_eq_none (by rw[pathsK_len];omega)]
   simp
end Go.Skm.Prg
