/-
  The paths of a valid program, in the document; paths that are the same; condition: a valid program of moderate size.
-/
import Derived.Test.YtfmoopdnamdobaaDoorP9
namespace Go.Skm.Prg
open Go Go.Skm
def trailR (i:Nat):Int→List V3→List Ac→List Sg
 | _,_,[]=>[]
 | t,fr,a::r=>pathS (fr.getD i default) (a.mvs.getD i default) t a.len++trailR i (t+a.len) (a.mvs.map Mv.to) r
def pathP (p:Pg) (i:Nat):List Sg:=trailR i 0 p.homes p.acts
def allL (l:List (List Sg)):List PV:=l.map fun s=>.list true kSg (eP s)
def allP (p:Pg):List PV:=allL ((List.range p.names.length).map (pathP p))
structure AllOk (X:Ext):Prop where
 c47:∀ p,Small p→validP p=true→run tab X 47 [.p (eG p)] []=some ([.fresh false [.slice true kSg] (allP p)],[])
theorem gdef {α:Type} [Inhabited α] (l:List α) {i:Nat} (h:i<l.length):l.getD i default=l[i]:=by
 rw[List.getD_eq_getElem?_getD];simp[h]
theorem trail_len (i:Nat):∀ (zs:List Ac) (t:Int) (fr:List V3),(trailR i t fr zs).length≤5*zs.length
 | [],_,_=>by simp[trailR]
 | a::r,t,fr=>by
  have h1:=path_len (fr.getD i default) (a.mvs.getD i default) t a.len
  have h2:=trail_len i r (t+a.len) (a.mvs.map Mv.to)
  simp only[trailR,List.length_append,List.length_cons];omega
theorem cnt_valid (t len:Int):∀ (vs:List V3) (ms:List Mv) (cs cs':List Int),vs.length=cs.length→ms.length=cs.length→cntF t len vs ms cs=some cs'→∀ i,i<cs.length→pt (vs.getD i default)=true∧validM (vs.getD i default) (ms.getD i default) len=true
 | v::vs,m::ms,c::cs,cs',h1,h2,h=>by
  simp only[cntF]at h
  split at h
  · next h0 =>
    split at h
    · obtain⟨w,hw,rfl⟩:=Option.map_eq_some_iff.1 h
      simp only[List.length_cons,Nat.add_right_cancel_iff]at h1 h2
      have ih:=cnt_valid t len vs ms cs w h1 h2 hw
      intro i hi
      cases i with
      | zero =>
       unfold pathR at h0
       split at h0
       · next h5 =>
         simp only[Bool.and_eq_true]at h5
         exact⟨h5.1,h5.2.2.2.2⟩
       · simp at h0
      | succ i=>exact ih i (by simpa using hi)
    · cases h
  · cases h
 | _,_,[],_,_,_,_=>by intro i hi;simp at hi
 | [],_,_::_,_,h,_,_=>by simp at h
 | _::_,[],_::_,_,_,h,_=>by simp at h
section
variable (X:Ext) (hX:Mine X)
include hX
theorem l67 (a : List Int) (ha : a.length ≤ 1000) : ∀ (k i : Nat),i + k = a.length →
    L tab (run tab X) 67 [] [.lp [1,1,0,1,0]] (S67_11010 (encI a) (encI a) i)=some ([.p (.bool true)],[]):=by
  have _ := hX
  intro k
  induction k with
  | zero =>
   intro i hi
   refine L_of ?_
   rw[e67_11010,condD,encI_length,if_neg (by omega)]
  | succ k ih =>
   intro i hi
   have h1:i<a.length:=by omega
   refine L_of ?_
   rw[e67_11010]
   simp only[condA,condD,condN,Int.toNat_natCast,encI_length]
   rw[if_pos (by omega),if_pos (by omega),if_pos (by omega),if_pos (by omega),if_pos (by omega),if_pos trivial,i64_succ i (by omega),ih (i+1) (by omega)]
theorem c67 (a:List Int) (ha:a.length≤1000):run tab X 67 [.p (.list false [.int .i64] (encI a)),.p (.list false [.int .i64] (encI a))] []=some ([.p (.bool true)],[]):=by
 refine run_of (hX _ rfl) ?_
 rw[e67,condN,if_pos rfl]
 exact(show L tab (run tab X) 67 [] [.lp [1,1,0,1,0]] (S67_11010 (encI a) (encI a) (0:Nat))=_ from l67 X hX a ha a.length 0 (by omega))
theorem c48 (s:Sg) (hs:s.X.length≤1000∧s.Y.length≤1000∧s.Z.length≤1000):run tab X 48 [.p (eS s),.p (eS s)] []=some ([.p (.bool true)],[]):=by
 refine run_of (hX _ rfl) ?_
 rw[eS,e48]
 simp only[condE,if_true,c67 X hX s.X hs.1,c67 X hX s.Y hs.2.1,c67 X hX s.Z hs.2.2,Option.bind_some,List.headD_cons,pv_p,toBool_bool,cond_true]
theorem l27 (a : List Sg) (ha : a.length ≤ 1000) (hs : ∀ s ∈ a,s.X.length ≤ 1000 ∧ s.Y.length ≤ 1000 ∧ s.Z.length ≤ 1000) : ∀ (k i : Nat),i + k = a.length →
    L tab (run tab X) 27 [] [.lp [1,1,0,1,0]] (S27_11010 (eP a) (eP a) i)=some ([.p (.bool true)],[]):=by
  intro k
  induction k with
  | zero =>
   intro i hi
   refine L_of ?_
   rw[e27_11010,condD,eP_length,if_neg (by omega)]
  | succ k ih =>
   intro i hi
   have h1:i<a.length:=by omega
   have hg:(eP a).getD i .nil=eS a[i]:=getm _ a h1
   refine L_of ?_
   rw[e27_11010]
   simp only[condA,condD,Int.toNat_natCast,eP_length,hg,eS_cells]
   rw[if_pos (by omega),if_pos (by omega),if_pos (by omega),if_pos (by omega),if_pos (by omega),c48 X hX a[i] (hs _ (List.getElem_mem h1))]
   simp only[Option.bind_some,List.headD_cons,pv_p,toBool_bool,Bool.not_true,cond_false]
   rw[i64_succ i (by omega),ih (i+1) (by omega)]
theorem c27 (a:List Sg) (ha:a.length≤1000) (hs:∀ s∈a,s.X.length≤1000∧s.Y.length≤1000∧s.Z.length≤1000):run tab X 27 [.p (.list true kSg (eP a)),.p (.list true kSg (eP a))] []=some ([.p (.bool true)],[]):=by
 refine run_of (hX _ rfl) ?_
 rw[e27,condN,if_pos rfl]
 exact(show L tab (run tab X) 27 [] [.lp [1,1,0,1,0]] (S27_11010 (eP a) (eP a) (0:Nat))=_ from l27 X hX a ha hs a.length 0 (by omega))
theorem l29 (a : List (List Sg)) (ha : a.length ≤ 1000) (hs : ∀ q ∈ a,q.length ≤ 1000 ∧ ∀ s ∈ q,s.X.length ≤ 1000 ∧ s.Y.length ≤ 1000 ∧ s.Z.length ≤ 1000) : ∀ (k i : Nat),i + k = a.length →
    L tab (run tab X) 29 [] [.lp [1,1,0,1,0]] (S29_11010 (allL a) (allL a) i)=some ([.p (.bool true)],[]):=by
  have hal:(allL a).length=a.length:=by simp[allL]
  intro k
  induction k with
  | zero =>
   intro i hi
   refine L_of ?_
   rw[e29_11010,condD,hal,if_neg (by omega)]
  | succ k ih =>
   intro i hi
   have h1:i<a.length:=by omega
   have hg:(allL a).getD i .nil=.list true kSg (eP a[i]):=getm _ a h1
   have hc:((PV.list true kSg (eP a[i])).cell 0).toList=eP a[i]:=rfl
   obtain⟨q1,q2⟩:=hs a[i] (List.getElem_mem h1)
   refine L_of ?_
   rw[e29_11010]
   simp only[condA,condD,Int.toNat_natCast,hal,hg,hc]
   rw[if_pos (by omega),if_pos (by omega),if_pos (by omega),if_pos (by omega),if_pos (by omega),c27 X hX a[i] q1 q2]
   simp only[Option.bind_some,List.headD_cons,pv_p,toBool_bool,Bool.not_true,cond_false]
   rw[i64_succ i (by omega),ih (i+1) (by omega)]
theorem c29 (a:List (List Sg)) (ha:a.length≤1000) (hs:∀ q∈a,q.length≤1000∧∀ s∈q,s.X.length≤1000∧s.Y.length≤1000∧s.Z.length≤1000):run tab X 29 [.p (.list false [.slice true kSg] (allL a)),.p (.list false [.slice true kSg] (allL a))] []=some ([.p (.bool true)],[]):=by
 refine run_of (hX _ rfl) ?_
 rw[e29,condN,if_pos rfl]
 exact(show L tab (run tab X) 29 [] [.lp [1,1,0,1,0]] (S29_11010 (allL a) (allL a) (0:Nat))=_ from l29 X hX a ha hs a.length 0 (by omega))
theorem l26 (p : Pg) (hp : Small p) (h1 : ∀ a ∈ p.acts,1 ≤ a.len) : ∀ (k i : Nat) (n : Int),i + k = p.acts.length → 0 ≤ n → n + lenR (p.acts.drop i) ≤ 3600000 →
    L tab (run tab X) 26 [] [.lp [1,1,0,1,0]] (S26_11010 n i (eN p.names) (encL p.homes) (eAs p.acts))=some ([.p (.int .i64 (n+lenR (p.acts.drop i)))],[]):=by
  have _ := hX
  have ha:=hp.acts
  intro k
  induction k with
  | zero =>
   intro i n hi h0 hn
   refine L_of ?_
   rw[e26_11010,condD,eAs_length,if_neg (by omega),show p.acts.drop i=[] from List.drop_eq_nil_iff.2 (by omega)]
   simp[lenR]
  | succ k ih =>
   intro i n hi h0 hn
   have hlt:i<p.acts.length:=by omega
   have e2:((eA p.acts[i]).cell 1).toInt=p.acts[i].len:=rfl
   have hl:=h1 p.acts[i] (List.getElem_mem hlt)
   have hd:=lenR_drop p.acts hlt
   have hr:=lenR_nonneg (p.acts.drop (i+1)) (fun b hb=>h1 b (List.mem_of_mem_drop hb))
   refine L_of ?_
   rw[e26_11010]
   simp only[condA,condD,Int.toNat_natCast,eAs_length,eAs_get p.acts hlt,e2]
   rw[if_pos (by omega),if_pos (by omega),if_pos (by omega),wrap_eq (x:=n+p.acts[i].len) (by omega) (by omega),i64_succ i (by omega),ih (i+1) (n+p.acts[i].len) (by omega) (by omega) (by omega),hd]
   rw[Int.add_assoc]
theorem c26 (p:Pg) (hp:Small p) (hv:validP p=true):run tab X 26 [.p (eG p)] []=some ([.p (.int .i64 (lenP p))],[]):=by
 obtain⟨_,_,h3,h4⟩:=valid_of hv
 refine run_of (hX _ rfl) ?_
 have:=l26 X hX p hp (fun a ha=>(h3 a ha).2.1) p.acts.length 0 0 (by omega) (by omega) (by simpa [lenP] using h4)
 rw[eG,e26]
 refine(show L tab (run tab X) 26 [] [.lp [1,1,0,1,0]] (S26_11010 0 (0:Nat) (eN p.names) (encL p.homes) (eAs p.acts))=_ from this).trans ?_
 simp[lenP]
theorem l28 (p : Pg) (hp : Small p) (n : Nat) (j : Nat) (hj : j < n) : ∀ (k i : Nat) (t : Int) (many : List Int) (ws : List Sg),i + k = p.acts.length → many.length = n → (formP p i).length = n → 0 ≤ t → t ≤ 3600000 → ws.length ≤ 5 * i → actsF n t (formP p i) many (p.acts.drop i) = true →
    L tab (run tab X) 28 [] [.lp [1,1,1,0,1,0]] (S28_111010 j 0 ws.length t i (eN p.names) (encL p.homes) (eAs p.acts) (eP ws))=some ([.fresh true kSg (eP (ws++trailR j t (formP p i) (p.acts.drop i)))],[]):=by
  have ha:=hp.acts
  intro k
  induction k with
  | zero =>
   intro i t many ws hi _ _ _ _ _ _
   refine L_of ?_
   rw[e28_111010,condD,eAs_length,if_neg (by omega),show p.acts.drop i=[] from List.drop_eq_nil_iff.2 (by omega),eP_take]
   simp[trailR]
  | succ k ih =>
   intro i t many ws hi hm hf ht0 ht1 hw hv
   have hlt:i<p.acts.length:=by omega
   rw[List.drop_eq_getElem_cons hlt]at hv ⊢
   simp only[actsF,Bool.and_eq_true,decide_eq_true_eq]at hv
   obtain⟨h1,h2,h3,h4,h5⟩:=hv
   cases hq:cntF t p.acts[i].len (formP p i) p.acts[i].mvs many with
   | none=>rw[hq]at h5;cases h5
   | some w =>
    rw[hq]at h5
    have hwl:=cnt_len _ _ _ _ _ _ (by omega) (by omega) hq
    obtain⟨hpa,hva⟩:=cnt_valid _ _ _ _ _ _ (by omega) (by omega) hq j (by omega)
    have hfs:formP p (i+1)=p.acts[i].mvs.map Mv.to:=by rw[formP,acts_getD p hlt]
    have e2:((eA p.acts[i]).cell 1).toInt=p.acts[i].len:=rfl
    have e3:((eA p.acts[i]).cell 2).toList=eMs p.acts[i].mvs:=rfl
    have hj1:j<(formP p i).length:=by omega
    have hj2:j<p.acts[i].mvs.length:=by omega
    rw[gdef _ hj1,gdef _ hj2]at hva
    rw[gdef _ hj1]at hpa
    have ev:(PV.agg [.int .i64 ((encV (formP p i)[j]).cell 0).toInt,.int .i64 ((encV (formP p i)[j]).cell 1).toInt,.int .i64 ((encV (formP p i)[j]).cell 2).toInt])=encV (formP p i)[j]:=rfl
    have em:(PV.agg [.int .i64 ((eM p.acts[i].mvs[j]).cell 0).toInt,.int .i64 ((eM p.acts[i].mvs[j]).cell 1).toInt,.int .i64 ((eM p.acts[i].mvs[j]).cell 2).toInt,.int .i64 ((eM p.acts[i].mvs[j]).cell 3).toInt,.int .i64 ((eM p.acts[i].mvs[j]).cell 4).toInt,.int .i64 ((eM p.acts[i].mvs[j]).cell 5).toInt])=eM p.acts[i].mvs[j]:=rfl
    have h17:=c17 X hX p hp i (by omega)
    rw[eG]at h17
    have hpl:=path_len (formP p i)[j] p.acts[i].mvs[j] t p.acts[i].len
    have hn:=hp.act p.acts[i] (List.getElem_mem hlt)
    refine L_of ?_
    rw[e28_111010]
    simp only[Int.toNat_natCast,eAs_length,eAs_get p.acts hlt,e2,e3,h17,Option.bind_some,List.headD_cons,freshList_fresh,encL_length,eMs_length,Nat.zero_add,encL_at _ hj1,eMs_get _ hj2,ev,em]
    rw[c44 X hX _ _ _ _ hpa hva ht0 (by omega)]
    simp only[Option.bind_some,List.headD_cons,freshList_fresh,eP_length,condA,condD]
    rw[if_pos (by omega),if_pos (by omega),if_pos (by omega),if_pos (by omega),if_pos (by omega),if_pos (by omega),if_pos (by omega),if_pos (by omega),if_pos (by omega),if_pos (by omega),if_pos (by omega),if_pos (by omega),i64_succ i (by omega),wrap_eq (x:=t+p.acts[i].len) (by omega) (by omega),eP_take,eP_take,eP_append]
    have:=ih (i+1) (t+p.acts[i].len) w (ws++pathS (formP p i)[j] p.acts[i].mvs[j] t p.acts[i].len) (by omega) (by omega) (by rw[hfs];simp;omega) (by omega) (by omega) (by simp only[List.length_append];omega) (by rw[hfs];exact h5)
    rw[List.length_append]at this
    rw[this,hfs,trailR,gdef _ hj1,gdef _ hj2]
    simp
theorem c28 (p:Pg) (hp:Small p) (hv:validP p=true) (j:Nat) (hj:j<p.names.length):run tab X 28 [.p (eG p),.p (.int .i64 j)] []=some ([.fresh true kSg (eP (pathP p j))],[]):=by
 obtain⟨h1,_,h3,h4⟩:=valid_of hv
 refine run_of (hX _ rfl) ?_
 have:=l28 X hX p hp p.names.length j hj p.acts.length 0 0 (List.replicate p.names.length 0) [] (by omega) (by simp) (by rw[formP];omega) (by omega) (by omega) (by simp) (by
  simp only[validP,Bool.and_eq_true]at hv
  exact hv.2.2)
 rw[eG,e28]
 exact(show L tab (run tab X) 28 [] [.lp [1,1,1,0,1,0]] (S28_111010 j 0 0 0 (0:Nat) (eN p.names) (encL p.homes) (eAs p.acts) [])=_ from this)
theorem l30 (p : Pg) (hp : Small p) (hv : validP p = true) : ∀ (k i : Nat),i + k = p.names.length →
    L tab (run tab X) 30 [] [.lp [1,1,0,1,0]] (S30_11010 0 i i (eN p.names) (encL p.homes) (eAs p.acts) (allL ((List.range i).map (pathP p))))=some ([.fresh false [.slice true kSg] (allP p)],[]):=by
  have hn:=hp.names
  intro k
  induction k with
  | zero =>
   intro i hi
   have hl:(allL ((List.range i).map (pathP p))).length=i:=by simp[allL]
   refine L_of ?_
   rw[e30_11010,condD,eN_length,if_neg (by omega)]
   have:=all_take (allL ((List.range i).map (pathP p)))
   rw[hl]at this
   rw[this,allP,show i=p.names.length by omega]
  | succ k ih =>
   intro i hi
   have hl:(allL ((List.range i).map (pathP p))).length=i:=by simp[allL]
   have h28:=c28 X hX p hp hv i (by omega)
   rw[eG]at h28
   refine L_of ?_
   rw[e30_11010,condD,eN_length,if_pos (by omega),h28]
   simp only[Option.bind_some,List.headD_cons,freshList_fresh]
   have:=all_take (allL ((List.range i).map (pathP p)))
   rw[hl]at this
   rw[condP (by omega) rfl,this,i64_succ i (by omega),all_take]
   have e1:allL ((List.range i).map (pathP p))++[PV.list true kSg (eP (pathP p i))]=allL ((List.range (i+1)).map (pathP p)):=by
    rw[List.range_succ];simp[allL]
   rw[e1,ih (i+1) (by omega)]
theorem c30 (p:Pg) (hp:Small p) (hv:validP p=true):run tab X 30 [.p (eG p)] []=some ([.fresh false [.slice true kSg] (allP p)],[]):=by
 refine run_of (hX _ rfl) ?_
 rw[eG,e30]
 exact(show L tab (run tab X) 30 [] [.lp [1,1,0,1,0]] (S30_11010 0 0 (0:Nat) (eN p.names) (encL p.homes) (eAs p.acts) (allL ((List.range 0).map (pathP p))))=_ from l30 X hX p hp hv p.names.length 0 (by omega))
def pathV (p:Pg) (j:Int):List Sg × Int:=if validP p then(if 0≤j∧j<p.names.length then(if p.acts=[] then([],9) else(pathP p j.toNat,0)) else([],3)) else([],2)
theorem c24 (hC:Clones X) (hA:AllOk X) (p:Pg) (hp:Small p) (j:Int):run tab X 24 [.p (eG p),.p (.int .i64 j)] []=some ([.p (.list true kSg (eP (pathV p j).1)),.p (.int .i64 (pathV p j).2)],[]):=by
 have h10:=c10 X hX hC p hp
 rw[eG]at h10
 refine run_of (hX _ rfl) ?_
 rw[eG,e24,h10]
 simp only[Option.bind_some,List.headD_cons,pv_p,toBool_bool,condO,condD,condE,eN_length,eAs_length]
 cases hv:validP p with
 | false =>
  have:pathV p j=([],2):=by rw[pathV,hv];rfl
  rw[this];rfl
 | true =>
  have e0:pathV p j=if 0≤j∧j<p.names.length then(if p.acts=[] then([],9) else(pathP p j.toNat,0)) else([],3):=by rw[pathV,hv,if_pos rfl]
  simp only[cond_true]
  by_cases h1:0≤j
  · rw[if_neg (by omega)]
    by_cases h2:j<p.names.length
    · rw[if_neg (by omega)]
      by_cases h3:p.acts=[]
      · rw[if_pos (by rw[h3];rfl),e0,if_pos ⟨h1,h2⟩,if_pos h3]
        rfl
      · have:1≤p.acts.length:=by have:=List.length_pos_iff.2 h3;omega
        have h47:=hA.c47 p hp hv
        rw[eG]at h47
        have hl:(allP p).length=p.names.length:=by simp[allP,allL]
        have hg:(allP p).getD j.toNat .nil=.list true kSg (eP (pathP p j.toNat)):=by
         rw[allP,allL,List.getD_eq_getElem?_getD]
         have:j.toNat<p.names.length:=by omega
         simp[this]
        have hc:((PV.list true kSg (eP (pathP p j.toNat))).cell 0).toList=eP (pathP p j.toNat):=rfl
        rw[if_neg (by omega),h47]
        simp only[Option.bind_some,List.headD_cons,freshList_fresh,hl,Nat.zero_add,hg,hc,condA,condD]
        rw[if_pos (by omega),if_pos (by omega),e0,if_pos ⟨h1,h2⟩,if_neg h3]
    · rw[if_pos (by omega),e0,if_neg (by omega)]
      rfl
  · rw[if_pos (by omega),e0,if_neg (by omega)]
    rfl
def pathsV (p:Pg):List PV × Int:=if validP p then(if p.acts=[] then([],9) else(allP p,0)) else([],2)
theorem c25 (hC:Clones X) (hA:AllOk X) (p:Pg) (hp:Small p):run tab X 25 [.p (eG p)] []=some ([.fresh false [.slice true kSg] (pathsV p).1,.p (.int .i64 (pathsV p).2)],[]):=by
 have h10:=c10 X hX hC p hp
 rw[eG]at h10
 refine run_of (hX _ rfl) ?_
 rw[eG,e25,h10]
 simp only[Option.bind_some,List.headD_cons,pv_p,toBool_bool,condO,condE,eAs_length]
 cases hv:validP p with
 | false =>
  have:pathsV p=([],2):=by rw[pathsV,hv];rfl
  rw[this];rfl
 | true =>
  have e0:pathsV p=if p.acts=[] then([],9) else(allP p,0):=by rw[pathsV,hv,if_pos rfl]
  simp only[cond_true]
  by_cases h3:p.acts=[]
  · rw[if_pos (by rw[h3];rfl),e0,if_pos h3]
  · have:1≤p.acts.length:=by have:=List.length_pos_iff.2 h3;omega
    have h47:=hA.c47 p hp hv
    rw[eG]at h47
    rw[if_neg (by omega),e0,if_neg h3,h47]
    simp only[Option.bind_some,List.headD_cons,freshList_fresh]
    rw[all_take]
end
end Go.Skm.Prg
