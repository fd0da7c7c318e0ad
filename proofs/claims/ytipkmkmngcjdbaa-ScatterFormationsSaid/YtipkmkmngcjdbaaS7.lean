/-
  Points on a line at equal distances: their picks, spread and cover; the law of the limits, from the examples; condition: a library that copies lists.
-/
import Derived.Test.YtipkmkmngcjdbaaS6
namespace Go.Skm.Sct
open Go Go.Skm
def grid (s : Int) (n : Nat) : List V3 := (List.range n).map fun i : Nat => ⟨(i : Int) * s,0,0⟩
@[simp] theorem grid_length (s : Int) (n : Nat) : (grid s n).length = n := by simp [grid]
theorem grid_succ (s : Int) (n : Nat) : grid s (n + 1) = grid s n ++ [⟨(n : Int) * s,0,0⟩] := by
  unfold grid; rw [List.range_succ,List.map_append]; rfl
theorem grid_at {s : Int} {n i : Nat} (h : i < n) : at_ (grid s n) i = ⟨(i : Int) * s,0,0⟩ := by
  rw [at_eq (by simpa using h)]; simp [grid]
theorem grid_up {s : Int} (hs : 1 ≤ s) (n : Nat) : up (grid s n) = true := by
  unfold up
  rw [allFrom_iff]
  intro j _ hj
  rw [grid_length] at hj
  refine decide_eq_true ?_
  rw [grid_at (by omega),grid_at (by omega),cmp_lt]
  left
  show (j : Int) * s < ((j + 1 : Nat) : Int) * s
  have e : ((j + 1 : Nat) : Int) * s = (j : Int) * s + s := by rw [Int.natCast_add,Int.add_mul]; simp
  rw [e]; omega
theorem grid_pnt {s : Int} (hs : 1 ≤ s) (hs2 : s ≤ 200) {i : Nat} (h : i ≤ 4096) : pnt ⟨(i : Int) * s,0,0⟩ = true := by
  rw [pnt_iff]
  have h1 : 0 ≤ (i : Int) * s := Int.mul_nonneg (by omega) (by omega)
  have h2 : (i : Int) * s ≤ 4096 * 200 := Int.mul_le_mul (by omega) hs2 (by omega) (by omega)
  simp only
  omega
theorem grid_all {s : Int} (hs : 1 ≤ s) (hs2 : s ≤ 200) {n : Nat} (hn : n ≤ 4097) : ∀ v ∈ grid s n,pnt v = true := by
  intro v hv
  obtain ⟨i,hi,rfl⟩ := mem_at hv
  rw [grid_length] at hi
  rw [grid_at hi]
  exact grid_pnt hs hs2 (by omega)
theorem grid_set {s : Int} (hs : 1 ≤ s) (hs2 : s ≤ 200) {n : Nat} (hn : n ≤ 4096) : isSet (grid s n) = true := by
  unfold isSet pts
  rw [grid_up hs,allP_iff.2 (grid_all hs hs2 (by omega))]
  simp [hn]
theorem d2_line (a b : Int) : d2 ⟨a,0,0⟩ ⟨b,0,0⟩ = (a - b) * (a - b) := by simp [d2]
theorem sq_mono {a b : Int} (h0 : 0 ≤ a) (h : a ≤ b) : a * a ≤ b * b := Int.mul_le_mul h h h0 (by omega)
theorem sq_lt {a b : Int} (h0 : 0 ≤ a) (h : a < b) : a * a < b * b := by
  have h1 : a * a ≤ a * b := Int.mul_le_mul_of_nonneg_left (by omega) h0
  have h2 : a * b < b * b := Int.mul_lt_mul_of_pos_right h (by omega)
  omega
theorem diff_mul (i j : Nat) (s : Int) : (j : Int) * s - (i : Int) * s = ((j : Int) - i) * s := by rw [Int.sub_mul]
theorem grid_d2 {s : Int} (hs : 1 ≤ s) {n i j : Nat} (hij : i < j) (hj : j < n) : s * s ≤ d2 (at_ (grid s n) i) (at_ (grid s n) j) := by
  rw [d2_comm,grid_at hj,grid_at (show i < n by omega),d2_line,diff_mul]
  refine sq_mono (by omega) ?_
  have : 1 * s ≤ ((j : Int) - i) * s := Int.mul_le_mul_of_nonneg_right (by omega) (by omega)
  omega
theorem grid_spread {s : Int} (hs : 1 ≤ s) (hs2 : s ≤ 200) {n : Nat} (h2 : 2 ≤ n) (hn : n ≤ 4096) : sprR (grid s n) = (s * s,0) := by
  unfold sprR
  rw [if_pos (grid_set hs hs2 hn),if_neg (by rw [grid_length]; omega)]
  obtain ⟨a1,a2,a3⟩ := spF_spec (grid s n) far
  have e1 : d2 (at_ (grid s n) 0) (at_ (grid s n) 1) = s * s := by
    rw [d2_comm,grid_at (by omega),grid_at (by omega),d2_line]
    simp
  have h1 := a2 0 1 (by omega) (by rw [grid_length]; omega)
  rw [e1] at h1
  have h5 : s * s ≤ 40000 := Int.mul_le_mul hs2 hs2 (by omega) (by omega)
  have e2 : spF (grid s n) far = s * s := by
    rcases a3 with a3 | ⟨i,j,c1,c2,c3⟩
    · rw [a3] at h1; unfold far at h1; omega
    · have := grid_d2 hs c1 (by simpa using c2)
      omega
  rw [e2]
theorem cov_ge : ∀ (l ch : List V3) (n : Int),n ≤ cov l ch n
  | [],_,_ => Int.le_refl _
  | a::l,ch,n => by have := cov_ge l ch (max n (nr a ch)); show n ≤ cov l ch (max n (nr a ch)); omega
theorem cov_all : ∀ (l ch : List V3) (n : Int),∀ a ∈ l,nr a ch ≤ cov l ch n
  | [],_,_,a,h => by simp at h
  | b::l,ch,n,a,h => by
    show nr a ch ≤ cov l ch (max n (nr b ch))
    rcases List.mem_cons.1 h with rfl | h
    · have := cov_ge l ch (max n (nr a ch)); omega
    · exact cov_all l ch _ a h
theorem cov_le : ∀ (l ch : List V3) (n m : Int),n ≤ m → (∀ a ∈ l,nr a ch ≤ m) → cov l ch n ≤ m
  | [],_,_,_,h,_ => h
  | b::l,ch,n,m,h,h2 => by
    have := h2 b (by simp)
    exact cov_le l ch (max n (nr b ch)) m (by omega) (fun a ha => h2 a (by simp [ha]))
theorem grid_cover {s : Int} (hs : 1 ≤ s) (hs2 : s ≤ 200) {n : Nat} (h1 : 1 ≤ n) (hn : n ≤ 4096) : covR (grid s n) [⟨(n : Int) * s,0,0⟩] = (((n : Int) * s) * ((n : Int) * s),0) := by
  have hp : pts [⟨(n : Int) * s,0,0⟩] = true := by
    unfold pts
    rw [allP_iff.2 (by intro v hv; simp at hv; subst hv; exact grid_pnt hs hs2 hn)]
    simp
  have hn1 : ∀ i,i < n → nr (at_ (grid s n) i) [⟨(n : Int) * s,0,0⟩] = ((n : Int) * s - (i : Int) * s) * ((n : Int) * s - (i : Int) * s) := by
    intro i hi
    show d2 _ _ = _
    rw [d2_comm,grid_at hi,d2_line]
  unfold covR
  rw [if_pos ⟨grid_set hs hs2 hn,hp⟩,if_neg (by simp)]
  have e : cov (grid s n) [⟨(n : Int) * s,0,0⟩] 0 = ((n : Int) * s) * ((n : Int) * s) := by
    apply Int.le_antisymm
    · refine cov_le _ _ _ _ (sq_nn _) ?_
      intro a ha
      obtain ⟨i,hi,rfl⟩ := mem_at ha
      rw [grid_length] at hi
      rw [hn1 i hi]
      have h2 : 0 ≤ (i : Int) * s := Int.mul_nonneg (by omega) (by omega)
      have h3 : (i : Int) * s ≤ (n : Int) * s := Int.mul_le_mul_of_nonneg_right (by omega) (by omega)
      exact sq_mono (by omega) (by omega)
    · have := cov_all (grid s n) [⟨(n : Int) * s,0,0⟩] 0 _ (at_mem (show 0 < (grid s n).length by rw [grid_length]; omega))
      rw [hn1 0 (by omega)] at this
      simpa using this
  rw [e]
theorem amax_const {f : Nat → Int} (h : ∀ i j,f i = f j) : ∀ m i b,amax f m i b = b
  | 0,_,_ => rfl
  | m + 1,i,b => by
    have : ¬ f i > f b := by rw [h i b]; omega
    show amax f m (i + 1) (if f i > f b then i else b) = b
    rw [if_neg this]; exact amax_const h m (i + 1) b
theorem amax_inc {f : Nat → Int} {n : Nat} (h : ∀ i,i + 1 < n → f i < f (i + 1)) : ∀ m i,i + 1 + m = n → amax f m (i + 1) i = n - 1
  | 0,i,e => by show i = n - 1; omega
  | m + 1,i,e => by
    show amax f m (i + 1 + 1) (if f (i + 1) > f i then i + 1 else i) = n - 1
    rw [if_pos (h i (by omega))]
    exact amax_inc h m (i + 1) (by omega)
theorem pk_one (l : List V3) : pk l 1 = [0] := by
  show [amax (keyP l []) l.length 0 0] = [0]
  rw [amax_const (fun i j => by simp [keyP,mn])]
theorem pk_two {s : Int} (hs : 1 ≤ s) (hs2 : s ≤ 200) {n : Nat} (h1 : 2 ≤ n) (hn : n ≤ 4096) : pk (grid s n) 2 = [0,n - 1] := by
  show pk (grid s n) 1 ++ [amax (keyP (grid s n) (pk (grid s n) 1)) (grid s n).length 0 0] = [0,n - 1]
  rw [pk_one,grid_length]
  have hk : ∀ j,0 < j → j < n → keyP (grid s n) [0] j = ((j : Int) * s) * ((j : Int) * s) := by
    intro j hj0 hj
    have hall := grid_all hs hs2 (show n ≤ 4097 by omega)
    rw [keyP_far hall (by intro k hk; simp at hk; subst hk; rw [grid_length]; omega) (by rw [grid_length]; exact hj) (by simp; omega) (by simp)]
    show d2 _ _ = _
    rw [grid_at hj,grid_at (by omega),d2_line]; simp
  have hinc : ∀ i,i + 1 < n → keyP (grid s n) [0] i < keyP (grid s n) [0] (i + 1) := by
    intro i hi
    rw [hk (i + 1) (by omega) hi]
    by_cases h0 : i = 0
    · subst h0
      have : keyP (grid s n) [0] 0 = -1 := by simp [keyP]
      have := sq_nn (((0 + 1 : Nat) : Int) * s)
      omega
    · rw [hk i (by omega) (by omega)]
      have e : ((i + 1 : Nat) : Int) * s = (i : Int) * s + s := by rw [Int.natCast_add,Int.add_mul]; simp
      have h2 : 0 ≤ (i : Int) * s := Int.mul_nonneg (by omega) (by omega)
      exact sq_lt h2 (by omega)
  obtain ⟨m,rfl⟩ : ∃ m,n = m + 1 := ⟨n - 1,by omega⟩
  show [0] ++ [amax (keyP (grid s (m + 1)) [0]) m (0 + 1) (if keyP (grid s (m + 1)) [0] 0 > keyP (grid s (m + 1)) [0] 0 then 0 else 0)] = _
  rw [ite_self,amax_inc hinc m 0 (by omega)]; rfl
theorem pk_take (l : List V3) (k : Nat) : ∀ m,k ≤ m → (pk l m).take k = pk l k
  | 0,h => by rw [show k = 0 by omega]; rfl
  | m + 1,h => by
    by_cases e : k = m + 1
    · subst e; rw [List.take_of_length_le (by simp)]
    · show ((pk l m) ++ _).take k = _
      rw [List.take_append_of_le_length (by simp; omega),pk_take l k m (by omega)]
theorem grid_pick {s : Int} (hs : 1 ≤ s) (hs2 : s ≤ 200) {n : Nat} (h1 : 2 ≤ n) (hn : n ≤ 4096) {many : Int} (hm : 1 ≤ many) (hm2 : many ≤ n) :
    ∃ a,pickR (grid s n) many = (a,0) ∧ (a.length : Int) = many ∧ at_ a 0 = at_ (grid s n) 0 ∧ (1 < many → at_ a 1 = at_ (grid s n) (n - 1)) := by
  obtain ⟨k,rfl⟩ : ∃ k : Nat,many = (k : Int) := ⟨many.toNat,by omega⟩
  refine ⟨(pk (grid s n) k).map (at_ (grid s n)),?_,by simp,?_,?_⟩
  · unfold pickR
    rw [if_pos ⟨grid_set hs hs2 hn,by omega⟩,if_neg (by rw [grid_length]; omega),tn]
  · have h : (pk (grid s n) k).take 1 = [0] := by rw [pk_take _ 1 k (by omega),pk_one]
    rw [at_eq (by simp; omega),List.getElem_map]
    have : (pk (grid s n) k)[0]'(by simp; omega) = 0 := by
      have h2 : ((pk (grid s n) k).take 1)[0]'(by simp; omega) = 0 := by simp [h]
      rwa [List.getElem_take] at h2
    rw [this]
  · intro hk
    have h : (pk (grid s n) k).take 2 = [0,n - 1] := by rw [pk_take _ 2 k (by omega),pk_two hs hs2 h1 hn]
    rw [at_eq (by simp; omega),List.getElem_map]
    have : (pk (grid s n) k)[1]'(by simp; omega) = n - 1 := by
      have h2 : ((pk (grid s n) k).take 2)[1]'(by simp; omega) = n - 1 := by simp [h]
      rwa [List.getElem_take] at h2
    rw [this]
theorem big_set {l : List V3} (h : ¬ l.length ≤ 4096) : isSet l = false ∧ pts l = false := by
  unfold isSet pts; simp [h]
section
variable (X : Ext) (hX : Mine X)
include hX
theorem c19 (x y z : Int) : run tab X 19 [.p (.int .i64 x),.p (.int .i64 y),.p (.int .i64 z)] [] = some ([.p (eV ⟨x,y,z⟩)],[]) :=
  run_of (hX _ rfl) (by rw [e19])
theorem l7end (hN : Known X) (hK : Clones X) (many s : Int) (hm : 1 ≤ many) (hm2 : many ≤ 30) (hs : 1 ≤ s) (hs2 : s ≤ 200) :
    L tab (run tab X) 7 [] [.lp [1,1,1,0,1,0]] (S7_111010 many s 0 4097 4097 (encL (grid s 4097))) = some ([.p (.bool true)],[]) := by
  obtain ⟨G,hG⟩ : ∃ G,G = grid s 4097 := ⟨_,rfl⟩
  obtain ⟨n,hn⟩ : ∃ n : Nat,n = 4096 := ⟨_,rfl⟩
  have hlen : G.length = n + 1 := by rw [hG,hn,grid_length]
  have hsplit : G = grid s n ++ [⟨(n : Int) * s,0,0⟩] := by rw [hG,hn]; exact grid_succ s 4096
  have htake : G.take n = grid s n := by rw [hsplit,List.take_append_of_le_length (by simp),List.take_of_length_le (by simp)]
  have hdrop : G.drop n = [⟨(n : Int) * s,0,0⟩] := by rw [hsplit,List.drop_append_of_le_length (by simp),List.drop_of_length_le (by simp)]; rfl
  have hat : ∀ i,i < n → at_ (grid s n) i = at_ G i := by
    intro i hi
    rw [← htake,at_take hi]
  obtain ⟨a,p1,p2,p3,p4⟩ := grid_pick hs hs2 (show 2 ≤ n by omega) (by omega) hm (show many ≤ n by omega)
  have big := big_set (l := G) (by omega)
  have q1 : pickR G many = ([],2) := by unfold pickR; rw [if_neg (by simp [big.1])]
  have q2 : sprR G = (0,2) := by unfold sprR; rw [if_neg (by simp [big.1])]
  have q3 : ∀ ch,covR G ch = (0,2) := fun ch => by unfold covR; rw [if_neg (by simp [big.1])]
  have q4 : ∀ l,covR l G = (0,2) := fun l => by unfold covR; rw [if_neg (by simp [big.2])]
  have ha0 : at_ a 0 = at_ G 0 := by rw [p3,hat 0 (by omega)]
  have k1 := c10 X hX hK (grid s n) (by rw [grid_length]; omega) many
  have k2 := c13 X hX (grid s n) (by rw [grid_length]; omega)
  have k3 := c15 X hX (grid s n) [⟨(n : Int) * s,0,0⟩] (by rw [grid_length]; omega) (by simp)
  rw [p1] at k1
  rw [grid_spread hs hs2 (by omega) (by omega)] at k2
  rw [grid_cover hs hs2 (by omega) (by omega)] at k3
  have k5 := c10 X hX hK G (by omega) many
  have k6 := c13 X hX G (by omega)
  have k7 := c15 X hX G (G.take 1) (by omega) (by rw [List.length_take]; omega)
  have k8 := c15 X hX (G.take 1) G (by rw [List.length_take]; omega) (by omega)
  rw [q1] at k5
  rw [q2] at k6
  rw [q3] at k7
  rw [q4] at k8
  have hss : s * s ≤ 40000 := Int.mul_le_mul hs2 hs2 (by omega) (by omega)
  have hss0 : 0 ≤ s * s := sq_nn s
  have w1 : IntKind.i64.wrap (s * s) = s * s := wrap_eq (by omega) (by omega)
  have w2 : IntKind.i64.wrap (IntKind.i64.wrap (16777216 * s) * s) = ((n : Int) * s) * ((n : Int) * s) := by
    rw [wrap_eq (x := 16777216 * s) (by omega) (by omega),Int.mul_assoc,wrap_eq (by omega) (by omega),hn]
    have e : (((4096 : Nat) : Int) * s) * (((4096 : Nat) : Int) * s) = ((4096 : Nat) : Int) * ((4096 : Nat) : Int) * (s * s) := by
      rw [Int.mul_assoc,Int.mul_assoc,Int.mul_left_comm s]
    rw [e]; rfl
  have hl4 : ((4097 : Nat) : Int) = ((n + 1 : Nat) : Int) := by rw [hn]
  have ee : ∀ (x y : List V3) (i j : Nat),at_ x i = at_ y j → (!((((encL x).getD i .nil).cell 0).toInt == (((encL y).getD j .nil).cell 0).toInt && ((((encL x).getD i .nil).cell 1).toInt == (((encL y).getD j .nil).cell 1).toInt && ((((encL x).getD i .nil).cell 2).toInt == (((encL y).getD j .nil).cell 2).toInt && true)))) = false := by
    intro x y i j h
    simp only [encL_x,encL_y,encL_z,veq]
    change (!decide (at_ x i = at_ y j)) = false
    rw [h]; simp
  have hap : 0 < a.length := by omega
  have e1 : (encL G).drop 0 = encL G := rfl
  have e2 : (encL G).take 4096 = encL (grid s n) := by rw [encL_take,← hn,htake]
  have e3 : (encL G).drop (0 + 4096) = encL [⟨(n : Int) * s,0,0⟩] := by rw [Nat.zero_add,encL_drop,← hn,hdrop]
  have e4 : (encL G).take 4097 = encL G := List.take_of_length_le (by rw [encL_length]; omega)
  have e5 : (encL G).take 1 = encL (G.take 1) := encL_take _ _
  rw [← hG]
  refine L_of ?_
  rw [e7_111010]
  refine condNP (by decide) ?_
  refine condT (by decide) ?_
  rw [Nat.zero_add,e1,e2]
  refine bindS k1 ?_
  refine condT (by decide) (bindS k2 ?_)
  refine condT (by decide) (condT (by decide) ?_)
  rw [show (4096 : Nat) = 0 + 4096 from rfl,e3]
  rw [List.take_of_length_le (show (encL [⟨(n : Int) * s,0,0⟩]).length ≤ ((4097 : Nat) - (4096 : Int) : Int).toNat from Nat.le_of_eq rfl)]
  refine bindS k3 ?_
  simp only [List.headD_cons,freshList_fresh,List.tail_cons,pv_p,toInt_int,encL_length]
  refine condEq p2 (condEq rfl (condEq w1.symm (condEq rfl (condEq w2.symm (condEq rfl (condP (by omega) (condT (by decide) ?_)))))))
  rw [ee a G 0 0 ha0,cond_false]
  have fin : ((run tab X 10 [.p (.list true kV (encL G)),.p (.int .i64 many)] []).bind fun r5 =>
      (run tab X 13 [.p (.list true kV (encL G))] []).bind fun r6 =>
      bif ((leI (1 : Int) ((4097 : Nat) : Int)) && (leI ((4097 : Nat) : Int) ((4097 : Nat) : Int))) then (run tab X 15 [.p (.list true kV (encL G)),.p (.list true kV (encL (G.take 1)))] []).bind fun r7 =>
      bif ((leI (1 : Int) ((4097 : Nat) : Int)) && (leI ((4097 : Nat) : Int) ((4097 : Nat) : Int))) then (run tab X 15 [.p (.list true kV (encL (G.take 1))),.p (.list true kV (encL G))] []).bind fun r8 =>
      bif ((r5.1.tail.headD .undef).pv.toInt == (2 : Int)) then
        bif ((r6.1.tail.headD .undef).pv.toInt == (2 : Int)) then
          bif ((r7.1.tail.headD .undef).pv.toInt == (2 : Int)) then
            bif ((r8.1.tail.headD .undef).pv.toInt == (2 : Int)) then
              (run tab X 9 [] []).bind fun r9 =>
              some ([AV.p (.bool ((r9.1.headD .undef).pv.toBool))],[])
            else
              some ([.p (.bool false)],[])
          else
            some ([.p (.bool false)],[])
        else
          some ([.p (.bool false)],[])
      else
        some ([.p (.bool false)],[]) else none else none) = some ([.p (.bool true)],([] : List Blk)) := by
    refine bindS k5 (bindS k6 (condT (by decide) (bindS k7 (condT (by decide) (bindS k8 ?_)))))
    exact condEqs rfl (condEqs rfl (condEqs rfl (condEqs rfl (known_end X hN))))
  rw [e4,e5]
  by_cases h2 : many > 1
  · have ha1 : at_ a 1 = at_ G (0 + 4095) := by rw [p4 (by omega),hat _ (by omega),hn]
    refine condP h2 (condP (by omega) (condT (by decide) ?_))
    rw [ee a G 1 (0 + 4095) ha1,cond_false]
    exact fin
  · exact condNP h2 fin
end
end Go.Skm.Sct
