/-
  Parse, as the program goes over the lines; condition: the library's answers, lengths that fit.
-/
import Derived.Test.YtidoclepnecnbaaDoorP17
import Derived.Test.YtidoclepnecnbaaDoorP10
namespace Go.Skm.Pic
open Go Go.Skm
theorem cut_split (c : UInt8) : ∀ l : List UInt8, splitC c l = (cutC c l).1 :: (bif (cutC c l).2.2 then splitC c (cutC c l).2.1 else [])
  | [] => rfl
  | x :: l => by
    by_cases h : x = c
    · subst h
      simp [splitC, cutC]
    · have hb : (x == c) = false := by simpa using h
      have ih := cut_split c l
      rw [splitC, if_neg h, ih]
      simp only [cutC, hb, cond_false]
theorem cutC_len (c : UInt8) : ∀ l : List UInt8, (cutC c l).1.length ≤ l.length ∧ (cutC c l).2.1.length ≤ l.length
  | [] => by simp [cutC]
  | x :: l => by
    have ih := cutC_len c l
    cases hb : (x == c) with
    | true => simp [cutC, hb]
    | false => simp only [cutC, hb, cond_false, List.length_cons]; omega
def dotO : Option (List Int × Int × Int × Int) → Option Dt
  | some ([x, y, r], a, e, b) => some ⟨x, y, r, a, e, b⟩
  | _ => none
def dotsO : List (List UInt8) → Option (List Dt)
  | [] => some []
  | l :: ls => match dotO (readO [100, 111, 116] 3 (splitC 32 l)) with
    | some d => (dotsO ls).map (d :: ·)
    | none => none
def finO (w h a e b : Int) (ds : List Dt) : Option Pi := bif validP ⟨w, h, a, e, b, ds⟩ then some ⟨w, h, a, e, b, ds⟩ else none
def restO (w h a e b : Int) (acc : List Dt) (ls : List (List UInt8)) : Option Pi := (dotsO ls).bind fun ds => finO w h a e b (acc ++ ds)
def parsR : Option Pi → List AV × List Blk
  | some p => ([.p (.agg [.int .i64 p.w, .int .i64 p.h, .int .u8 p.a, .int .u8 p.e, .int .u8 p.b, dotsP p.d]), .p (.int .i64 0)], [])
  | none => ([.p errP, .p (.int .i64 6)], [])
theorem restO_many {w h a e b : Int} {acc : List Dt} {l : List UInt8} {ls : List (List UInt8)} (hl : acc.length = 4096) : restO w h a e b acc (l :: ls) = none := by
  unfold restO
  cases hd : dotsO (l :: ls) with
  | none => rfl
  | some ds =>
    have : 1 ≤ ds.length := by
      simp only [dotsO] at hd
      split at hd
      · cases h2 : dotsO ls with
        | none => rw [h2] at hd; cases hd
        | some es => rw [h2] at hd; simp at hd; subst hd; simp
      · cases hd
    simp only [Option.bind_some, finO]
    have hv : validP ⟨w, h, a, e, b, acc ++ ds⟩ = false := by
      cases hv : validP ⟨w, h, a, e, b, acc ++ ds⟩ with
      | false => rfl
      | true =>
        have := (valid_iff.1 hv).len
        simp only [List.length_append] at this
        omega
    rw [hv]; rfl
theorem dotsP_ne {l : List Dt} (h : l ≠ []) : dotsP l = .list true kD (encL l) := by
  cases l with
  | nil => exact absurd rfl h
  | cons d l => rfl
section
variable (X : Ext) (hX : Mine X) (hT : Texts X)
include hX hT
set_option maxHeartbeats 1000000 in
theorem c16_more (w h a e b : Int) : ∀ (ls : List (List UInt8)) (rest : List UInt8) (more : Bool) (acc : List Dt), (bif more then splitC 10 rest else []) = ls → rest.length ≤ 100000000 → acc ≠ [] → acc.length ≤ 4096 →
    L tab (run tab X) 16 [] [.lp [1, 1, 1, 1, 1, 1, 0, 0]] (S16_11111100_s1 (ba rest) more 0 0 0 0 0 w h a e b 0 acc.length (encL acc)) = some (parsR (restO w h a e b acc ls)) := by
  have hm : (maxLen : Int) = 9223372036854775807 := by decide
  intro ls
  induction ls with
  | nil =>
    intro rest more acc hls hr hne ha
    have hmf : more = false := by
      cases more with
      | false => rfl
      | true => exact absurd hls (splitC_ne 10 rest)
    subst hmf
    have h11 := c11 X hX ⟨w, h, a, e, b, acc⟩ (show acc.length ≤ maxLen by omega)
    refine L_of ?_
    rw [e16_11111100_s1, List.drop_zero, encL_full]
    refine bindS h11 ?_
    simp only [List.headD_cons, pv_p, toBool_bool, restO, dotsO, Option.bind_some, finO, List.append_nil]
    cases validP ⟨w, h, a, e, b, acc⟩ with
    | false => rfl
    | true =>
      simp only [cond_true, parsR]
      rw [dotsP_ne hne]
      rfl
  | cons l ls ih =>
    intro rest more acc hls hr hne ha
    have hmt : more = true := by
      cases more with
      | true => rfl
      | false => cases hls
    subst hmt
    have hcs := cut_split 10 rest
    have hcl := cutC_len 10 rest
    have h41 := hT.cut rest hr
    have hls' : splitC 10 rest = l :: ls := hls
    rw [hls', List.cons.injEq] at hcs
    obtain ⟨hl, hls2⟩ := hcs
    obtain ⟨R, hR, hok⟩ := c42 X hX hT (cutC 10 rest).1 [100, 111, 116] (by omega) 3 (by omega)
    rw [← hl] at hR hok
    rw [← hl] at h41
    refine L_of ?_
    rw [e16_11111100_s1]
    refine bindS h41 (bindS hR ?_)
    by_cases hfull : acc.length = 4096
    · rw [restO_many hfull]
      cases hro : readO [100, 111, 116] 3 (splitC 32 l) with
      | none =>
        rw [hro] at hok
        have hok : (R.1.tail.tail.headD .undef).pv.toBool = false := hok
        rw [hok]; rfl
      | some q =>
        obtain ⟨ns, r', e', b'⟩ := q
        rw [hro] at hok
        have hok : R = ([.fresh false [.int .i64] (encI ns), .p (colP r' e' b'), .p (.bool true)], []) := hok
        subst hok
        refine condF rfl ?_
        refine condT (by simp [hfull]) rfl
    · cases hro : readO [100, 111, 116] 3 (splitC 32 l) with
      | none =>
        rw [hro] at hok
        have hok : (R.1.tail.tail.headD .undef).pv.toBool = false := hok
        rw [hok]
        simp only [restO, dotsO, hro, dotO, Option.bind_none]
        rfl
      | some q =>
        obtain ⟨ns, r', e', b'⟩ := q
        have hlen := (readO_some hro).2.1
        rw [hro] at hok
        have hok : R = ([.fresh false [.int .i64] (encI ns), .p (colP r' e' b'), .p (.bool true)], []) := hok
        subst hok
        match ns, hlen with
        | [x, y, z], _ =>
          have ih' := ih (cutC 10 rest).2.1 (cutC 10 rest).2.2 (acc ++ [⟨x, y, z, r', e', b'⟩]) hls2.symm (by omega) (by simp) (by simp; omega)
          refine condF rfl ?_
          have hfull' : ¬ ((acc.length : Int) = 4096) := by omega
          refine condF (by simpa using hfull') ?_
          refine condT rfl (condT rfl (condT rfl ?_))
          refine condP (p := acc.length + 1 ≤ 2147483648) (by omega) ?_
          rw [List.drop_zero, encL_full]
          have e1 : restO w h a e b acc (l :: ls) = restO w h a e b (acc ++ [⟨x, y, z, r', e', b'⟩]) ls := by
            simp only [restO, dotsO, hro, dotO]
            cases dotsO ls with
            | none => rfl
            | some ds => simp
          rw [e1]
          rw [← encL_append] at ih'
          simp only [List.length_append, List.length_cons, List.length_nil] at ih'
          exact ih'
set_option maxHeartbeats 1000000 in
theorem c16_rest (w h a e b : Int) (ls : List (List UInt8)) (rest : List UInt8) (more : Bool) (hls : (bif more then splitC 10 rest else []) = ls) (hr : rest.length ≤ 100000000) :
    L tab (run tab X) 16 [] [.lp [1, 1, 1, 1, 1, 1, 0, 0]] (S16_11111100 (ba rest) more 0 0 0 0 0 w h a e b) = some (parsR (restO w h a e b [] ls)) := by
  cases ls with
  | nil =>
    have hmf : more = false := by
      cases more with
      | false => rfl
      | true => exact absurd hls (splitC_ne 10 rest)
    subst hmf
    refine L_of ?_
    rw [e16_11111100]
    refine bindS (c11n X hX w h a e b) ?_
    simp only [List.headD_cons, pv_p, toBool_bool, restO, dotsO, Option.bind_some, finO, List.append_nil]
    cases validP ⟨w, h, a, e, b, []⟩ with
    | false => rfl
    | true => rfl
  | cons l ls =>
    have hmt : more = true := by
      cases more with
      | true => rfl
      | false => cases hls
    subst hmt
    have hcs := cut_split 10 rest
    have hcl := cutC_len 10 rest
    have h41 := hT.cut rest hr
    have hls' : splitC 10 rest = l :: ls := hls
    rw [hls', List.cons.injEq] at hcs
    obtain ⟨hl, hls2⟩ := hcs
    obtain ⟨R, hR, hok⟩ := c42 X hX hT (cutC 10 rest).1 [100, 111, 116] (by omega) 3 (by omega)
    rw [← hl] at hR hok
    rw [← hl] at h41
    refine L_of ?_
    rw [e16_11111100]
    refine bindS h41 (bindS hR ?_)
    cases hro : readO [100, 111, 116] 3 (splitC 32 l) with
    | none =>
      rw [hro] at hok
      have hok : (R.1.tail.tail.headD .undef).pv.toBool = false := hok
      rw [hok]
      simp only [restO, dotsO, hro, dotO, Option.bind_none]
      rfl
    | some q =>
      obtain ⟨ns, r', e', b'⟩ := q
      have hlen := (readO_some hro).2.1
      rw [hro] at hok
      have hok : R = ([.fresh false [.int .i64] (encI ns), .p (colP r' e' b'), .p (.bool true)], []) := hok
      subst hok
      match ns, hlen with
      | [x, y, z], _ =>
        have ih' := c16_more X hX hT w h a e b ls (cutC 10 rest).2.1 (cutC 10 rest).2.2 [⟨x, y, z, r', e', b'⟩] hls2.symm (by omega) (by simp) (by simp)
        refine condF rfl ?_
        refine condT rfl (condT rfl (condT rfl ?_))
        have e1 : restO w h a e b [] (l :: ls) = restO w h a e b [⟨x, y, z, r', e', b'⟩] ls := by
          simp only [restO, dotsO, hro, dotO]
          cases dotsO ls with
          | none => rfl
          | some ds => simp
        rw [e1]
        exact ih'
def picO : Option (List Int × Int × Int × Int) → Option (Int × Int × Int × Int × Int)
  | some ([w, h], a, e, b) => some (w, h, a, e, b)
  | _ => none
def parseM (m : List UInt8) : Option Pi := match picO (readO [112, 105, 99, 116, 117, 114, 101] 2 (splitC 32 (cutC 10 m).1)) with
  | some (w, h, a, e, b) => restO w h a e b [] (bif (cutC 10 m).2.2 then splitC 10 (cutC 10 m).2.1 else [])
  | none => none
theorem c16_bad (s all : List UInt8) (hs : all.length ≤ 100000000) (h40 : run tab X 40 [.p (.str (ba s)), .p (.str ⟨#[10]⟩)] [] = some ([.p (.str (ba all)), .p (.bool false)], [])) : run tab X 16 [.p (.str (ba s))] [] = some (parsR none) :=
  run_of (hX _ rfl) (by
    have hcl := cutC_len 10 all
    obtain ⟨R, hR, hok⟩ := c42 X hX hT (cutC 10 all).1 [112, 105, 99, 116, 117, 114, 101] (by omega) 2 (by omega)
    rw [e16]
    exact bindS h40 (bindS (hT.cut all hs) (bindS hR rfl)))
theorem c16_good (m : List UInt8) (hm : m.length ≤ 100000000) : run tab X 16 [.p (.str (ba (m ++ [10])))] [] = some (parsR (parseM m)) :=
  run_of (hX _ rfl) (by
    have hcl := cutC_len 10 m
    have h40 := c40_snoc X hX m 10 hm
    rw [if_pos rfl] at h40
    obtain ⟨R, hR, hok⟩ := c42 X hX hT (cutC 10 m).1 [112, 105, 99, 116, 117, 114, 101] (by omega) 2 (by omega)
    rw [e16]
    refine bindS h40 (bindS (hT.cut m hm) (bindS hR ?_))
    refine condF rfl ?_
    unfold parseM
    cases hro : readO [112, 105, 99, 116, 117, 114, 101] 2 (splitC 32 (cutC 10 m).1) with
    | none =>
      rw [hro] at hok
      have hok : (R.1.tail.tail.headD .undef).pv.toBool = false := hok
      rw [hok]; rfl
    | some q =>
      obtain ⟨ns, r', e', b'⟩ := q
      have hlen := (readO_some hro).2.1
      rw [hro] at hok
      have hok : R = ([.fresh false [.int .i64] (encI ns), .p (colP r' e' b'), .p (.bool true)], []) := hok
      subst hok
      match ns, hlen with
      | [x, y], _ =>
        refine condF rfl (condT rfl (condT rfl ?_))
        exact c16_rest X hX hT x y r' e' b' _ (cutC 10 m).2.1 (cutC 10 m).2.2 rfl (by omega))
end
end Go.Skm.Pic
