/-
  A machine that runs this program's functions on pure values, and the proof that what it returns is true of the program; no condition beside the hypotheses of each.
-/
import Derived.Test.YtipkmkmngcjdbaaSkmC
import Derived.LoopNIn
import Derived.Scope
import Derived.RangeFuncNested
import Derived.RangeFuncLeaves
namespace Go.Skm
section
variable {T : Tab} {C : CallF}
theorem evalOs_congr {env env' : List AV} : ∀ {l : List Operand},(∀ x ∈ l,evalO env x = evalO env' x) → evalOs env l = evalOs env' l
  | [],_ => rfl
  | x::r,h => by
    have := evalOs_congr (l := r) fun y hy => h y (List.mem_cons_of_mem _ hy)
    simp [evalOs,h x (by simp),this]
theorem partsEval_congr {env env' : List AV} : ∀ {l : List (Nat × Operand)},(∀ x ∈ l,evalO env x.2 = evalO env' x.2) → partsEval env l = partsEval env' l
  | [],_ => rfl
  | (i,x)::r,h => by
    have := partsEval_congr (l := r) fun y hy => h y (List.mem_cons_of_mem _ hy)
    simp [partsEval,h (i,x) (by simp),this]
theorem optEval_congr {env env' : List AV} {x : Option Operand} (h : ∀ y,x = some y → evalO env y = evalO env' y) : optEval env x = optEval env' x := by
  cases x with
  | none => rfl
  | some y => simp [optEval,h y rfl]
theorem stepOp_congr {env env' : List AV} {h : Nat → Option Blk} {o : Oper} (he : ∀ x ∈ o.op.operands,evalO env x = evalO env' x) : stepOp T C env h o = stepOp T C env' h o := by
  obtain ⟨dst,op,type,pos,after,guard⟩ := o
  cases op with
  | call c =>
    obtain ⟨callee,args,ts⟩ := c
    simp only [Op.operands,Call.operands] at he
    have ha : ∀ x ∈ args.toList,evalO env x = evalO env' x := fun x hx => he x (by simp [Array.mem_toList_iff.1 hx])
    have hl := evalOs_congr ha
    simp only [stepOp]
    split
    · split
      · rename_i x t r h1 h2
        rw [ha x (by rw [h1]; simp)]
      · rfl
    · split
      · rename_i x t r h1 h2
        rw [ha x (by rw [h1]; simp)]
      · rfl
    · rw [hl]
    · rw [hl]
    · split
      · rename_i x y t t2 h1 h2
        rw [ha x (by rw [h1]; simp),ha y (by rw [h1]; simp)]
      · rfl
    · split
      · rename_i x y t ts h1 h2
        rw [ha x (by rw [h1]; simp),ha y (by rw [h1]; simp)]
      · rfl
    · split
      · rename_i x t ts h1 h2
        rw [ha x (by rw [h1]; simp)]
      · rfl
    · rename_i f
      rw [he f (by simp),hl]
    · rfl
  | build t ps =>
    simp only [Op.operands] at he
    simp only [stepOp]
    rw [partsEval_congr fun x hx => he x.2 (by simp; exact ⟨x.1,by simpa using hx⟩)]
  | buildSlice t n ps =>
    simp only [Op.operands] at he
    simp only [stepOp]
    rw [partsEval_congr fun x hx => he x.2 (by simp; exact ⟨x.1,by simpa using hx⟩)]
  | makeFunc fn first caps =>
    simp only [Op.operands] at he
    simp only [stepOp]
    rw [evalOs_congr fun x hx => he x (by simp [Array.mem_toList_iff.1 hx]),evalOs_congr (l := caps.toList) fun x hx => he x (by simp [Array.mem_toList_iff.1 hx])]
  | slice t x lo hi mx =>
    simp only [Op.operands] at he
    simp only [stepOp]
    rw [he x (by simp),optEval_congr (x := lo) fun y hy => he y (by simp [hy]),optEval_congr (x := hi) fun y hy => he y (by simp [hy]),optEval_congr (x := mx) fun y hy => he y (by simp [hy])]
  | makeMap t x =>
    simp only [Op.operands] at he
    simp only [stepOp]
    rw [optEval_congr (x := x) fun y hy => he y (by simp [hy])]
  | assign x =>
    simp only [Op.operands] at he
    have hx := he x (by simp)
    simp only [stepOp]
    split
    · rfl
    · rw [hx]
  | _ =>
    simp only [Op.operands] at he
    simp only [stepOp]
    try simp at he
    try simp only [he]
theorem tmpsOf_mem {t : Nat} : ∀ {l : List Operand},Operand.tmp t ∈ l → t ∈ tmpsOf l
  | [],h => by simp at h
  | x::r,h => by
    rcases List.mem_cons.1 h with rfl | h
    · simp [tmpsOf]
    · have := tmpsOf_mem h
      cases x <;> simp [tmpsOf,this]
def actE (T : Tab) (C : CallF) (all : List Oper) (o : Oper) (env : List AV) (h : Nat → Option Blk) : Option Eff := (act1 T C all o env h).map fun x => x.getD { val := .tup [] }
theorem act1_congr {all : List Oper} {o : Oper} {env env' : List AV} {h : Nat → Option Blk} (he : ∀ t ∈ looksOf all o,env.getD t .undef = env'.getD t .undef) : act1 T C all o env h = act1 T C all o env' h := by
  have hs : stepOp T C env h o = stepOp T C env' h o := stepOp_congr fun x hx => by
    cases x with
    | tmp t =>
      show env.getD t .undef = env'.getD t .undef
      exact he t (by unfold looksOf; exact List.mem_append_left _ (tmpsOf_mem (by simpa using hx)))
    | _ => rfl
  unfold act1
  rw [hs]
  cases hg : o.guard with
  | none => rfl
  | some gw =>
    obtain ⟨g,want⟩ := gw
    simp only
    cases hd : dstOf all g with
    | none => rfl
    | some t =>
      simp only
      rw [he t (by unfold looksOf; unfold dstOf at hd; rw [hg]; simp [hd])]
theorem actE_congr {all : List Oper} {o : Oper} {env env' : List AV} {h : Nat → Option Blk} (he : ∀ t ∈ looksOf all o,env.getD t .undef = env'.getD t .undef) : actE T C all o env h = actE T C all o env' h := by
  unfold actE; rw [act1_congr he]
theorem stepLen_pure {t : TypeId} {x : AV} {h h' : Nat → Option Blk} (hm : isMapT T t = false) : stepLen T h t x = stepLen T h' t x := by
  unfold isMapT at hm
  unfold stepLen
  cases hu : und T t with
  | none => rfl
  | some d =>
    rw [hu] at hm
    cases d <;> first | (simp at hm; done) | (cases x <;> first | rfl | (rename_i v; cases v <;> rfl))
theorem stepOp_pure {all : List Oper} {o : Oper} {env : List AV} {h h' : Nat → Option Blk} (hc : opClass T all o = .pure) : stepOp T C env h o = stepOp T C env h' o := by
  obtain ⟨dst,op,type,pos,after,guard⟩ := o
  cases op with
  | call c =>
    obtain ⟨callee,args,ts⟩ := c
    cases callee with
    | builtin b =>
      by_cases hlen : b = .len
      · subst hlen
        simp only [opClass] at hc
        cases hm : ts.toList.any (isMapT T) with
        | true => rw [hm] at hc; cases hc
        | false =>
          simp only [stepOp]
          split
          · rename_i x t r h1 h2
            refine stepLen_pure ?_
            have := List.any_eq_false.1 hm t (by rw [h2]; simp)
            simpa using this
          · rfl
      · cases b <;> first | rfl | (exact absurd rfl hlen) | (simp only [opClass] at hc; cases hb : fullApp args.toList all <;> rw [hb] at hc <;> simp at hc; done) | (simp [opClass] at hc)
    | value f =>
      cases f with
      | func f =>
        simp only [opClass] at hc
        cases hb : (cfgOf T f).byRef || (((cfgOf T f).shares && !(cfgOf T f).quiet) || (cfgOf T f).prim.writes) <;> rw [hb] at hc <;> simp at hc
      | _ => simp [opClass] at hc
    | invoke r n => simp [opClass] at hc
  | slice t x lo hi mx =>
    simp only [opClass] at hc
    simp only [stepOp]
    split
    · rename_i n e hu
      rw [hu] at hc; simp at hc
    · rfl
  | store t p v =>
    simp only [opClass] at hc
    split at hc <;> first | (rename_i t' _; cases hl : rootOf all 4 t' <;> rw [hl] at hc <;> simp at hc; done) | simp_all
    all_goals (try (rename_i t' _ _; cases hl : rootOf all 4 t' <;> simp_all))
  | assign x =>
    simp only [opClass] at hc
    rfl
  | _ => first | rfl | (simp [opClass] at hc)
theorem actE_pure {all : List Oper} {o : Oper} {env : List AV} {h h' : Nat → Option Blk} (hc : opClass T all o = .pure) : actE T C all o env h = actE T C all o env h' := by
  unfold actE act1; rw [stepOp_pure hc (h' := h')]
theorem stepOp_const {all : List Oper} {o : Oper} (hc : opClass T all o = .const) : ∃ v,(v = .undef ∨ ∃ x,v = .p x) ∧ ∀ env h,stepOp T C env h o = .ret { val := v } := by
  have val : ∀ x,isConstO x = true → ∃ v,(v = .undef ∨ ∃ y,v = .p y) ∧ ∀ env,evalO env x = v := by
    intro x hx
    cases x with
    | tmp t => simp [isConstO] at hx
    | global g => simp [isConstO] at hx
    | func f => exact ⟨.p (.fn f []),.inr ⟨_,rfl⟩,fun _ => rfl⟩
    | const v =>
      cases hv : ofValue v with
      | none => exact ⟨.undef,.inl rfl,fun env => by simp [evalO,hv]⟩
      | some y => exact ⟨.p y,.inr ⟨_,rfl⟩,fun env => by simp [evalO,hv]⟩
  obtain ⟨dst,op,type,pos,after,guard⟩ := o
  cases op with
  | move x =>
    simp only [opClass] at hc
    cases hx : isConstO x with
    | false => rw [hx] at hc; simp at hc
    | true =>
      obtain ⟨v,h1,h2⟩ := val x hx
      exact ⟨v,h1,fun env h => by simp [stepOp,h2]⟩
  | assign x =>
    simp only [opClass] at hc
    split at hc
    · cases hc
    · rename_i y hy hne
      cases hne
      cases hx : isConstO x with
      | false => rw [hx] at hc; simp at hc
      | true =>
        obtain ⟨v,h1,h2⟩ := val x hx
        refine ⟨v,h1,fun env h => ?_⟩
        simp only [stepOp]
        split
        · exact (hy rfl).elim
        · rw [h2]
    all_goals (first | (rename_i h; cases h; done) | cases hc)
  | call c =>
    obtain ⟨callee,args,ts⟩ := c
    cases callee with
    | builtin b =>
      by_cases hlen : b = .len
      · subst hlen
        simp only [opClass] at hc
        cases hm : ts.toList.any (isMapT T) <;> rw [hm] at hc <;> cases hc
      · cases b <;> first | (exact absurd rfl hlen) | (simp only [opClass] at hc; cases hb : fullApp args.toList all <;> rw [hb] at hc <;> simp at hc; done) | (simp [opClass] at hc)
    | value f =>
      cases f with
      | func f =>
        simp only [opClass] at hc
        cases hb : (cfgOf T f).byRef || (((cfgOf T f).shares && !(cfgOf T f).quiet) || (cfgOf T f).prim.writes) <;> rw [hb] at hc <;> simp at hc
      | _ => simp [opClass] at hc
    | invoke r n => simp [opClass] at hc
  | slice t x lo hi mx =>
    simp only [opClass] at hc
    split at hc <;> cases hc
  | store t p v =>
    simp only [opClass] at hc
    split at hc <;> simp_all
    all_goals (rename_i t' _ _; cases hl : rootOf all 4 t' <;> simp_all)
  | _ => simp [opClass] at hc
end
end Go.Skm
namespace Go.Skm
def Same (s t : St) : Prop := s.env = t.env ∧ look s.heap = look t.heap
theorem Same.refl (s : St) : Same s s := ⟨rfl,rfl⟩
theorem Same.trans {s t u : St} (h1 : Same s t) (h2 : Same t u) : Same s u := ⟨h1.1.trans h2.1,h1.2.trans h2.2⟩
theorem Same.symm {s t : St} (h : Same s t) : Same t s := ⟨h.1.symm,h.2.symm⟩
mutual
theorem refers_nil : ∀ (v : AV),AV.refers [] v = false
  | .undef | .p _ | .lptr _ _ _ _ | .fresh _ _ _ | .yld => rfl
  | .slice _ _ _ _ | .bslice _ _ _ | .ptr _ _ _ | .mref _ => rfl
  | .fn _ cs | .agg cs | .tup cs => by simp only [AV.refers]; exact refersAny_nil cs
theorem refersAny_nil : ∀ (l : List AV),AV.refersAny [] l = false
  | [] => rfl
  | v::r => by simp [AV.refersAny,refers_nil v,refersAny_nil r]
end
theorem killEnv_nil : ∀ (l : List AV),killEnv [] l = l
  | [] => rfl
  | v::r => by simp [killEnv,AV.kill,refers_nil,killEnv_nil r]
def killH (ss : List Nat) (hp : Heap) : Heap := match ss with | [] => hp | ss => killHeap ss hp
def strikeH (ss : List Nat) (hp : Heap) : Heap := match ss with | [] => hp | ss => dropAll (killHeap ss hp) ss
theorem kill_eq (ss : List Nat) (st : St) : st.kill ss = ⟨killEnv ss st.env,killH ss st.heap⟩ := by
  cases ss with
  | nil => simp [St.kill,killH,killEnv_nil]
  | cons s r => rfl
theorem strike_eq (ss : List Nat) (st : St) : st.strike ss = ⟨killEnv ss st.env,strikeH ss st.heap⟩ := by
  cases ss with
  | nil => simp [St.strike,strikeH,killEnv_nil]
  | cons s r => rfl
theorem apply_eq (st : St) (d : Option Nat) (e : Eff) : st.apply d e =
    ⟨setEnv (killEnv e.cut (killEnv (present st.heap e.new ++ e.frz) st.env)) d e.val,putAll (killH e.cut (strikeH (present st.heap e.new ++ e.frz) st.heap)) e.chg⟩ := by
  simp only [St.apply,kill_eq,strike_eq]
theorem present_congr {h1 h2 : Heap} (h : look h1 = look h2) : ∀ (l : List Nat),present h1 l = present h2 l
  | [] => rfl
  | s::r => by simp only [present,h,present_congr h r]
theorem killH_congr {h1 h2 : Heap} (h : look h1 = look h2) (ss : List Nat) : look (killH ss h1) = look (killH ss h2) := by
  cases ss with
  | nil => exact h
  | cons s r => funext x; simp only [killH,look_killHeap,h]
theorem strikeH_congr {h1 h2 : Heap} (h : look h1 = look h2) (ss : List Nat) : look (strikeH ss h1) = look (strikeH ss h2) := by
  cases ss with
  | nil => exact h
  | cons s r => funext x; simp only [strikeH,look_dropAll,look_killHeap,h]
theorem put_congr {h1 h2 : Heap} (h : look h1 = look h2) (s : Nat) (b : Blk) : look (put h1 s b) = look (put h2 s b) := by
  funext x; simp only [look_put,h]
theorem putAll_congr : ∀ {c : List (Nat × Blk)} {h1 h2 : Heap},look h1 = look h2 → look (putAll h1 c) = look (putAll h2 c)
  | [],_,_,h => h
  | (s,b)::r,_,_,h => putAll_congr (c := r) (put_congr h s b)
theorem apply_congr {s t : St} (h : Same s t) (d : Option Nat) (e : Eff) : Same (s.apply d e) (t.apply d e) := by
  rw [apply_eq,apply_eq,present_congr h.2,h.1]
  exact ⟨rfl,putAll_congr (killH_congr (strikeH_congr h.2 _) _)⟩
section
variable {T : Tab} {C : CallF}
theorem chgOk_congr {h1 h2 : Heap} (h : look h1 = look h2) : ∀ c : List (Nat × Blk),chgOk h1 c = chgOk h2 c
  | [] => rfl
  | (s,.log _ _)::r => rfl
  | (s,.box _)::r => by simp only [chgOk,h,chgOk_congr h r]
  | (s,.arr _ _ _)::r => by simp only [chgOk,h,chgOk_congr h r]
  | (s,.tb _ _ _)::r => by simp only [chgOk,h,chgOk_congr h r]
  | (s,.mp _ _)::r => by simp only [chgOk,h,chgOk_congr h r]
  | (s,.br _ _)::r => by simp only [chgOk,h,chgOk_congr h r]
theorem quiet_congr {draw : Bool} {cls : Cls} {o : List Nat} {h1 h2 : Heap} (h : look h1 = look h2) (e : Eff) : quietEff draw cls o h1 e = quietEff draw cls o h2 e := by
  unfold quietEff; rw [present_congr h,chgOk_congr h]
theorem step1_eq {draw : Bool} {hd : List Nat} {all : List Oper} {o : Oper} {st : St} :
    step1 T C draw hd all o st = (actE T C all o st.env (hideH hd (look st.heap))).bind fun e => if (frzOk (e.new ++ e.frz) && quietEff draw (opClass T all o) (opSites all o) st.heap e) = true then some (st.apply o.dst e) else none := by
  unfold step1 actE
  cases act1 T C all o st.env (hideH hd (look st.heap)) with
  | none => rfl
  | some x =>
    cases x with
    | none =>
      simp only [Option.map_some,Option.getD_none,Option.bind_some]
      have : quietEff draw (opClass T all o) (opSites all o) st.heap { val := .tup [] } = true := by
        cases draw with
        | false => rfl
        | true => cases opClass T all o <;> rfl
      rw [if_pos (by simp [frzOk,this]),apply_eq]
      simp [present,killEnv_nil,killH,strikeH,putAll]
    | some e => rfl
theorem step1_some {draw : Bool} {hd : List Nat} {all : List Oper} {o : Oper} {st st' : St} : step1 T C draw hd all o st = some st' ↔
    ∃ e,actE T C all o st.env (hideH hd (look st.heap)) = some e ∧ frzOk (e.new ++ e.frz) = true ∧ quietEff draw (opClass T all o) (opSites all o) st.heap e = true ∧ st' = st.apply o.dst e := by
  rw [step1_eq]
  cases h : actE T C all o st.env (hideH hd (look st.heap)) with
  | none => simp
  | some e =>
    simp only [Option.bind_some,Option.some.injEq,exists_eq_left']
    constructor
    · intro h
      split at h
      · rename_i hc
        simp only [Bool.and_eq_true] at hc
        exact ⟨hc.1,hc.2,by simpa using h.symm⟩
      · cases h
    · rintro ⟨h1,h2,rfl⟩
      rw [if_pos (by simp [h1,h2])]
theorem step1_congr {draw : Bool} {hd : List Nat} {all : List Oper} {o : Oper} {s t s' : St} (h : Same s t) (h1 : step1 T C draw hd all o s = some s') : ∃ t',step1 T C draw hd all o t = some t' ∧ Same s' t' := by
  obtain ⟨e,g1,g2,g3,rfl⟩ := step1_some.1 h1
  refine ⟨t.apply o.dst e,step1_some.2 ⟨e,?_,g2,?_,rfl⟩,apply_congr h _ _⟩
  · rw [← h.1,← h.2]; exact g1
  · rw [← quiet_congr h.2]; exact g3
def lastOf : List (Nat × Blk) → Nat → Option Blk
  | [],_ => none
  | (s,b)::r,x => match lastOf r x with
    | some c => some c
    | none => if x = s then some b else none
theorem look_putAll_last : ∀ (c : List (Nat × Blk)) (hp : Heap) (x : Nat),look (putAll hp c) x = match lastOf c x with | some b => some b | none => look hp x
  | [],hp,x => rfl
  | (s,b)::r,hp,x => by
    show look (putAll (put hp s b) r) x = _
    rw [look_putAll_last r]
    simp only [lastOf]
    cases lastOf r x with
    | some c => rfl
    | none =>
      simp only [look_put]
      by_cases h : x = s <;> simp [h]
theorem lastOf_none {x : Nat} : ∀ {c : List (Nat × Blk)},x ∉ keysOf c → lastOf c x = none
  | [],_ => rfl
  | (s,b)::r,h => by
    simp only [keysOf,List.mem_cons,not_or] at h
    simp [lastOf,lastOf_none h.2,h.1]
theorem putAll_swap {c1 c2 : List (Nat × Blk)} (h : ∀ x,x ∈ keysOf c1 → x ∉ keysOf c2) (hp : Heap) : look (putAll (putAll hp c1) c2) = look (putAll (putAll hp c2) c1) := by
  funext x
  simp only [look_putAll_last]
  by_cases h1 : x ∈ keysOf c1
  · rw [lastOf_none (h x h1)]
  · rw [lastOf_none h1]
theorem keysIn_mem {ss : List Nat} : ∀ {c : List (Nat × Blk)},keysIn ss c = true → ∀ x ∈ keysOf c,x ∈ ss
  | [],_,x,h => by simp [keysOf] at h
  | (k,b)::r,h,x,hx => by
    simp only [keysIn,Bool.and_eq_true] at h
    simp only [keysOf,List.mem_cons] at hx
    rcases hx with rfl | hx
    · exact memN_iff.1 h.1
    · exact keysIn_mem h.2 x hx
theorem subN_mem {ss : List Nat} : ∀ {l : List Nat},subN ss l = true → ∀ x ∈ l,x ∈ ss
  | [],_,x,h => by simp at h
  | y::r,h,x,hx => by
    simp only [subN,Bool.and_eq_true] at h
    rcases List.mem_cons.1 hx with rfl | hx
    · exact memN_iff.1 h.1
    · exact subN_mem h.2 x hx
theorem hide_put {U : List Nat} {c : List (Nat × Blk)} (h : ∀ x ∈ keysOf c,x ∈ U) (hp : Heap) : hideH U (look (putAll hp c)) = hideH U (look hp) := by
  cases U with
  | nil =>
    cases c with
    | nil => rfl
    | cons p r => obtain ⟨k,b⟩ := p; exact absurd (h k (by simp [keysOf])) (by simp)
  | cons s r =>
    funext x
    simp only [hideH]
    cases hm : memN x (s::r) with
    | true => rfl
    | false =>
      simp only [cond_false]
      rw [look_putAll_last,lastOf_none fun hx => memN_false.1 hm (h x hx)]
theorem present_empty {hp : Heap} : ∀ {l : List Nat},present hp l = [] ↔ ∀ s ∈ l,look hp s = none
  | [] => by simp [present]
  | s::r => by
    simp only [present,List.mem_cons,forall_eq_or_imp]
    cases h : look hp s with
    | some b => simp
    | none => simp [present_empty]
theorem setEnv_comm {env : List AV} {d1 d2 : Option Nat} {v1 v2 : AV} (h : ∀ d,d1 = some d → d2 ≠ some d) : setEnv (setEnv env d1 v1) d2 v2 = setEnv (setEnv env d2 v2) d1 v1 := by
  cases d1 with
  | none => rfl
  | some a =>
    cases d2 with
    | none => rfl
    | some b => exact List.set_comm _ _ fun e => h a rfl (by rw [e])
theorem setEnv_getD {env : List AV} {d : Option Nat} {v : AV} {t : Nat} (h : d ≠ some t) : (setEnv env d v).getD t .undef = env.getD t .undef := by
  cases d with
  | none => rfl
  | some a =>
    have : a ≠ t := fun e => h (by rw [e])
    simp only [setEnv,List.getD_eq_getElem?_getD,List.getElem?_set_ne this]
theorem killEnv_set {ss : List Nat} {env : List AV} {d : Option Nat} {v : AV} (h : v = .undef ∨ v = .tup [] ∨ ∃ x,v = .p x) : killEnv ss (setEnv env d v) = setEnv (killEnv ss env) d v := by
  have hk : AV.kill ss v = v := by
    rcases h with rfl | rfl | ⟨x,rfl⟩ <;> rfl
  cases d with
  | none => rfl
  | some a =>
    apply List.ext_getElem?
    intro i
    simp only [setEnv,killEnv_get]
    by_cases hi : a = i
    · subst hi
      by_cases hl : a < env.length
      · simp [hl,killEnv_length,hk]
      · rw [List.getElem?_eq_none (by simp; omega),List.getElem?_eq_none (by simp [killEnv_length]; omega)]; rfl
    · rw [List.getElem?_set_ne hi,List.getElem?_set_ne hi,killEnv_get]
theorem killEnv_p {ss : List Nat} {env : List AV} {t : Nat} {v : PV} : (killEnv ss env).getD t .undef = .p v ↔ env.getD t .undef = .p v := by
  simp only [List.getD_eq_getElem?_getD,killEnv_get]
  cases env[t]? with
  | none => simp
  | some u =>
    simp only [Option.map_some,Option.getD_some]
    unfold AV.kill
    cases h : AV.refers ss u with
    | false => simp
    | true =>
      simp only [cond_true]
      constructor
      · intro h'; cases h'
      · rintro rfl; simp [AV.refers] at h
theorem killEnv_hole {ss : List Nat} {env : List AV} {t : Nat} : (killEnv ss env).getD t .undef = .tup [] ↔ env.getD t .undef = .tup [] := by
  simp only [List.getD_eq_getElem?_getD,killEnv_get]
  cases env[t]? with
  | none => simp
  | some u =>
    simp only [Option.map_some,Option.getD_some]
    unfold AV.kill
    cases h : AV.refers ss u with
    | false => simp
    | true =>
      simp only [cond_true]
      constructor
      · intro h'; cases h'
      · rintro rfl; simp [AV.refers,AV.refersAny] at h
def IsG (v : AV) : Prop := (∃ b,v = .p (.bool b)) ∨ v = .tup []
theorem killEnv_g {ss : List Nat} {env : List AV} {t : Nat} {v : AV} (hv : IsG v) : (killEnv ss env).getD t .undef = v ↔ env.getD t .undef = v := by
  rcases hv with ⟨b,rfl⟩ | rfl
  · exact killEnv_p
  · exact killEnv_hole
end
end Go.Skm
namespace Go.Skm
section
variable {T : Tab} {C : CallF}
theorem noneIn_mem {ss : List Nat} : ∀ {l : List Nat},noneIn ss l = true → ∀ x ∈ l,x ∉ ss
  | [],_,x,h => by simp at h
  | y::r,h,x,hx => by
    simp only [noneIn,Bool.and_eq_true,Bool.not_eq_true'] at h
    rcases List.mem_cons.1 hx with rfl | hx
    · exact memN_false.1 h.1
    · exact noneIn_mem h.2 x hx
theorem apartO_spec {all : List Oper} {x y : Oper} (h : apartO all x y = true) :
    (∀ d,x.dst = some d → d ∉ looksOf all y) ∧ (∀ d,x.dst = some d → y.dst ≠ some d) ∧ (∀ d,y.dst = some d → d ∉ looksOf all x) := by
  unfold apartO at h
  simp only [Bool.and_eq_true] at h
  refine ⟨fun d hd => ?_,fun d hd => ?_,fun d hd => ?_⟩
  · have := h.1; rw [hd] at this; simp only [Bool.and_eq_true,Bool.not_eq_true'] at this; exact memN_false.1 this.1
  · have := h.1; rw [hd] at this; simp only [Bool.and_eq_true,Bool.not_eq_true'] at this; simpa using this.2
  · have := h.2; rw [hd] at this; simp only [Bool.not_eq_true'] at this; exact memN_false.1 this
theorem apply_simple {st : St} {d : Option Nat} {e : Eff} (h1 : e.cut = []) (h2 : e.frz = []) (h3 : present st.heap e.new = []) : st.apply d e = ⟨setEnv st.env d e.val,putAll st.heap e.chg⟩ := by
  rw [apply_eq,h1,h2,h3]
  simp [killEnv_nil,killH,strikeH]
theorem actE_const {all : List Oper} {o : Oper} (hc : opClass T all o = .const) {env : List AV} {h : Nat → Option Blk} {e : Eff} (he : actE T C all o env h = some e) :
    (∃ v,e = { val := v } ∧ (v = .undef ∨ v = .tup [] ∨ ∃ x,v = .p x)) ∧
    ∀ env' h',(∀ g want t v,o.guard = some (g,want) → dstOf all g = some t → IsG v → env.getD t .undef = v → env'.getD t .undef = v) → actE T C all o env' h' = some e := by
  obtain ⟨v,hv,hs⟩ := stepOp_const (C := C) hc
  have hv' : v = .undef ∨ v = .tup [] ∨ ∃ x,v = .p x := hv.imp id .inr
  unfold actE act1 at he ⊢
  simp only [hs] at he ⊢
  cases hg : o.guard with
  | none =>
    rw [hg] at he
    simp only [DT.run,Option.map_some,Option.getD_some,Option.some.injEq] at he
    subst he
    exact ⟨⟨v,rfl,hv'⟩,fun env' h' _ => rfl⟩
  | some gw =>
    obtain ⟨g,want⟩ := gw
    rw [hg] at he
    simp only at he ⊢
    cases hd : dstOf all g with
    | none => rw [hd] at he; simp at he
    | some t =>
      rw [hd] at he
      simp only at he ⊢
      by_cases hx : ∃ b,env.getD t .undef = .p (.bool b)
      · obtain ⟨b,hb⟩ := hx
        rw [hb] at he
        simp only at he
        refine ⟨?_,fun env' h' hk => ?_⟩
        · split at he
          · simp [DT.run] at he; subst he; exact ⟨v,rfl,hv'⟩
          · simp at he; subst he; exact ⟨.tup [],rfl,.inr (.inl rfl)⟩
        · rw [hk g want t _ rfl hd (.inl ⟨b,rfl⟩) hb]
          exact he
      · by_cases hh : env.getD t .undef = .tup []
        · rw [hh] at he
          simp only [Option.map_some,Option.getD_none,Option.some.injEq] at he
          subst he
          refine ⟨⟨.tup [],rfl,.inr (.inl rfl)⟩,fun env' h' hk => ?_⟩
          rw [hk g want t _ rfl hd (.inr rfl) hh]
          rfl
        · split at he
          · rename_i b hb; exact absurd ⟨b,hb⟩ hx
          all_goals (first | exact absurd ⟨_,‹_›⟩ hx | exact absurd ‹_› hh | simp at he)
theorem guard_looks {all : List Oper} {o : Oper} {g t : Nat} {want : Bool} (hg : o.guard = some (g,want)) (hd : dstOf all g = some t) : t ∈ looksOf all o := by
  unfold looksOf
  unfold dstOf at hd
  rw [hg]
  simp [hd]
def Facts (o : List Nat) (e : Eff) : Cls → Prop
  | .read => (∀ x ∈ keysOf e.chg,x ∈ o) ∧ (∀ x ∈ e.new,x ∈ o)
  | .own t => (∀ x ∈ keysOf e.chg,x ∈ [t]) ∧ e.new = []
  | .store => e.new = []
  | _ => e.chg = [] ∧ e.new = []
def notHeavy : Cls → Bool
  | .heavy => false
  | _ => true
theorem quiet_facts {cls : Cls} {o : List Nat} {h : Heap} {e : Eff} (hq : quietEff true cls o h e = true) (hc : notHeavy cls = true) :
    e.cut = [] ∧ e.frz = [] ∧ present h e.new = [] ∧
    Facts o e cls := by
  cases cls with
  | heavy => cases hc
  | read =>
    simp only [quietEff,Bool.and_eq_true,List.isEmpty_iff] at hq
    exact ⟨hq.1,hq.2.1,hq.2.2.2.2,fun x hx => keysIn_mem hq.2.2.1 x hx,fun x hx => subN_mem hq.2.2.2.1 x hx⟩
  | own t =>
    simp only [quietEff,Bool.and_eq_true,List.isEmpty_iff] at hq
    exact ⟨hq.1,hq.2.1,by rw [hq.2.2.2]; rfl,fun x hx => keysIn_mem hq.2.2.1 x hx,hq.2.2.2⟩
  | store =>
    simp only [quietEff,Bool.and_eq_true,List.isEmpty_iff] at hq
    exact ⟨hq.1,hq.2.1,by rw [hq.2.2]; rfl,hq.2.2⟩
  | pure =>
    simp only [quietEff,Bool.and_eq_true,List.isEmpty_iff] at hq
    exact ⟨hq.1,hq.2.1,by rw [hq.2.2.2]; rfl,hq.2.2.1,hq.2.2.2⟩
  | const =>
    simp only [quietEff,Bool.and_eq_true,List.isEmpty_iff] at hq
    exact ⟨hq.1,hq.2.1,by rw [hq.2.2.2]; rfl,hq.2.2.1,hq.2.2.2⟩
theorem quiet_move {cls : Cls} {o : List Nat} {h h' : Heap} {e : Eff} (hq : quietEff true cls o h e = true) (hp : present h' e.new = []) : quietEff true cls o h' e = true := by
  cases cls with
  | read =>
    simp only [quietEff,Bool.and_eq_true,List.isEmpty_iff] at hq ⊢
    exact ⟨hq.1,hq.2.1,hq.2.2.1,hq.2.2.2.1,hp⟩
  | _ => exact hq
theorem swap {all : List Oper} {hx ho : List Nat} {x o : Oper} {st st1 st2 : St} (h1 : step1 T C true hx all x st = some st1) (h2 : step1 T C true ho all o st1 = some st2) (hcl : clashFree T all hx ho x o = true)
    (s1 : ∀ s ∈ opSites all x,s ∈ ho) (s2 : ∀ s ∈ opSites all o,s ∈ hx) : ∃ st1' st2',step1 T C true ho all o st = some st1' ∧ step1 T C true hx all x st1' = some st2' ∧ Same st2' st2 := by
  obtain ⟨ex,x1,x2,x3,rfl⟩ := step1_some.1 h1
  obtain ⟨eo,o1,o2,o3,rfl⟩ := step1_some.1 h2
  unfold clashFree at hcl
  simp only [Bool.and_eq_true] at hcl
  obtain ⟨hap,hno,hcls⟩ := hcl
  obtain ⟨a1,a2,a3⟩ := apartO_spec hap
  have hno := noneIn_mem hno
  by_cases hcx : opClass T all x = .const
  · -- the first one is constant
    obtain ⟨⟨v,rfl,hv⟩,hk⟩ := actE_const hcx x1
    have e1 : st.apply x.dst { val := v } = ⟨setEnv st.env x.dst v,st.heap⟩ := apply_simple rfl rfl rfl
    rw [e1] at o1 o3 ⊢
    have o1' : actE T C all o st.env (hideH ho (look st.heap)) = some eo := by
      rw [← o1]; exact actE_congr fun t ht => (setEnv_getD fun e => a1 t e ht).symm
    refine ⟨st.apply o.dst eo,_,step1_some.2 ⟨eo,o1',o2,o3,rfl⟩,step1_some.2 ⟨{ val := v },hk _ _ fun g want t u hg hd hu hb => ?_,x2,by rw [hcx]; rfl,rfl⟩,?_⟩
    · rw [apply_eq]
      simp only
      rw [setEnv_getD fun e => a3 t e (guard_looks hg hd),killEnv_g hu,killEnv_g hu]
      exact hb
    · rw [apply_simple rfl rfl rfl,apply_eq,apply_eq]
      refine ⟨?_,rfl⟩
      simp only
      rw [killEnv_set hv,killEnv_set hv]
      exact setEnv_comm fun d hd e => a2 d e hd
  · by_cases hco : opClass T all o = .const
    · -- the second one is constant
      obtain ⟨⟨v,rfl,hv⟩,hk⟩ := actE_const hco o1
      have o1' : actE T C all o st.env (hideH ho (look st.heap)) = some { val := v } := by
        refine hk _ _ fun g want t u hg hd hu hb => ?_
        rw [apply_eq] at hb
        simp only at hb
        rwa [setEnv_getD fun e => a1 t e (guard_looks hg hd),killEnv_g hu,killEnv_g hu] at hb
      have e1 : st.apply o.dst { val := v } = ⟨setEnv st.env o.dst v,st.heap⟩ := apply_simple rfl rfl rfl
      refine ⟨st.apply o.dst { val := v },st.apply o.dst { val := v } |>.apply x.dst ex,step1_some.2 ⟨{ val := v },o1',o2,by rw [hco]; rfl,rfl⟩,step1_some.2 ⟨ex,?_,x2,by rw [e1]; exact x3,rfl⟩,?_⟩
      · rw [e1,← x1]; exact actE_congr fun t ht => setEnv_getD fun e => a3 t e ht
      · rw [e1,apply_simple (st := st.apply x.dst ex) rfl rfl rfl,apply_eq,apply_eq]
        refine ⟨?_,rfl⟩
        simp only
        rw [killEnv_set hv,killEnv_set hv]
        exact (setEnv_comm fun d hd e => a2 d hd e).symm
    · -- neither: both only write slots and lay blocks
      have cx : notHeavy (opClass T all x) = true := by
        cases hx' : opClass T all x <;> rw [hx'] at hcls <;> first | rfl | skip
        cases ho' : opClass T all o <;> rw [ho'] at hcls <;> simp at hcls
        exact absurd ho' hco
      have co : notHeavy (opClass T all o) = true := by
        cases ho' : opClass T all o <;> rw [ho'] at hcls <;> first | rfl | skip
        cases hx' : opClass T all x <;> rw [hx'] at hcls <;> simp at hcls
        exact absurd hx' hcx
      obtain ⟨p1,p2,p3,p4⟩ := quiet_facts x3 cx
      obtain ⟨q1,q2,q3,q4⟩ := quiet_facts o3 co
      have e1 := apply_simple (d := x.dst) p1 p2 p3
      rw [e1] at o1 o3 q3 ⊢
      rw [apply_simple q1 q2 q3]
      simp only at o1 o3 q3 ⊢
      have facts : (opClass T all o = .pure ∨ ∀ s ∈ keysOf ex.chg,s ∈ ho) ∧ (opClass T all x = .pure ∨ ∀ s ∈ keysOf eo.chg,s ∈ hx) ∧ (∀ s ∈ keysOf ex.chg,s ∉ keysOf eo.chg) ∧ (∀ s ∈ ex.new,s ∉ keysOf eo.chg) := by
        cases hx' : opClass T all x with
        | const => exact absurd hx' hcx
        | heavy => rw [hx'] at cx; cases cx
        | pure =>
          rw [hx'] at p4
          simp only [Facts] at p4
          refine ⟨.inr ?_,.inl rfl,?_,?_⟩ <;> simp [p4.1,p4.2,keysOf]
        | read =>
          rw [hx'] at p4 hcls
          simp only [Facts] at p4
          cases ho' : opClass T all o with
          | const => exact absurd ho' hco
          | heavy => rw [ho'] at co; cases co
          | pure =>
            rw [ho'] at q4
            simp only [Facts] at q4
            refine ⟨.inl rfl,.inr ?_,?_,?_⟩ <;> simp [q4.1,keysOf]
          | read =>
            rw [ho'] at q4
            simp only [Facts] at q4
            exact ⟨.inr fun s hs => s1 s (p4.1 s hs),.inr fun s hs => s2 s (q4.1 s hs),fun s h1 h2 => hno s (q4.1 s h2) (p4.1 s h1),fun s h1 h2 => hno s (q4.1 s h2) (p4.2 s h1)⟩
          | own t =>
            rw [ho'] at q4 hcls
            simp only [Facts,Bool.and_eq_true,Bool.not_eq_true'] at q4 hcls
            have ht : ∀ s ∈ keysOf eo.chg,s ∈ hx ∧ s ∉ opSites all x := fun s hs => by
              have := q4.1 s hs
              simp at this; subst this
              exact ⟨memN_iff.1 hcls.1,memN_false.1 hcls.2⟩
            exact ⟨.inr fun s hs => s1 s (p4.1 s hs),.inr fun s hs => (ht s hs).1,fun s h1 h2 => (ht s h2).2 (p4.1 s h1),fun s h1 h2 => (ht s h2).2 (p4.2 s h1)⟩
          | store => rw [ho'] at hcls; simp at hcls
        | own t =>
          rw [hx'] at p4 hcls
          simp only [Facts] at p4
          cases ho' : opClass T all o with
          | const => exact absurd ho' hco
          | heavy => rw [ho'] at co; cases co
          | pure =>
            rw [ho'] at q4
            simp only [Facts] at q4
            refine ⟨.inl rfl,.inr ?_,?_,?_⟩ <;> simp [q4.1,keysOf]
          | read =>
            rw [ho'] at q4 hcls
            simp only [Facts,Bool.and_eq_true,Bool.not_eq_true'] at q4 hcls
            have ht : ∀ s ∈ keysOf ex.chg,s ∈ ho ∧ s ∉ opSites all o := fun s hs => by
              have := p4.1 s hs
              simp at this; subst this
              exact ⟨memN_iff.1 hcls.1,memN_false.1 hcls.2⟩
            exact ⟨.inr fun s hs => (ht s hs).1,.inr fun s hs => s2 s (q4.1 s hs),fun s h1 h2 => (ht s h1).2 (q4.1 s h2),fun s h1 => by rw [p4.2] at h1; simp at h1⟩
          | own t => rw [ho'] at hcls; simp at hcls
          | store => rw [ho'] at hcls; simp at hcls
        | store =>
          rw [hx'] at p4 hcls
          simp only [Facts] at p4
          cases ho' : opClass T all o with
          | const => exact absurd ho' hco
          | heavy => rw [ho'] at co; cases co
          | pure =>
            rw [ho'] at q4
            simp only [Facts] at q4
            refine ⟨.inl rfl,.inr ?_,?_,?_⟩ <;> simp [q4.1,keysOf]
          | read => rw [ho'] at hcls; simp at hcls
          | own t => rw [ho'] at hcls; simp at hcls
          | store => rw [ho'] at hcls; simp at hcls
      obtain ⟨f1,f2,f3,f4⟩ := facts
      have n1 : present st.heap eo.new = [] := by
        rw [present_empty] at q3 ⊢
        intro s hs
        have := q3 s hs
        rw [look_putAll_last] at this
        split at this
        · cases this
        · exact this
      have o1' : actE T C all o st.env (hideH ho (look st.heap)) = some eo := by
        rw [actE_congr fun t ht => setEnv_getD fun e => a1 t e ht] at o1
        rcases f1 with f1 | f1
        · rw [← o1]; exact actE_pure f1
        · rwa [hide_put f1] at o1
      have n2 : present (putAll st.heap eo.chg) ex.new = [] := by
        rw [present_empty] at p3 ⊢
        intro s hs
        rw [look_putAll_last,lastOf_none (f4 s hs)]
        exact p3 s hs
      refine ⟨⟨setEnv st.env o.dst eo.val,putAll st.heap eo.chg⟩,⟨setEnv (setEnv st.env o.dst eo.val) x.dst ex.val,putAll (putAll st.heap eo.chg) ex.chg⟩,step1_some.2 ⟨eo,o1',o2,quiet_move o3 n1,(apply_simple q1 q2 n1).symm⟩,step1_some.2 ⟨ex,?_,x2,quiet_move x3 n2,(apply_simple (st := ⟨setEnv st.env o.dst eo.val,putAll st.heap eo.chg⟩) p1 p2 n2).symm⟩,?_⟩
      · simp only
        rw [actE_congr fun t ht => setEnv_getD fun e => a3 t e ht]
        rcases f2 with f2 | f2
        · rw [← x1]; exact actE_pure f2
        · rw [hide_put f2]; exact x1
      · exact ⟨(setEnv_comm fun d hd e => a2 d hd e).symm,(putAll_swap (fun s h1 => f3 s h1) st.heap).symm⟩
end
end Go.Skm
namespace Go.Skm
section
variable {T : Tab} {C : CallF} {hd : List (List Nat)} {all : List Oper}
def runsL (T : Tab) (C : CallF) (hd : List (List Nat)) (all : List Oper) : List (Nat × Oper) → St → St → Prop
  | [],st,fin => Same st fin
  | (j,o)::r,st,fin => ∃ st1,step1 T C true (hd.getD j []) all o st = some st1 ∧ runsL T C hd all r st1 fin
def num : Nat → List Oper → List (Nat × Oper)
  | _,[] => []
  | k,o::r => (k,o)::num (k + 1) r
theorem runsL_congr : ∀ {l : List (Nat × Oper)} {s t fin : St},Same s t → runsL T C hd all l s fin → runsL T C hd all l t fin
  | [],s,t,fin,h,h1 => h.symm.trans h1
  | (j,o)::r,s,t,fin,h,h1 => by
    obtain ⟨s1,h2,h3⟩ := h1
    obtain ⟨t1,h4,h5⟩ := step1_congr h h2
    exact ⟨t1,h4,runsL_congr h5 h3⟩
theorem runsL_of {α : Type} {k : St → Option α} {x : α} : ∀ {l : List Oper} {j : Nat} {st : St},runOps T C true hd all l j st k = some x → ∃ fin,runsL T C hd all (num j l) st fin ∧ k fin = some x
  | [],j,st,h => ⟨st,Same.refl st,h⟩
  | o::r,j,st,h => by
    rw [runOps_cons _ _ rfl] at h
    cases h1 : step1 T C true (hd.getD j []) all o st with
    | none => rw [h1] at h; cases h
    | some st1 =>
      rw [h1] at h
      obtain ⟨fin,h2,h3⟩ := runsL_of (l := r) (j := j + 1) (st := st1) h
      exact ⟨fin,⟨st1,h1,h2⟩,h3⟩
theorem front {i : Nat} {o : Oper} {R2 : List (Nat × Oper)} : ∀ {R1 : List (Nat × Oper)} {st fin : St},runsL T C hd all (R1 ++ (i,o)::R2) st fin →
    (∀ p ∈ R1,clashFree T all (hd.getD p.1 []) (hd.getD i []) p.2 o = true ∧ (∀ s ∈ opSites all p.2,s ∈ hd.getD i []) ∧ (∀ s ∈ opSites all o,s ∈ hd.getD p.1 [])) →
    ∃ st1,step1 T C true (hd.getD i []) all o st = some st1 ∧ runsL T C hd all (R1 ++ R2) st1 fin
  | [],st,fin,h,_ => h
  | (j,x)::R1,st,fin,h,hp => by
    obtain ⟨s1,h1,h2⟩ := h
    obtain ⟨s2,h3,h4⟩ := front (R1 := R1) h2 fun p hp' => hp p (by simp [hp'])
    obtain ⟨c1,c2,c3⟩ := hp (j,x) (by simp)
    obtain ⟨t1,t2,h5,h6,h7⟩ := swap h1 h3 c1 c2 c3
    exact ⟨t1,h5,t2,h6,runsL_congr h7.symm h4⟩
def filt (listed : Array Bool) (l : List (Nat × Oper)) : List (Nat × Oper) := l.filter fun p => !listed.getD p.1 true
theorem filt_ne {listed : Array Bool} {i : Nat} : ∀ {l : List Oper} {k : Nat},i < k → filt (listed.setIfInBounds i true) (num k l) = filt listed (num k l)
  | [],_,_ => rfl
  | o::r,k,h => by
    have h1 := filt_ne (listed := listed) (l := r) (k := k + 1) (i := i) (by omega)
    unfold filt at h1 ⊢
    simp only [num,List.filter_cons,h1,getD_set_ne true (show i ≠ k by omega)]
theorem rest_split {listed : Array Bool} {i : Nat} {o : Oper} (hi : listed.getD i true = false) : ∀ {l : List Oper} {k : Nat},k ≤ i → l[i - k]? = some o →
    ∃ R1 R2,filt listed (num k l) = R1 ++ (i,o)::R2 ∧ filt (listed.setIfInBounds i true) (num k l) = R1 ++ R2 ∧ ∀ p ∈ R1,k ≤ p.1 ∧ p.1 < i ∧ l[p.1 - k]? = some p.2 ∧ listed.getD p.1 true = false
  | [],k,_,h => by simp at h
  | x::r,k,hk,h => by
    by_cases he : k = i
    · subst he
      simp at h; subst h
      refine ⟨[],filt listed (num (k + 1) r),?_,?_,by simp⟩
      · simp only [filt,num,List.filter_cons,hi]; simp
      · have := filt_ne (listed := listed) (l := r) (k := k + 1) (i := k) (by omega)
        have h2 : (listed.setIfInBounds k true).getD k true = true := by
          have hlt : k < listed.size := by
            rcases Nat.lt_or_ge k listed.size with h' | h'
            · exact h'
            · simp [Array.getElem?_eq_none h'] at hi
          simp [hlt]
        unfold filt at this ⊢
        simp only [num,List.filter_cons,h2,this]; simp
    · have h' : r[i - (k + 1)]? = some o := by
        have : i - k = (i - (k + 1)) + 1 := by omega
        rw [this] at h; simpa using h
      obtain ⟨R1,R2,g1,g2,g3⟩ := rest_split hi (l := r) (k := k + 1) (by omega) h'
      have hne : (listed.setIfInBounds i true).getD k true = listed.getD k true := getD_set_ne true (Ne.symm he)
      have up : ∀ p ∈ R1,k ≤ p.1 ∧ p.1 < i ∧ (x::r)[p.1 - k]? = some p.2 ∧ listed.getD p.1 true = false := fun p hp => by
        obtain ⟨q1,q2,q3,q4⟩ := g3 p hp
        refine ⟨by omega,q2,?_,q4⟩
        have : p.1 - k = (p.1 - (k + 1)) + 1 := by omega
        rw [this]; simpa using q3
      cases hl : listed.getD k true with
      | true =>
        refine ⟨R1,R2,?_,?_,up⟩
        · rw [← g1]; simp only [filt,num,List.filter_cons,hl]; simp
        · rw [← g2]; simp only [filt,num,List.filter_cons,hne,hl]; simp
      | false =>
        refine ⟨(k,x)::R1,R2,?_,?_,fun p hp => ?_⟩
        · rw [List.cons_append,← g1]; simp only [filt,num,List.filter_cons,hl]; simp
        · rw [List.cons_append,← g2]; simp only [filt,num,List.filter_cons,hne,hl]; simp
        · rcases List.mem_cons.1 hp with rfl | hp
          · exact ⟨Nat.le_refl _,by simp only; omega,by simp,hl⟩
          · exact up p hp
theorem addAll_mem {x : Nat} : ∀ {l acc : List Nat},x ∈ addAll acc l ↔ x ∈ acc ∨ x ∈ l
  | [],acc => by simp [addAll]
  | y::r,acc => by
    simp only [addAll,addAll_mem (l := r),List.mem_cons]
    cases h : memN y acc with
    | true =>
      have := memN_iff.1 h
      simp only [cond_true]
      constructor
      · rintro (h | h) <;> simp [h]
      · rintro (h | rfl | h) <;> simp [*]
    | false =>
      simp only [cond_false,List.mem_cons]
      constructor
      · rintro ((h | h) | h) <;> simp [h]
      · rintro (h | h | h) <;> simp [h]
theorem preds_mem {done : List (List Nat)} {x : Nat} : ∀ {l : List Edge} {acc : List Nat},x ∈ l.foldl (fun acc e => match e.ground with
    | .textOnly _ => acc
    | .gcOnly _ => acc
    | _ => addAll (addAll acc [e.on]) (done.getD e.on [])) acc → x ∈ acc ∨ ∃ e ∈ l,Region.binds .any e = true ∧ (x = e.on ∨ x ∈ done.getD e.on [])
  | [],acc,h => .inl h
  | e::r,acc,h => by
    simp only [List.foldl_cons] at h
    rcases preds_mem h with h | ⟨e',h1,h2⟩
    · have hb : (∀ d,e.ground ≠ .textOnly d) → (∀ d,e.ground ≠ .gcOnly d) → Region.binds .any e = true := by
        intro g1 g2
        unfold Region.binds
        cases hg : e.ground <;> simp_all
      have sub : x ∈ addAll (addAll acc [e.on]) (done.getD e.on []) → x ∈ acc ∨ (x = e.on ∨ x ∈ done.getD e.on []) := by
        intro h
        rw [addAll_mem,addAll_mem] at h
        simp only [List.mem_singleton] at h
        rcases h with (h | h) | h
        · exact .inl h
        · exact .inr (.inl h)
        · exact .inr (.inr h)
      cases hg : e.ground with
      | textOnly d => rw [hg] at h; exact .inl h
      | gcOnly d => rw [hg] at h; exact .inl h
      | _ =>
        rw [hg] at h
        rcases sub h with h | h
        · exact .inl h
        · exact .inr ⟨e,by simp,hb (by simp [hg]) (by simp [hg]),h⟩
    · exact .inr ⟨e',by simp [h1],h2⟩
theorem predTable_get : ∀ {l : List Oper} {acc : List (List Nat)},(∀ n,n < acc.length → (predTable l acc)[n]? = acc[n]?) ∧
    ∀ n o,l[n]? = some o → ∃ done,(predTable l acc)[acc.length + n]? = some (predsOf done o) ∧ ∀ m,done.getD m [] = [] ∨ done.getD m [] = (predTable l acc).getD m []
  | [],acc => ⟨fun n _ => rfl,fun n o h => by simp at h⟩
  | x::r,acc => by
    obtain ⟨h1,h2⟩ := predTable_get (l := r) (acc := acc ++ [predsOf acc x])
    have e : predTable (x::r) acc = predTable r (acc ++ [predsOf acc x]) := rfl
    rw [e]
    have pre : ∀ n,n < acc.length → (predTable r (acc ++ [predsOf acc x]))[n]? = acc[n]? := fun n hn => by
      rw [h1 n (by simp; omega),List.getElem?_append_left hn]
    refine ⟨pre,fun n o hn => ?_⟩
    cases n with
    | zero =>
      simp at hn; subst hn
      refine ⟨acc,?_,fun m => ?_⟩
      · rw [Nat.add_zero,h1 acc.length (by simp)]; simp
      · by_cases hm : m < acc.length
        · right; rw [List.getD_eq_getElem?_getD,List.getD_eq_getElem?_getD,pre m hm]
        · left; rw [List.getD_eq_getElem?_getD,List.getElem?_eq_none (by omega)]; rfl
    | succ n =>
      simp at hn
      obtain ⟨done,h3,h4⟩ := h2 n o hn
      refine ⟨done,?_,h4⟩
      rw [← h3]
      congr 1
      simp only [List.length_append,List.length_singleton]; omega
theorem pred_of {i x : Nat} {o : Oper} (ho : all[i]? = some o) (hx : x ∈ (predTable all []).getD i []) : ∃ e ∈ o.after,Region.binds .any e = true ∧ (x = e.on ∨ x ∈ (predTable all []).getD e.on []) := by
  obtain ⟨_,h⟩ := predTable_get (l := all) (acc := [])
  obtain ⟨done,h1,h2⟩ := h i o ho
  simp only [List.length_nil,Nat.zero_add] at h1
  rw [List.getD_eq_getElem?_getD,h1] at hx
  simp only [Option.getD_some] at hx
  unfold predsOf at hx
  rcases preds_mem hx with h3 | ⟨e,h3,h4,h5⟩
  · simp at h3
  · refine ⟨e,by simpa using h3,h4,h5.imp id fun h5 => ?_⟩
    rcases h2 e.on with h6 | h6
    · rw [h6] at h5; simp at h5
    · rw [h6] at h5; exact h5
theorem okDraw_get {tab : List (List Nat)} : ∀ {l : List Oper} {k : Nat},okDraw T all tab hd k l = true → ∀ n o,l[n]? = some o → backEdges (k + n) o = true ∧ openOk T all hd (tab.getD (k + n) []) (k + n) o 0 all = true
  | [],k,_,n,o,h => by simp at h
  | x::r,k,h,n,o,ho => by
    simp only [okDraw,Bool.and_eq_true] at h
    cases n with
    | zero => simp at ho; subst ho; exact ⟨h.1.1,h.1.2⟩
    | succ n =>
      simp at ho
      have := okDraw_get h.2 n o ho
      rw [show k + 1 + n = k + (n + 1) from by omega] at this
      exact this
theorem openOk_get {preds : List Nat} {j : Nat} {o : Oper} : ∀ {l : List Oper} {k : Nat},openOk T all hd preds j o k l = true → ∀ n x,l[n]? = some x → k + n < j → k + n ∉ preds → clashFree T all (hd.getD (k + n) []) (hd.getD j []) x o = true
  | [],k,_,n,x,h => by simp at h
  | y::r,k,h,n,x,hx => by
    intro hlt hp
    have hkj : Nat.ble j k = false := by
      cases hb : Nat.ble j k with
      | false => rfl
      | true => have := Nat.le_of_ble_eq_true hb; omega
    simp only [openOk,hkj,cond_false,Bool.and_eq_true] at h
    cases n with
    | zero =>
      simp at hx; subst hx
      have h1 := h.1
      rw [memN_false.2 (by simpa using hp)] at h1
      simpa using h1
    | succ n =>
      simp at hx
      have e : k + (n + 1) = k + 1 + n := by omega
      rw [e] at hlt hp ⊢
      exact openOk_get h.2 n x hx hlt hp
theorem back_lt {j : Nat} {o : Oper} (h : backEdges j o = true) {e : Edge} (he : e ∈ o.after) (hb : Region.binds .any e = true) : e.on < j := by
  unfold backEdges at h
  have := List.all_eq_true.1 h e (by simpa using he)
  unfold Region.binds at hb
  split at this
  · rename_i hg; rw [hg] at hb; simp at hb
  · rename_i hg; rw [hg] at hb; simp at hb
  · exact Nat.le_of_ble_eq_true this
theorem openSites_mem {all : List Oper} {tab : List (List Nat)} {j s : Nat} {x : Oper} : ∀ {l : List Oper} {k n : Nat},l[n]? = some x → k + n ≠ j → k + n ∉ tab.getD j [] → j ∉ tab.getD (k + n) [] → s ∈ opSites all x → s ∈ openSites all tab j k l
  | [],k,n,h => by simp at h
  | y::r,k,n,h => by
    intro h1 h2 h3 h4
    simp only [openSites]
    cases n with
    | zero =>
      simp at h; subst h
      have : (k == j || memN k (tab.getD j []) || memN j (tab.getD k [])) = false := by
        have e1 : (k == j) = false := by simpa using h1
        rw [e1,memN_false.2 (by simpa using h2),memN_false.2 (by simpa using h3)]; rfl
      rw [this]
      simp [h4]
    | succ n =>
      simp at h
      have e : k + (n + 1) = k + 1 + n := by omega
      rw [e] at h1 h2 h3
      have := openSites_mem (k := k + 1) h h1 h2 h3 h4
      cases (k == j || memN k (tab.getD j []) || memN j (tab.getD k [])) <;> simp [this]
theorem sameNats_eq : ∀ {a b : List (List Nat)},sameNats a b = true → a = b
  | [],[],_ => rfl
  | x::xs,y::ys,h => by
    simp only [sameNats,Bool.and_eq_true,beq_iff_eq] at h
    rw [h.1,sameNats_eq h.2]
  | [],_::_,h => by simp [sameNats] at h
  | _::_,[],h => by simp [sameNats] at h
section
variable (hok : okDraw T all (predTable all []) hd 0 all = true)
include hok
theorem pred_lt : ∀ {i x : Nat} {o : Oper},all[i]? = some o → x ∈ (predTable all []).getD i [] → x < i := by
  intro i
  induction i using Nat.strongRecOn with
  | _ i ih =>
    intro x o ho hx
    obtain ⟨e,h1,h2,h3⟩ := pred_of ho hx
    have hb := (okDraw_get hok i o ho).1
    rw [Nat.zero_add] at hb
    have hlt := back_lt hb h1 h2
    rcases h3 with rfl | h3
    · exact hlt
    · have hl : e.on < all.length := by
        have := (List.getElem?_eq_some_iff.1 ho).1
        omega
      have := ih e.on hlt (x := x) (o := all[e.on]) (by simp) h3
      omega
theorem open_pair (hhd : sameNats hd (hidesOf all) = true) {i j : Nat} {o x : Oper} (hi : all[i]? = some o) (hj : all[j]? = some x) (hlt : j < i) (hp : j ∉ (predTable all []).getD i []) :
    clashFree T all (hd.getD j []) (hd.getD i []) x o = true ∧ (∀ s ∈ opSites all x,s ∈ hd.getD i []) ∧ (∀ s ∈ opSites all o,s ∈ hd.getD j []) := by
  have hh := sameNats_eq hhd
  have hget : ∀ n,n < all.length → hd.getD n [] = openSites all (predTable all []) n 0 all := by
    intro n hn
    rw [hh]
    simp [hidesOf,hn]
  have hil := (List.getElem?_eq_some_iff.1 hi).1
  have hjl := (List.getElem?_eq_some_iff.1 hj).1
  have hij : i ∉ (predTable all []).getD j [] := fun h => by have := pred_lt hok hj h; omega
  refine ⟨?_,fun s hs => ?_,fun s hs => ?_⟩
  · have := openOk_get (okDraw_get hok i o hi).2 j x hj (by omega) (by simpa using hp)
    simpa using this
  · rw [hget i hil]
    exact openSites_mem (k := 0) (n := j) hj (by omega) (by simpa using hp) (by simpa using hij) hs
  · rw [hget j hjl]
    exact openSites_mem (k := 0) (n := i) hi (by omega) (by simpa using hij) (by simpa using hp) hs
end
end
end Go.Skm
namespace Go.Skm
section
variable {P : Program} {T : Tab} {C : CallF} {cx : Cx} {st st' : St} {a : Act} {w : World}
theorem Inv.same (i : Inv cx st a w) (h : Same st st') : Inv cx st' a w := by
  obtain ⟨M,β,L,ds,r,i1,i2,i3,fx⟩ := i
  have r' := r.congr (hp := st'.heap) fun s => by rw [h.2]
  have e : ({ st with heap := st'.heap } : St) = st' := by
    cases st; cases st'; simp only [St.mk.injEq,and_true]; exact h.1
  rw [e] at r'
  refine ⟨M,β,L,ds,r',i1,fun s hs b hb => i2 s hs b ?_,i3,fx.less (fun p hp => rfl) fun b ho => ?_⟩
  · rw [h.2]; exact hb
  · obtain ⟨s,o,hs,hb⟩ := ho
    exact ⟨s,o,by rw [h.2]; exact hs,hb⟩
theorem Inv.drew (i : Inv cx st a w) : Inv cx st a { w with drawn := w.drawn + 1 } := by
  obtain ⟨M,β,L,ds,r,i1,i2,i3,fx⟩ := i
  exact ⟨M,β,L,ds,r.world (w' := { w with drawn := w.drawn + 1 }) (Nat.le_refl _) rfl rfl rfl (fun _ _ _ => rfl) (fun b n _ _ _ h => h) (fun b h => h) (fun b h => .inl h),i1,i2,i3.trans fun _ => Nat.le_succ _,fx.less (fun p hp => rfl) fun _ h => h⟩
theorem strike_owned {β : Nat → Option (Nat × Nat)} {ss : List Nat} {b : Nat} (h : Owned β (st.strike ss).heap b) : Owned β st.heap b := by
  obtain ⟨s,o,hs,hb⟩ := h
  refine ⟨s,o,?_,hb⟩
  rw [look_strike] at hs
  by_cases hm : s ∈ ss
  · rw [if_pos hm] at hs; cases hs
  · rw [if_neg hm] at hs; simpa using hs
theorem Inv.strike (i : Inv cx st a w) (ss : List Nat) : Inv cx (st.strike ss) a w := by
  obtain ⟨M,β,L,ds,r,i1,i2,i3,fx⟩ := i
  exact ⟨M,β,L,ds,r.strike ss (fun b h => h) fun b h => .inl h,i1,i2.trans (strike_like st ss),i3,fx.less (fun p hp => rfl) fun _ ho => strike_owned ho⟩
theorem sim_any (ok : TabOk P T) (hC : CallOk P T cx.w0.gl C) {ops : Array Oper} {hd : List (List Nat)} (hok : okDraw T ops.toList (predTable ops.toList []) hd 0 ops.toList = true) (hhd : sameNats hd (hidesOf ops.toList) = true)
    {Q : Exit → Act → World → Prop} {fin : St} (hQ : ∀ a w,Inv cx fin a w → Q .normal a w) (hw : ∀ o ∈ ops.toList,OpFit cx o) {rd : Option Nat} {n : Nat} :
    ∀ (fuel : Nat) (listed : Array Bool) (st : St) (a : Act) (w : World),fuel = (filt listed (num 0 ops.toList)).length →
      (∀ q,listed.getD q false = true → ∀ p ∈ (predTable ops.toList []).getD q [],listed.getD p false = true) → listed.size = ops.size →
      runsL T C hd ops.toList (filt listed (num 0 ops.toList)) st fin → Inv cx st a w → wpAnyIn (FW rd) n P .any ops Q fuel listed a w := by
  intro fuel
  induction fuel with
  | zero =>
    intro listed st a w hf hcl hsz hr i
    have h0 : filt listed (num 0 ops.toList) = [] := List.length_eq_zero_iff.1 hf.symm
    rw [h0] at hr
    refine ⟨?_,hQ a w (i.same hr)⟩
    rw [List.eq_nil_iff_forall_not_mem]
    intro j hj
    obtain ⟨h1,o,h2,_⟩ := mem_ready.1 hj
    obtain ⟨R1,R2,g1,_⟩ := rest_split h1 (l := ops.toList) (k := 0) (o := o) (by omega) (by simpa using h2)
    rw [h0] at g1
    simp at g1
  | succ fuel ih =>
    intro listed st a w hf hcl hsz hr i
    refine ⟨fun hnil => ?_,fun j hj => ?_⟩
    · -- the first that is not listed is ready
      exfalso
      cases hL : filt listed (num 0 ops.toList) with
      | nil => rw [hL] at hf; simp at hf
      | cons p r =>
        have hex : ∃ n,n < ops.size ∧ listed.getD n true = false := by
          have hp : p ∈ filt listed (num 0 ops.toList) := by rw [hL]; simp
          unfold filt at hp
          rw [List.mem_filter] at hp
          have h1 : listed.getD p.1 true = false := by simpa using hp.2
          refine ⟨p.1,?_,h1⟩
          rcases Nat.lt_or_ge p.1 listed.size with h' | h'
          · omega
          · simp [Array.getElem?_eq_none h'] at h1
        have hmin : ∃ n,(n < ops.size ∧ listed.getD n true = false) ∧ ∀ m,m < n → ¬ (m < ops.size ∧ listed.getD m true = false) := by
          obtain ⟨n,hn⟩ := hex
          induction n using Nat.strongRecOn with
          | _ n ihn =>
            by_cases hm : ∃ m,m < n ∧ (m < ops.size ∧ listed.getD m true = false)
            · obtain ⟨m,h1,h2⟩ := hm; exact ihn m h1 h2
            · exact ⟨n,hn,fun m h1 h2 => hm ⟨m,h1,h2⟩⟩
        obtain ⟨n,⟨h1,h2⟩,h3⟩ := hmin
        have : n ∈ Region.ready .any ops listed := by
          rw [mem_ready]
          refine ⟨h2,ops[n],by simp,fun e he hb => ?_⟩
          have hlt := back_lt (okDraw_get hok n ops[n] (by simp)).1 he hb
          rw [Nat.zero_add] at hlt
          have := h3 e.on hlt
          have hl : e.on < ops.size := by omega
          have hl' : e.on < listed.size := by omega
          cases hb' : listed.getD e.on true with
          | false => exact absurd ⟨hl,hb'⟩ this
          | true => simpa [hl'] using hb'
        rw [hnil] at this; simp at this
    · obtain ⟨h1,o,h2,h3⟩ := mem_ready.1 hj
      have h2' : ops.toList[j]? = some o := by simpa using h2
      obtain ⟨R1,R2,g1,g2,g3⟩ := rest_split h1 (l := ops.toList) (k := 0) (o := o) (by omega) (by simpa using h2)
      have hpre : ∀ p ∈ (predTable ops.toList []).getD j [],listed.getD p false = true := by
        intro p hp
        obtain ⟨e,q1,q2,q3⟩ := pred_of h2' hp
        rcases q3 with rfl | q3
        · exact h3 e q1 q2
        · exact hcl e.on (h3 e q1 q2) p q3
      rw [g1] at hr hf
      obtain ⟨st1,k1,k2⟩ := front hr fun p hp => by
        obtain ⟨q1,q2,q3,q4⟩ := g3 p hp
        refine open_pair hok hhd h2' (by simpa using q3) q2 fun hm => ?_
        have := hpre p.1 hm
        have hl : p.1 < listed.size := by
          have := (List.getElem?_eq_some_iff.1 q3).1
          simp at this; omega
        simp [hl] at q4 this
        rw [q4] at this; cases this
      have hs := sim1 ok hC rfl (hw o (List.mem_of_getElem? h2')) i k1 (rd := rd) (n := n) (K := wpAnyIn (FW rd) n P .any ops Q fuel (listed.setIfInBounds j true)) (fun a' w' i' => ih (listed.setIfInBounds j true) st1 a' w' (by
        rw [g2]; simp only [List.length_append,List.length_cons] at hf ⊢; omega) (fun q hq p hp => by
        by_cases hjq : j = q
        · subst hjq; exact getD_set_true (hpre p hp)
        · rw [getD_set_ne false hjq] at hq
          exact getD_set_true (hcl q hq p hp)) (by simpa using hsz) (by rw [g2]; exact k2) i') (Q := Q)
      unfold wpOpIn
      rw [h2]
      simp only
      split
      · rename_i hw; rw [if_pos hw] at hs; exact hs
      · rename_i hw; rw [if_neg hw] at hs; exact ⟨fun _ _ => trivial,hs⟩
theorem num_length : ∀ (l : List Oper) (k : Nat),(num k l).length = l.length
  | [],_ => rfl
  | o::r,k => by simp [num,num_length r]
theorem filt_none {n : Nat} : ∀ {l : List Oper} {k : Nat},k + l.length ≤ n → filt (Array.replicate n false) (num k l) = num k l
  | [],_,_ => rfl
  | o::r,k,h => by
    simp only [List.length_cons] at h
    have := filt_none (n := n) (l := r) (k := k + 1) (by omega)
    unfold filt at this ⊢
    have hk : (Array.replicate n false).getD k true = false := by
      have : k < n := by omega
      simp [this]
    simp only [num,List.filter_cons,hk,this]; simp
theorem sim_draw (ok : TabOk P T) (hC : CallOk P T cx.w0.gl C) {α : Type} {id : Nat} {ops : Array Oper} {hd : List (List Nat)} (hok : okDraw T ops.toList (predTable ops.toList []) hd 0 ops.toList = true) (hhd : sameNats hd (hidesOf ops.toList) = true)
    {rd : Option Nat} {n : Nat} {Q : Exit → Act → World → Prop} {k : St → Option α} {x : α} (hr : runOps T C true hd ops.toList ops.toList 0 st k = some x) (hw : ∀ o ∈ ops.toList,OpFit cx o) (i : Inv cx st a w)
    (hQ : ∀ st' a' w',k st' = some x → Inv cx st' a' w' → Q .normal a' w') : (Code.region id ops true).wpIn (FW rd) n P Q a w := by
  obtain ⟨fin,h1,h2⟩ := runsL_of hr
  have e : filt (Array.replicate ops.size false) (num 0 ops.toList) = num 0 ops.toList := filt_none (by simp)
  refine wpIn_region_any ok.mixed (sim_any ok hC hok hhd (fun a w i => hQ fin a w h2 i) hw ops.size (Array.replicate ops.size false) st a _ ?_ ?_ (by simp) (by rw [e]; exact h1) i.drew)
  · rw [e,num_length]; simp
  · intro q hq
    by_cases hl : q < ops.size <;> simp [hl] at hq
theorem sim_undrawn (ok : TabOk P T) (hC : CallOk P T cx.w0.gl C) {α : Type} {id : Nat} {ops : Array Oper} {hd : List (List Nat)} (hn : NoLog cx.hp0) {rd : Option Nat} {n : Nat} {Q : Exit → Act → World → Prop} {k : St → Option α} {x : α} (hr : runOps T C false hd ops.toList ops.toList 0 st k = some x)
    (hw : ∀ o ∈ ops.toList,OpFit cx o) (i : Inv cx st a w)
    (hQ : ∀ st' a' w',k st' = some x → Inv cx st' a' w' → Q .normal a' w') : (Code.region id ops false).wpIn (FW rd) n P Q a w :=
  wpIn_region_list (sim_text ok hC hn hQ ops.toList 0 st a w hw hr i)
end
end Go.Skm
namespace Go.Skm
theorem rens_get (s d : Nat) : ∀ (l : List AV) (i : Nat),(AV.rens s d l)[i]? = (l[i]?).map (AV.ren s d)
  | [],i => by simp [AV.rens]
  | v::r,0 => by simp [AV.rens]
  | v::r,i + 1 => by simp [AV.rens,rens_get s d r i]
theorem rens_length (s d : Nat) : ∀ (l : List AV),(AV.rens s d l).length = l.length
  | [] => rfl
  | v::r => by simp [AV.rens,rens_length s d r]
theorem ren_leaf (s d : Nat) (v : AV) : (AV.ren s d v).leaf = v.leaf := by
  cases v <;> simp [AV.ren,AV.leaf]
theorem renS_ne {s d x : Nat} (h : x ≠ s) : renS s d x = x := by
  have : (x == s) = false := by simpa using h
  simp [renS,this]
theorem look_renHeap {s d : Nat} (hne : s ≠ d) (x : Nat) : ∀ {hp : Heap},look hp d = none → look (renHeap s d hp) x = if x = d then (look hp s).map (Blk.ren s d) else if x = s then none else (look hp x).map (Blk.ren s d)
  | [],_ => by simp [renHeap,look]
  | (k,b)::r,h => by
    have hk : k ≠ d := by
      rintro rfl; simp [look] at h
    have hk' : (k == d) = false := by simpa using hk
    have hr : look r d = none := by simpa [look,hk'] using h
    have ih := look_renHeap hne x hr
    simp only [renHeap,look]
    by_cases hks : k = s
    · subst hks
      have e1 : renS k d k = d := by simp [renS]
      rw [e1]
      by_cases hx : x = d
      · subst hx; simp
      · have e2 : (d == x) = false := by simpa using fun e => hx e.symm
        rw [e2,if_neg hx]
        simp only [cond_false]
        rw [ih,if_neg hx]
        by_cases hxs : x = k
        · rw [if_pos hxs,if_pos hxs]
        · rw [if_neg hxs,if_neg hxs]
          have e3 : (k == x) = false := by simpa using fun e => hxs e.symm
          rw [e3]; rfl
    · have e1 : renS s d k = k := renS_ne hks
      rw [e1]
      by_cases hx : x = k
      · subst hx
        simp [hk,hks]
      · have e2 : (k == x) = false := by simpa using fun e => hx e.symm
        rw [e2]
        simp only [cond_false]
        rw [ih]
        have e3 : (k == s) = false := by simpa using hks
        rw [e3]; rfl
theorem AR.renamed {w : World} {M : Nat → Prop} {β β' : Nat → Option (Nat × Nat)} {h h' : Nat → Option Blk} {s d : Nat} (hh : ∀ x blk,h x = some blk → h' (renS s d x) = some (blk.ren s d) ∧ β' (renS s d x) = β x)
    {v : AV} {c : Value} (hv : AR w M β h v c) : AR w M β' h' (v.ren s d) c := by
  induction hv with
  | undef c => exact .undef c
  | p v c hv => exact .p v c hv
  | slice x off len a ks xs b o cap h1 hl hb hcap hr => exact .slice _ off len a ks xs b o cap (hh x _ h1).1 hl ((hh x _ h1).2.trans hb) hcap hr
  | sliceE x off a ks xs base h1 hl => exact .sliceE _ off a ks xs base (hh x _ h1).1 hl
  | bslice x off len cs b o cap h1 hl hb hcap => exact .bslice _ off len (AV.rens s d cs) b o cap (hh x _ h1).1 (by rw [rens_length]; exact hl) ((hh x _ h1).2.trans hb) hcap
  | bsliceE x off cs base h1 hl => exact .bsliceE _ off (AV.rens s d cs) base (hh x _ h1).1 (by rw [rens_length]; exact hl)
  | ptrB x off cs b o h1 hb => exact .ptrB _ off (AV.rens s d cs) b o (hh x _ h1).1 ((hh x _ h1).2.trans hb)
  | ptrA x idx off a ks xs b o h1 hi hb => exact .ptrA _ idx off a ks xs b o (hh x _ h1).1 hi ((hh x _ h1).2.trans hb)
  | lptr a ks x off b o f hM hx hc hv => exact .lptr a ks x off b o f hM hx hc hv
  | fn f cs vs hn _ ih =>
    refine .fn f _ vs (by rw [rens_length]; exact hn) fun i c hi => ?_
    rw [rens_get] at hi
    cases hx : cs[i]? with
    | none => rw [hx] at hi; cases hi
    | some x => rw [hx] at hi; cases hi; exact ih i x hx
  | agg cs vs hn hl _ ih =>
    refine .agg _ vs (by rw [rens_length]; exact hn) (fun c hc => ?_) fun i c hi => ?_
    · obtain ⟨i,hi⟩ := List.mem_iff_getElem?.1 hc
      rw [rens_get] at hi
      cases hx : cs[i]? with
      | none => rw [hx] at hi; cases hi
      | some x => rw [hx] at hi; cases hi; rw [ren_leaf]; exact hl x (List.mem_of_getElem? hx)
    · rw [rens_get] at hi
      cases hx : cs[i]? with
      | none => rw [hx] at hi; cases hi
      | some x => rw [hx] at hi; cases hi; exact ih i x hx
  | tup cs vs hn _ ih =>
    refine .tup _ vs (by rw [rens_length]; exact hn) fun i c hi => ?_
    rw [rens_get] at hi
    cases hx : cs[i]? with
    | none => rw [hx] at hi; cases hi
    | some x => rw [hx] at hi; cases hi; exact ih i x hx
  | yld l => exact .yld l
  | ptrT x off t c0 c1 b h1 hb => exact .ptrT _ off t (c0.ren s d) (c1.ren s d) b (hh x _ h1).1 ((hh x _ h1).2.trans hb)
  | ptrM x t es b o h1 hb => exact .ptrM _ t es b o (hh x _ h1).1 ((hh x _ h1).2.trans hb)
  | ptrR x e xs b cap h1 hb hcap h0 hr => exact .ptrR _ e xs b cap (hh x _ h1).1 ((hh x _ h1).2.trans hb) hcap h0 hr
  | ptrRE x e h1 => exact .ptrRE _ e (hh x _ h1).1
section
variable {P : Program} {T : Tab} {w0 : Base} {Pr M0 M : Nat → Prop} {β β0 : Nat → Option (Nat × Nat)} {hp0 : Heap} {st st' : St} {a : Act} {w : World}
theorem Rel.rename (r : Rel w0 Pr M0 M β st a w) {s d : Nat} (hne : s ≠ d) (hd : look st.heap d = none) (hs : s < argSite) :
    Rel w0 Pr M0 M (fun x => if x = d then β s else β x) { env := AV.rens s d st.env,heap := renHeap s d st.heap } a w := by
  have hlk := fun x => look_renHeap (s := s) (d := d) hne x hd
  have hh : ∀ x blk,look st.heap x = some blk → look (renHeap s d st.heap) (renS s d x) = some (blk.ren s d) ∧ (if renS s d x = d then β s else β (renS s d x)) = β x := by
    intro x blk hx
    have hxd : x ≠ d := by rintro rfl; rw [hd] at hx; cases hx
    by_cases hxs : x = s
    · subst hxs
      have e : renS x d x = d := by simp [renS]
      rw [e,hlk,if_pos rfl,hx]
      exact ⟨rfl,by simp⟩
    · have e : renS s d x = x := renS_ne hxs
      rw [e,hlk,if_neg hxd,if_neg hxs,hx]
      exact ⟨rfl,by simp [hxd]⟩
  have key : ∀ {v : AV} {c : Value},AR w M β (look st.heap) v c → AR w M (fun x => if x = d then β s else β x) (look (renHeap s d st.heap)) (v.ren s d) c := fun h => h.renamed hh
  have from_ : ∀ x blk',look (renHeap s d st.heap) x = some blk' → ∃ y blk,look st.heap y = some blk ∧ blk' = blk.ren s d ∧ x = renS s d y ∧ (if x = d then β s else β x) = β y := by
    intro x blk' hx
    rw [hlk] at hx
    by_cases hxd : x = d
    · rw [if_pos hxd] at hx
      cases hy : look st.heap s with
      | none => rw [hy] at hx; cases hx
      | some b => rw [hy] at hx; cases hx; exact ⟨s,b,hy,rfl,by simp [renS,hxd],by simp [hxd]⟩
    · rw [if_neg hxd] at hx
      by_cases hxs : x = s
      · rw [if_pos hxs] at hx; cases hx
      · rw [if_neg hxs] at hx
        cases hy : look st.heap x with
        | none => rw [hy] at hx; cases hx
        | some b => rw [hy] at hx; cases hx; exact ⟨x,b,hy,rfl,(renS_ne hxs).symm,by simp [hxd]⟩
  refine ⟨by simp only [rens_length]; exact r.tsize,fun t v hv => ?_,fun x blk' hx => ?_,fun x b o hx hb => ?_,fun x x' b o o' hx hx' hb hb' => ?_,r.msub,r.mnew,r.mold,r.keep,r.room,r.size,r.os,r.tape,r.output,r.glob⟩
  · simp only [rens_get] at hv
    cases he : st.env[t]? with
    | none => rw [he] at hv; cases hv
    | some u => rw [he] at hv; cases hv; exact key (r.env t u he)
  · obtain ⟨y,blk,g1,rfl,rfl,g4⟩ := from_ x blk' hx
    cases r.heap y blk g1 with
    | box cs b o C e fr k1 k2 k3 k4 k5 k6 =>
      refine .box _ b o C e fr (g4.trans k1) k2 (by rw [rens_length]; exact k3) k4 (fun c hc => ?_) fun j c hj => ?_
      · obtain ⟨i,hi⟩ := List.mem_iff_getElem?.1 hc
        rw [rens_get] at hi
        cases hx : cs[i]? with
        | none => rw [hx] at hi; cases hi
        | some x => rw [hx] at hi; cases hi; rw [ren_leaf]; exact k5 x (List.mem_of_getElem? hx)
      · rw [rens_get] at hj
        cases hx : cs[j]? with
        | none => rw [hx] at hj; cases hj
        | some x => rw [hx] at hj; cases hj; exact key (k6 j x hx)
    | arrE a ks => exact .arrE a ks
    | log on ys => exact .log on ys
    | arr a ks xs b o C e fr k1 k2 k3 k4 k5 k6 => exact .arr a ks xs b o C e fr (g4.trans k1) k2 k3 k4 k5 k6
    | tb t c0 c1 b C fr k1 k2 k3 k4 k5 k6 k7 k8 => exact .tb t _ _ b C fr (g4.trans k1) k2 k3 k4 (by rw [ren_leaf]; exact k5) (by rw [ren_leaf]; exact k6) (key k7) (key k8)
    | mp t es b o E k k1 k2 k3 k4 => exact .mp t es b o E k (g4.trans k1) k2 k3 k4
    | brE e => exact .brE e
    | br e xs b C fr k1 k2 k3 k4 g5 g6 => exact .br e xs b C fr (g4.trans k1) k2 k3 k4 g5 g6
  · obtain ⟨blk',hx⟩ := Option.isSome_iff_exists.1 hx
    obtain ⟨y,blk,g1,_,g3,g4⟩ := from_ x blk' hx
    have hb : (if x = d then β s else β x) = some (b,o) := hb
    rw [g4] at hb
    obtain ⟨o1,o2,o3⟩ := r.own y b o (by rw [g1]; rfl) hb
    refine ⟨o1,o2,o3.1,o3.2.imp id fun o3 => ?_⟩
    have hys : y ≠ s := by omega
    have : renS s d y = y := renS_ne hys
    rw [g3,this]; exact o3
  · obtain ⟨blk1,hx⟩ := Option.isSome_iff_exists.1 hx
    obtain ⟨blk2,hx'⟩ := Option.isSome_iff_exists.1 hx'
    obtain ⟨y,b1,g1,_,g3,g4⟩ := from_ x blk1 hx
    obtain ⟨y',b2,g1',_,g3',g4'⟩ := from_ x' blk2 hx'
    have hb : (if x = d then β s else β x) = some (b,o) := hb
    have hb' : (if x' = d then β s else β x') = some (b,o') := hb'
    rw [g4] at hb
    rw [g4'] at hb'
    rw [g3,g3',r.inj y y' b o o' (by rw [g1]; rfl) (by rw [g1']; rfl) hb hb']
theorem Blk.ren_like (s d : Nat) (b : Blk) : Like b (b.ren s d) := by
  cases b with
  | box cs => simp [Blk.ren,Like,rens_length]
  | arr => exact Like.refl _
  | log => exact Like.refl _
  | tb => exact rfl
  | mp => exact Like.refl _
  | br => exact Like.refl _
theorem rename_owned {β : Nat → Option (Nat × Nat)} {hp : Heap} {s d : Nat} (hne : s ≠ d) (hd : look hp d = none) {b : Nat} (h : Owned (fun x => if x = d then β s else β x) (renHeap s d hp) b) : Owned β hp b := by
  obtain ⟨x,o,hx,hb⟩ := h
  rw [look_renHeap hne x hd] at hx
  by_cases hxd : x = d
  · rw [if_pos hxd] at hx
    simp only [hxd,if_true] at hb
    exact ⟨s,o,by simpa using hx,hb⟩
  · rw [if_neg hxd] at hx
    simp only [if_neg hxd] at hb
    by_cases hxs : x = s
    · rw [if_pos hxs] at hx; cases hx
    · rw [if_neg hxs] at hx
      exact ⟨x,o,by simpa using hx,hb⟩
theorem Inv.rehome {cx : Cx} (i : Inv cx st a w) {s d : Nat} (hne : s ≠ d) (hs : s < argSite) (hd : d < argSite) : Inv cx (st.rehome s d) a w := by
  have i1 := i.strike [d]
  have hn : look (st.strike [d]).heap d = none := by rw [look_strike]; simp
  unfold St.rehome
  generalize st.strike [d] = st1 at i1 hn
  obtain ⟨M,β,L,ds,r,e1,e2,e3,fx⟩ := i1
  refine ⟨M,_,L,ds,r.rename hne hn hs,fun x hx => ?_,fun x hx blk' hb => ?_,e3,fx.less (fun p hp => rfl) fun _ ho => rename_owned hne hn ho⟩
  · have : x ≠ d := by omega
    simp only [if_neg this]; exact e1 x hx
  · have h1 : x ≠ d := by omega
    have h2 : x ≠ s := by omega
    have hb' : look (renHeap s d st1.heap) x = some blk' := hb
    rw [look_renHeap hne x hn,if_neg h1,if_neg h2] at hb'
    cases hy : look st1.heap x with
    | none => rw [hy] at hb'; cases hb'
    | some b =>
      rw [hy] at hb'; cases hb'
      obtain ⟨b0,g1,g2⟩ := e2 x hx b hy
      exact ⟨b0,g1,g2.trans (Blk.ren_like s d b)⟩
theorem Inv.rehomes {cx : Cx} (nv : Nat) (hs : List Nat) (hnv : nv ≤ argSite) : ∀ (l : List Oper) {st : St},Inv cx st a w → Inv cx (Skm.rehomes nv hs l st) a w
  | [],st,i => i
  | o::r,st,i => by
    simp only [Skm.rehomes]
    split
    · rename_i d _ _
      split
      · rename_i s _ _ _ _
        cases hc : (Nat.ble nv s || (memN d hs && !(s == d))) && (Nat.blt d nv && Nat.blt s 100000) with
        | false => exact Inv.rehomes nv hs hnv r i
        | true =>
          simp only [Bool.and_eq_true] at hc
          have h2 : d < nv := Nat.le_of_ble_eq_true hc.2.1
          have h1 : s ≠ d := by
            intro e
            rcases (by simpa only [Bool.or_eq_true] using hc.1 : Nat.ble nv s = true ∨ (memN d hs && !(s == d)) = true) with h | h
            · exact absurd (Nat.le_of_ble_eq_true h) (Nat.not_le_of_lt (by rw [e]; exact h2))
            · simp [e] at h
          have h3 : s < 100000 := Nat.le_of_ble_eq_true hc.2.2
          have ea : argSite = 100000 := rfl
          exact Inv.rehomes nv hs hnv r (i.rehome h1 h3 (Nat.lt_of_lt_of_le h2 hnv))
      · exact Inv.rehomes nv hs hnv r i
    · exact Inv.rehomes nv hs hnv r i
theorem Inv.freeze1 {cx : Cx} (i : Inv cx st a w) {d : Nat} {x : PV} {ss : List Nat} (hd : deep (look st.heap) (st.env.getD d .undef) = some (x,ss)) (hf : frzOk ss = true) :
    Inv cx { (st.strike ss) with env := (st.strike ss).env.set d (.p x) } a w := by
  by_cases hlt : d < st.env.length
  · obtain ⟨M,β,L,ds,r,i1,i2,i3,fx⟩ := i
    have hv : st.env[d]? = some (st.env.getD d .undef) := by rw [List.getD_eq_getElem?_getD,List.getElem?_eq_getElem hlt]; rfl
    obtain ⟨g1,g2⟩ := deep_ok (fun s b h => r.heap s b h) (fun s b h => h) hd (r.env d _ hv)
    have r1 := r.rebase.freeze [] ss hf g2
    rw [List.nil_append] at r1
    have r2 : Rel _ _ _ (Mplus M β ss) β { (st.strike ss) with env := (st.strike ss).env.set d (.p x) } a w :=
      ⟨by simpa using r1.tsize,fun t v h => by
        simp only at h
        rw [List.getElem?_set] at h
        split at h
        · rename_i he
          split at h
          · cases h
            subst he
            exact .p _ _ g1
          · cases h
        · exact r1.env t v h,r1.heap,r1.own,r1.inj,r1.msub,r1.mnew,r1.mold,r1.keep,r1.room,r1.size,r1.os,r1.tape,r1.output,r1.glob⟩
    refine ⟨Mplus M β ss,β,L,ds,r.unbase r2,i1,i2.trans (strike_like st ss),i3,fx.step r r2⟩
  · have e : st.env.getD d .undef = .undef := by simp [List.getD,List.getElem?_eq_none (by omega : st.env.length ≤ d)]
    rw [e] at hd
    simp [deep,deepC,deep1] at hd
theorem Inv.freezes {cx : Cx} (ts : List Nat) : ∀ (l : List Oper) {st : St},Inv cx st a w → Inv cx (Skm.freezes ts l st) a w
  | [],st,i => i
  | o::r,st,i => by
    simp only [Skm.freezes]
    split
    · cases hm : memN _ ts with
      | false => exact Inv.freezes ts r i
      | true =>
        simp only [cond_true]
        split
        · rename_i v ss hd
          cases hf : frzOk ss with
          | false => exact Inv.freezes ts r i
          | true => exact Inv.freezes ts r (i.freeze1 hd hf)
        · exact Inv.freezes ts r i
    · exact Inv.freezes ts r i
theorem Inv.settle {cx : Cx} {F : FCfg} (i : Inv cx st a w) (hnv : F.nvars ≤ argSite) (l : List Oper) : Inv cx (Skm.settle F l st) a w := (i.rehomes _ _ hnv l).freezes _ l
theorem keepEnv_get {live : List Nat} : ∀ (l : List AV) (k i : Nat) (v : AV),(keepEnv live k l)[i]? = some v → v = .undef ∨ l[i]? = some v
  | [],k,i,v,h => by simp [keepEnv] at h
  | u::r,k,0,v,h => by
    simp only [keepEnv,List.getElem?_cons_zero,Option.some.injEq] at h
    cases hm : memN k live with
    | true => rw [hm] at h; right; simpa using h
    | false => rw [hm] at h; left; simpa using h.symm
  | u::r,k,i + 1,v,h => by
    simp only [keepEnv,List.getElem?_cons_succ] at h
    simpa using keepEnv_get r (k + 1) i v h
theorem keepEnv_length {live : List Nat} : ∀ (l : List AV) (k : Nat),(keepEnv live k l).length = l.length
  | [],_ => rfl
  | u::r,k => by simp [keepEnv,keepEnv_length r]
theorem Inv.forget {cx : Cx} (i : Inv cx st a w) (live sites : List Nat) : Inv cx (st.forget live sites) a w := by
  obtain ⟨M,β,L,ds,r,e1,e2,e3,fx⟩ := i
  exact Inv.strike ⟨M,β,L,ds,r.lessEnv (keepEnv_length _ _) (fun t v h => keepEnv_get _ _ _ _ h),e1,e2,e3,fx⟩ _
theorem Inv.forgetAt {cx : Cx} (i : Inv cx st a w) (F : FCfg) (c : Code) : Inv cx (Skm.forgetAt F c st) a w := by
  unfold Skm.forgetAt
  split
  · exact i
  · split
    · exact i
    · exact i.forget _ _
theorem Inv.relog {cx : Cx} (i : Inv cx st a w) {α : Type} {b : Option Blk} (hb : ∀ on xs,b = some (.log on xs) → ∃ ys,look cx.hp0 argSite = some (.log on ys)) {k : St → Option α} {x : α} (h : Skm.relog b st k = some x) : ∃ st',k st' = some x ∧ Inv cx st' a w ∧
    ∀ on xs,look st'.heap argSite = some (.log on xs) → b = some (.log on xs) := by
  unfold Skm.relog at h
  split at h
  · rename_i on0 xs0 h0
    split at h
    · rename_i on xs
      refine ⟨_,h,?_,fun on' xs' he => ?_⟩
      · obtain ⟨ys,hy⟩ := hb on xs rfl
        obtain ⟨M,β,L,ds,r,e1,e2,e3,fx⟩ := i
        have hlk : ∀ s,look (put st.heap argSite (.log on xs)) s = if s = argSite then some (.log on xs) else look st.heap s := fun s => look_put _ _ _ _
        have hon : on = on0 := by
          obtain ⟨b0,g1,g2⟩ := e2 argSite (Nat.le_refl _) _ h0
          rw [hy] at g1; cases g1
          exact g2
        have key : ∀ {v : AV} {c : Value},AR w M β (look st.heap) v c → AR w M β (look (put st.heap argSite (.log on xs))) v c := by
          intro v c hv
          refine hv.mono (fun b hb => ⟨hb,rfl⟩) fun s blk _ hs => ?_
          by_cases e : s = argSite
          · subst e
            rw [h0] at hs; cases hs
            exact ⟨.log on xs,by rw [hlk,if_pos rfl],hon.symm,rfl,fun _ _ _ _ h => h⟩
          · exact ⟨blk,by rw [hlk,if_neg e]; exact hs,Like.refl _,rfl,fun _ _ _ _ h => h⟩
        have live : ∀ s,(look (put st.heap argSite (.log on xs)) s).isSome = true → (look st.heap s).isSome = true := by
          intro s hs
          rw [hlk] at hs
          by_cases e : s = argSite
          · subst e; rw [h0]; rfl
          · rw [if_neg e] at hs; exact hs
        refine ⟨M,β,L,ds,⟨r.tsize,fun t v hv => key (r.env t v hv),fun s blk hs => ?_,fun s b o hs hb => r.own s b o (live s hs) hb,fun s s' b o o' hs hs' => r.inj s s' b o o' (live s hs) (live s' hs'),r.msub,r.mnew,r.mold,r.keep,r.room,r.size,r.os,r.tape,r.output,r.glob⟩,e1,fun s hs blk hb => ?_,e3,fx.less (fun p hp => rfl) fun _ ⟨s,o,hs,hb⟩ => ⟨s,o,live s hs,hb⟩⟩
        · have hs : look (put st.heap argSite (.log on xs)) s = some blk := hs
          rw [hlk] at hs
          by_cases e : s = argSite
          · rw [if_pos e] at hs; cases hs; exact .log _ _
          · rw [if_neg e] at hs
            cases r.heap s blk hs with
            | box cs b o C e fr k1 k2 k3 k4 k5 k6 => exact .box cs b o C e fr k1 k2 k3 k4 k5 fun j c hj => key (k6 j c hj)
            | arrE a ks => exact .arrE a ks
            | log on ys => exact .log on ys
            | arr a ks xs b o C e fr k1 k2 k3 k4 k5 k6 => exact .arr a ks xs b o C e fr k1 k2 k3 k4 k5 k6
            | tb t c0 c1 b C fr k1 k2 k3 k4 k5 k6 k7 k8 => exact .tb t _ _ b C fr k1 k2 k3 k4 k5 k6 (key k7) (key k8)
            | mp t es b o E k k1 k2 k3 k4 => exact .mp t es b o E k k1 k2 k3 k4
            | brE e => exact .brE e
            | br e xs b C fr k1 k2 k3 k4 g5 g6 => exact .br e xs b C fr k1 k2 k3 k4 g5 g6
        · have hb : look (put st.heap argSite (.log on xs)) s = some blk := hb
          rw [hlk] at hb
          by_cases e : s = argSite
          · rw [if_pos e] at hb; cases hb; subst e; exact ⟨_,hy,rfl⟩
          · rw [if_neg e] at hb; exact e2 s hs blk hb
      · have he : look (put st.heap argSite (.log on xs)) argSite = _ := he
        rw [look_put,if_pos rfl] at he
        cases he; rfl
    · cases h
  · rename_i hno
    exact ⟨st,h,i,fun on xs he => absurd he (hno on xs)⟩
def Ex.toExit : Ex → Exit
  | .normal => .normal
  | .exit id => .exit id
  | .ret => .ret
end
end Go.Skm
namespace Go.Skm
section scopes
variable {E : Fence} {n : Nat} {P : Program} {Q : Exit → Act → World → Prop} {b : Frame} {a : Act} {k : List Item} {cs : List Frame} {w : World}
theorem stepR_scope {c : Code} : step P (lone (b.atR a (.code (.scope c)::k)) cs w) = .next (lone (b.atR a (.code c::.inScope c::k)) cs w) :=
  step_lone_go (by simp [stepG,stepG.exec,Frame.atR])
theorem stepR_inScope {c : Code} : step P (lone (b.atR a (.inScope c::k)) cs w) = .next (lone (b.atR a k) cs w) :=
  step_lone_go (by simp [stepG,stepG.exec,Frame.atR])
theorem wpIn_scope {c : Code} (h : c.wpIn E n P (Exit.noGoto Q) a w) : (Code.scope c).wpIn E n P Q a w := by
  intro b k cs hro hb hr
  have h0 : (lone (b.atR a (.code (.scope c)::k)) cs w).fenced P E := fenced_calm hb hr rfl
  obtain ⟨e,a₁,w₁,hq,harr⟩ := h b (.inScope c::k) cs hro hb hr
  cases e with
  | normal => exact ⟨.normal,a₁,w₁,hq,.head h0 stepR_scope (StepsIn.trans harr (.one (fenced_calm hb hr rfl) stepR_inScope))⟩
  | exit id =>
    have hx : exitTo id (.inScope c::k) = exitTo id k := by simp [exitTo]
    exact ⟨.exit id,a₁,w₁,hq,fun k' hk => .head h0 stepR_scope (harr.1 k' (by rw [hx]; exact hk)),
      fun hr' hk => let ⟨k₁,h1,h2⟩ := harr.2 hr' (by rw [hx]; exact hk); ⟨k₁,h1,.head h0 stepR_scope h2⟩⟩
  | goto l => exact hq.elim
  | ret => exact ⟨_,a₁,w₁,hq,.of_steps (.one h0 stepR_scope) harr⟩
  | panic ch => exact ⟨_,a₁,w₁,hq,.of_steps (.one h0 stepR_scope) harr⟩
  | outgrown => exact ⟨_,a₁,w₁,hq,.of_steps (.one h0 stepR_scope) harr⟩
end scopes
section
variable {α ι : Type} (T : Tab) (C : CallF) (F : FI) (n : Nat)
def seqK (z : Code) (k : Ex → St → Option α) : Ex → St → Option α := fun ex st' =>
  match ex with
  | .normal => runCode T C F n z (forgetAt F.cfg z st') k
  | .exit id => k (.exit id) st'
  | .ret => k .ret st'
def blockK (id : Nat) (k : Ex → St → Option α) : Ex → St → Option α := fun ex st' =>
  match ex with
  | .normal => k .normal st'
  | .exit i => bif i == id then k .normal st' else k (.exit i) st'
  | .ret => k .ret st'
def loopK (c : Code) (m : Nat) (k : Ex → St → Option α) : Ex → St → Option α := fun ex st' =>
  match ex with
  | .normal => forceSt (forgetAt F.cfg c st') fun st' => loopN (forgetAt F.cfg c) (fun st' k' => runCode T C F n c st' k') m st' k
  | .exit id => k (.exit id) st'
  | .ret => k .ret st'
theorem runCode_seq (y z : Code) (st : St) (k : Ex → St → Option α) : runCode T C F n (.seq y z) st k = runCode T C F n y st (seqK T C F n z k) := rfl
theorem runCode_block (id : Nat) (c : Code) (st : St) (k : Ex → St → Option α) : runCode T C F n (.block id c) st k = runCode T C F n c st (blockK id k) := rfl
theorem loopN_loopK (c : Code) (m : Nat) (st : St) (k : Ex → St → Option α) : loopN (forgetAt F.cfg c) (fun st' k' => runCode T C F n c st' k') (m + 1) st k = runCode T C F n c st (loopK T C F n c m k) := rfl
structure CodeSim (P : Program) (m : Nat) (KP : (Ex → St → Option α) → Prop) (rd : ι → Option Nat) (Fit : ι → Oper → Prop) (I : ι → α → St → Act → World → Prop) : Prop where
  reg : ∀ (i : ι) (id : Nat) (ops : Array Oper) (draw : Bool) (st : St) (a : Act) (w : World) (k : Ex → St → Option α) (x : α) (Q : Exit → Act → World → Prop),KP k → runCode T C F n (.region id ops draw) st k = some x →
    drawsOk T F.hides (.region id ops draw) = true → (∀ o ∈ opsOf (.region id ops draw),Fit i o) → I i x st a w →
    (∀ x' st' a' w',k .normal st' = some x' → I i x' st' a' w' → Q .normal a' w') → (Code.region id ops draw).wpIn (FW (rd i)) m P Q a w
  forget : ∀ (i : ι) (x : α) (st : St) (a : Act) (w : World) (c : Code),I i x st a w → I i x (forgetAt F.cfg c st) a w
  cond : ∀ (i : ι) (x : α) (st : St) (a : Act) (w : World) (c : Operand) (b : Bool),I i x st a w → evalO st.env c = .p (.bool b) → a.eval c = .bool b
  kseq : ∀ (z : Code) (k : Ex → St → Option α),KP k → KP (seqK T C F n z k)
  kblock : ∀ (id : Nat) (k : Ex → St → Option α),KP k → KP (blockK id k)
  kloop : ∀ (c : Code) (j : Nat) (k : Ex → St → Option α),KP k → KP (loopK T C F n c j k)
def SimC (ng : Bool) (P : Program) (m : Nat) (KP : (Ex → St → Option α) → Prop) (rd : ι → Option Nat) (Fit : ι → Oper → Prop) (I : ι → α → St → Act → World → Prop) (c : Code) : Prop :=
  ∀ (i : ι) (st : St) (a : Act) (w : World) (k : Ex → St → Option α) (x : α) (Q : Exit → Act → World → Prop),KP k → runCode T C F n c st k = some x → drawsOk T F.hides c = true → (ng = true → noRange c = true) → (∀ o ∈ opsOf c,Fit i o) → I i x st a w →
    (∀ ex x' st' a' w',k ex st' = some x' → I i x' st' a' w' → Q ex.toExit a' w') → c.wpIn (FW (rd i)) m P Q a w
variable {T C F n}
theorem sim_codeG {ng : Bool} {P : Program} {m : Nat} {KP : (Ex → St → Option α) → Prop} {rd : ι → Option Nat} {Fit : ι → Oper → Prop} {I : ι → α → St → Act → World → Prop} (S : CodeSim T C F n P m KP rd Fit I)
    (hrng : ng = false → ∀ f ps y z,SimC T C F n ng P m KP rd Fit I y → SimC T C F n ng P m KP rd Fit I z → SimC T C F n ng P m KP rd Fit I (.rangeFunc f ps y z)) : ∀ c : Code,SimC T C F n ng P m KP rd Fit I c
  | .skip => fun _ st a w _ x _ _ h _ _ _ i hQ => wpIn_skip (hQ .normal x st a w h i)
  | .region id ops draw => fun i st a w k x Q hk h hd _ hw hi hQ => S.reg i id ops draw st a w k x Q hk h hd hw hi fun x' st' a' w' h1 h2 => hQ .normal x' st' a' w' h1 h2
  | .seq y z => fun i st a w k x Q hk h hd hng hw hi hQ => by
    rw [runCode_seq] at h
    simp only [drawsOk,Bool.and_eq_true] at hd
    have hng' : ng = true → noRange y = true ∧ noRange z = true := fun e => by have := hng e; simpa [noRange] using this
    refine wpIn_seq (sim_codeG S hrng y i st a w _ x _ (S.kseq z k hk) h hd.1 (fun e => (hng' e).1) (fun o ho => hw o (by simp [opsOf,ho])) hi fun ex x' st' a' w' h1 i' => ?_)
    cases ex with
    | normal => exact sim_codeG S hrng z i _ a' w' k x' Q hk h1 hd.2 (fun e => (hng' e).2) (fun o ho => hw o (by simp [opsOf,ho])) (S.forget _ _ _ _ _ _ i') hQ
    | exit id => exact hQ (.exit id) x' st' a' w' h1 i'
    | ret => exact hQ .ret x' st' a' w' h1 i'
  | .cond c y z => fun i st a w k x Q hk h hd hng hw hi hQ => by
    simp only [runCode] at h
    simp only [drawsOk,Bool.and_eq_true] at hd
    have hng' : ng = true → noRange y = true ∧ noRange z = true := fun e => by have := hng e; simpa [noRange] using this
    cases hv : Skm.evalO st.env c with
    | p v =>
      cases v with
      | bool b =>
        have hc := S.cond i x st a w c b hi hv
        rw [hv] at h
        simp only at h
        refine wpIn_cond hc ?_
        cases b with
        | true => exact sim_codeG S hrng y i st a w k x Q hk h hd.1 (fun e => (hng' e).1) (fun o ho => hw o (by simp [opsOf,ho])) hi hQ
        | false => exact sim_codeG S hrng z i st a w k x Q hk h hd.2 (fun e => (hng' e).2) (fun o ho => hw o (by simp [opsOf,ho])) hi hQ
      | _ => rw [hv] at h; simp at h
    | _ => rw [hv] at h; simp at h
  | .block id c => fun i st a w k x Q hk h hd hng hw hi hQ => by
    rw [runCode_block] at h
    simp only [drawsOk] at hd
    refine wpIn_block (sim_codeG S hrng c i st a w _ x _ (S.kblock id k hk) h hd (fun e => by simpa [noRange] using hng e) (fun o ho => hw o (by simpa [opsOf] using ho)) hi fun ex x' st' a' w' h1 i' => ?_)
    cases ex with
    | normal => exact hQ .normal x' st' a' w' h1 i'
    | exit j =>
      simp only [Ex.toExit,Exit.inBlock]
      simp only [blockK] at h1
      by_cases hj : j = id
      · rw [if_pos hj]
        have : (j == id) = true := by simpa using hj
        simp only [this,cond_true] at h1
        exact hQ .normal x' st' a' w' h1 i'
      · rw [if_neg hj]
        have : (j == id) = false := by simpa using hj
        simp only [this,cond_false] at h1
        exact hQ (.exit j) x' st' a' w' h1 i'
    | ret => exact hQ .ret x' st' a' w' h1 i'
  | .loop c => fun i st a w k x Q hk h hd hng hw hi hQ => by
    simp only [runCode] at h
    simp only [drawsOk] at hd
    refine wpIn_loop_rounds n ?_
    have key : ∀ (j : Nat) (st : St) (a : Act) (w : World) (x : α),loopN (Skm.forgetAt F.cfg c) (fun st' k' => runCode T C F n c st' k') j st k = some x → I i x st a w → Code.roundsIn (FW (rd i)) m P c Q j a w := by
      intro j
      induction j with
      | zero => intro st a w x h; simp [loopN] at h
      | succ j ih =>
        intro st a w x h hi
        rw [loopN_loopK] at h
        rw [roundsIn_succ]
        refine sim_codeG S hrng c i st a w _ x _ (S.kloop c j k hk) h hd (fun e => by simpa [noRange] using hng e) (fun o ho => hw o (by simpa [opsOf] using ho)) hi fun ex x' st' a' w' h1 i' => ?_
        cases ex with
        | normal =>
          simp only [loopK,forceSt_eq] at h1
          exact ih _ a' w' x' h1 (S.forget _ _ _ _ _ _ i')
        | exit id => exact hQ (.exit id) x' st' a' w' h1 i'
        | ret => exact hQ .ret x' st' a' w' h1 i'
    exact key n _ a w x h (S.forget _ _ _ _ _ _ hi)
  | .exit id => fun _ st a w _ x _ _ h _ _ _ i hQ => wpIn_exit (hQ (.exit id) x st a w h i)
  | .ret => fun _ st a w _ x _ _ h _ _ _ i hQ => wpIn_ret (hQ .ret x st a w h i)
  | .label _ => fun _ st a w _ x _ _ h _ _ _ i hQ => wpIn_label (hQ .normal x st a w h i)
  | .rangeFunc f ps y z => by
    cases hn : ng with
    | false => exact hn ▸ hrng hn f ps y z (sim_codeG S hrng y) (sim_codeG S hrng z)
    | true => exact fun _ st a w _ x _ _ _ _ hng _ _ _ => by have := hng rfl; simp [noRange] at this
  | .scope c => fun i st a w k x Q hk h hd hng hw hi hQ => by
    have h : runCode T C F n c st k = some x := h
    simp only [drawsOk] at hd
    refine wpIn_scope (sim_codeG S hrng c i st a w k x _ hk h hd (fun e => by simpa [noRange] using hng e) (fun o ho => hw o (by simpa [opsOf] using ho)) hi fun ex x' st' a' w' h1 i' => ?_)
    cases ex with
    | normal => exact hQ .normal x' st' a' w' h1 i'
    | exit j => exact hQ (.exit j) x' st' a' w' h1 i'
    | ret => exact hQ .ret x' st' a' w' h1 i'
  | .goto .. => fun _ st a w _ x _ _ h _ _ _ i hQ => by simp [runCode] at h
  | .refuse .. => fun _ st a w _ x _ _ h _ _ _ i hQ => by simp [runCode] at h
end
section
variable {P : Program} {T : Tab} {C : CallF} {F : FI} {n m : Nat} {α : Type}
abbrev CxN (gl : Option (List (Nat × Obj))) := { cx : Cx // NoLog cx.hp0 ∧ cx.w0.gl = gl }
theorem codeSim_inv (ok : TabOk P T) {gl : Option (List (Nat × Obj))} (hC : CallOk P T gl C) (hnv : F.cfg.nvars ≤ argSite) (x0 : α) : CodeSim T C F n P m (fun _ : Ex → St → Option α => True) (fun i : CxN gl => i.1.rd) (fun i => OpFit i.1) (fun i x st a w => x = x0 ∧ Inv i.1 st a w) where
  reg := by
    intro i id ops draw st a w k x Q _ h hd hw ⟨hx,hi⟩ hQ
    have hw' : ∀ o ∈ ops.toList,OpFit i.1 o := hw
    have hC : CallOk P T i.1.w0.gl C := by rw [i.2.2]; exact hC
    have fin : ∀ st' a' w',(forceSt (settle F.cfg ops.toList st') fun st' => k .normal st') = some x → Inv i.1 st' a' w' → Q .normal a' w' := by
      intro st' a' w' h1 i'
      rw [forceSt_eq] at h1
      exact hQ x _ a' w' h1 ⟨hx,i'.settle hnv _⟩
    simp only [runCode] at h
    obtain ⟨h,-⟩ := altSt_path h
    cases draw with
    | false =>
      exact sim_undrawn ok hC i.2.1 h hw' hi fin
    | true =>
      simp only [drawsOk] at hd
      cases hh : tlook F.hides id with
      | none => rw [hh] at h; cases h
      | some hid =>
        rw [hh] at h hd
        simp only [Bool.and_eq_true] at hd
        simp only [forceSt_eq] at h
        have i0 := hi.strike (present st.heap (allSites ops.toList ops.toList))
        refine sim_draw ok hC hd.1 hd.2 h hw' i0 fun st' a' w' h1 i' => ?_
        obtain ⟨st2,h2,i2,_⟩ := i'.relog (fun on xs he => by
          have i0' := i0
          obtain ⟨M,β,L,ds,r,e1,e2,e3,fx⟩ := i0'
          obtain ⟨b0,g1,g2⟩ := e2 argSite (Nat.le_refl _) _ he
          cases b0 with
          | box => exact g2.elim
          | arr => exact g2.elim
          | tb => exact g2.elim
          | mp => exact g2.elim
          | br => exact g2.elim
          | log o ys => cases (show o = on from g2); exact ⟨ys,g1⟩) h1
        exact hQ x _ a' w' h2 ⟨hx,i2.settle hnv _⟩
  forget := fun i _ st a w c h => ⟨h.1,h.2.forgetAt _ _⟩
  cond := by
    intro i x st a w c b hi hv
    obtain ⟨_,M,β,L,ds,r,_⟩ := hi
    have hc := r.evalO c
    rw [hv] at hc
    exact hc.p_bool
  kseq := fun _ _ _ => trivial
  kblock := fun _ _ _ => trivial
  kloop := fun _ _ _ _ => trivial
end
end Go.Skm
namespace Go.Skm
open Go.RowKit
structure Turns (gl : Option (List (Nat × Obj))) (O : Nat → Prop) (W W' : World) : Prop where
  size : W.heap.size ≤ W'.heap.size
  keep : ∀ b,b < W.heap.size → ¬ O b → W'.heap[b]? = W.heap[b]?
  os : W'.os = W.os
  tape : W'.tape = W.tape
  output : W'.output = W.output
  drawn : DrawnLe gl W.drawn W'.drawn
abbrev Grows (gl : Option (List (Nat × Obj))) (W W' : World) : Prop := Turns gl (fun _ => False) W W'
theorem Turns.refl (gl : Option (List (Nat × Obj))) (O : Nat → Prop) (W : World) : Turns gl O W W := ⟨Nat.le_refl _,fun _ _ _ => rfl,rfl,rfl,rfl,.refl _ _⟩
theorem Turns.trans {gl : Option (List (Nat × Obj))} {O O' : Nat → Prop} {A B C : World} (h : Turns gl O A B) (k : Turns gl O' B C) (hO : ∀ b,b < A.heap.size → O' b → O b) : Turns gl O A C :=
  ⟨Nat.le_trans h.size k.size,fun b hb ho => by rw [k.keep b (by have := h.size; omega) fun h' => ho (hO b hb h'),h.keep b hb ho],k.os.trans h.os,k.tape.trans h.tape,k.output.trans h.output,h.drawn.trans k.drawn⟩
theorem Grows.alloc {gl : Option (List (Nat × Obj))} (W : World) (o : Obj) : Grows gl W (W.alloc o) :=
  ⟨by simp,fun b hb _ => Below.heap_alloc W o b hb,rfl,rfl,rfl,.refl _ _⟩
theorem Turns.putObj {gl : Option (List (Nat × Obj))} (W : World) (l : Nat) (o : Obj) : Turns gl (fun b => b = l) W (W.putObj l o) :=
  ⟨by simp,fun b _ h => World.putObj_heap_other h,rfl,rfl,rfl,.refl _ _⟩
def YldOk (P : Program) (gl : Option (List (Nat × Obj))) (l : Nat) (cargs : Array Value) (W : World) (J : (Nat → Prop) → World → Prop) (Jx : World → Prop) (O : Nat → Prop) : Prop :=
  YieldAt (FW none) 0 P l cargs W fun e W' => Turns gl O W W' ∧ ((e = .returned (.bool true) ∧ ∃ O',J O' W' ∧ ∀ b,O' b → O b ∨ W.heap.size ≤ b) ∨ (e = .returned (.bool false) ∧ Jx W'))
def IterOk (P : Program) (gl : Option (List (Nat × Obj))) (g : Nat) (caps xs : List PV) : Prop :=
  ∀ (W0 : World) (M0 : Nat → Prop) (l : Nat) (lb : Array Value) (J : List PV → (Nat → Prop) → World → Prop) (Jx : World → Prop) (O0 : Nat → Prop),
    (∀ p ∈ gl.getD [],M0 p.1 ∧ W0.heap[p.1]? = some p.2) → lb.size = caps.length → (∀ i c,caps[i]? = some c → VR W0 M0 c (lb.getD i undef)) → (∀ b,M0 b → b < W0.heap.size ∧ ¬ O0 b) →
    (∀ r O W W',J r O W → Grows gl W W' → J r O W') → (∀ W W',Jx W → Grows gl W W' → Jx W') → (∀ r O W,J r O W → ∀ b,O b → b < W.heap.size) →
    (∀ vs r O W (M : Nat → Prop) cargs,J (.agg vs::r) O W → W0.heap.size ≤ W.heap.size → (∀ b,M b → b < W.heap.size ∧ ¬ O b ∧ (M0 b ∨ W0.heap.size ≤ b)) → cargs.size = vs.length → (∀ i c,vs[i]? = some c → VR W M c (cargs.getD i undef)) →
      YldOk P gl l cargs W (J r) Jx O) →
    J xs O0 W0 → Calls P g (#[.func (.yield l) #[] #[]] ++ lb) W0 fun e W' => (∃ v,e = .returned v) ∧ ((∃ O,J [] O W') ∨ Jx W')
def SeqOk (P : Program) (T : Tab) (gl : Option (List (Nat × Obj))) (C : CallF) : Prop :=
  ∀ g fi caps r,tlook T.funcs g = some fi → bodyPlain fi caps.length = true → C g (.yld::caps.map .p) [.log true []] = some r → P.funcs[g]? = some fi.fn ∧ IterOk P gl g caps (logOf r.2)
section
variable {w0 w0' : Base} {Pr Pr' M0 M0' M M' : Nat → Prop} {β β' : Nat → Option (Nat × Nat)} {st st' : St} {a a' : Act} {w w' : World}
theorem Rel.to (r : Rel w0 Pr M0 M β st a w) (hgl : w0'.gl = w0.gl) (hM : ∀ b,M b → M' b ∧ w'.heap[b]? = w.heap[b]?)
    (hB : ∀ s b o,(look st.heap s).isSome = true → β s = some (b,o) → w'.heap[b]? = w.heap[b]? ∧ ¬ M' b ∧ b < w'.heap.size ∧ ((w0'.heap.size ≤ b ∨ Pr' b) ∧ (w0'.n0 ≤ b ∨ argSite ≤ s)))
    (msub : ∀ b,M' b → b < w'.heap.size) (mnew : ∀ b,M' b → M0' b ∨ (w0'.n0 ≤ b ∧ (w0'.heap.size ≤ b ∨ Pr' b))) (mold : ∀ b,M0' b → M' b)
    (keep : ∀ b,b < w0'.heap.size → ¬ Pr' b → w'.heap[b]? = w0'.heap[b]?) (room : ∀ b n,b < w0'.n0 → Pr' b → Room w0'.wd b n → Room w' b n)
    (size : w0'.heap.size ≤ w'.heap.size) (os : w'.os = w0'.os) (tape : w'.tape = w0'.tape) (output : w'.output = w0'.output) : Rel w0' Pr' M0' M' β st a w' := by
  have key : ∀ (v : AV) (c : Value),AR w M β (look st.heap) v c → AR w' M' β (look st.heap) v c := fun v c h =>
    h.mono hM fun s blk _ hl => ⟨blk,hl,Like.refl _,rfl,fun b o n h3 hr => hr.of_block (hB s b o (by rw [hl]; rfl) h3).1⟩
  refine ⟨r.tsize,fun t v h => key _ _ (r.env t v h),?_,fun s b o hs hb => (hB s b o hs hb).2,r.inj,msub,mnew,mold,keep,room,size,os,tape,output,fun p hp => by rw [hgl] at hp; exact ⟨(hM _ (r.glob p hp).1).1,(hM _ (r.glob p hp).1).2.trans (r.glob p hp).2⟩⟩
  intro s blk hl
  have hi : (look st.heap s).isSome = true := by rw [hl]; rfl
  cases r.heap s blk hl with
  | box cs b o C e fr g1 g2 g3 g4 g5 g6 => exact .box _ b o C e fr g1 (by rw [(hB s b o hi g1).1]; exact g2) g3 g4 g5 fun j c hc => key _ _ (g6 j c hc)
  | arrE a ks => exact .arrE a ks
  | log on ys => exact .log on ys
  | arr a ks xs b o C e fr g1 g2 g3 g4 g5 g6 => exact .arr a ks xs b o C e fr g1 (by rw [(hB s b o hi g1).1]; exact g2) g3 g4 g5 fun i x j c hx hc => (g6 i x j c hx hc).mono hM
  | tb t c0 c1 b C fr g1 g2 g3 g4 g5 g6 g7 g8 => exact .tb t c0 c1 b C fr g1 (by rw [(hB s b 0 hi g1).1]; exact g2) g3 g4 g5 g6 (key _ _ g7) (key _ _ g8)
  | mp t es b o E k g1 g2 g3 g4 => exact .mp t es b o E k g1 (by rw [(hB s b o hi g1).1]; exact g2) g3 fun i p e hi he => ⟨(g4 i p e hi he).1.mono hM,(g4 i p e hi he).2.mono hM⟩
  | brE e => exact .brE e
  | br e xs b C fr g1 g2 g3 g4 g5 g6 => exact .br e xs b C fr g1 (by rw [(hB s b 0 hi g1).1]; exact g2) g3 g4 g5 g6
theorem Rel.slots (r : Rel w0 Pr M0 M β st a w) {env : List AV} (hs : env.length ≤ a'.tmps.size) (h : ∀ t v,env[t]? = some v → AR w M β (look st.heap) v (a'.tmps.getD t undef)) : Rel w0 Pr M0 M β { st with env := env } a' w :=
  ⟨hs,h,r.heap,r.own,r.inj,r.msub,r.mnew,r.mold,r.keep,r.room,r.size,r.os,r.tape,r.output,r.glob⟩
theorem Rel.turns (r : Rel w0 Pr M0 M β st a w) (hd : DrawnLe w0.gl w0.drawn w.drawn) : Turns w0.gl Pr w0.wd w := ⟨r.size,r.keep,r.os,r.tape,r.output,hd⟩
end
theorem dropEnv_get {ws : List Nat} : ∀ (l : List AV) (k i : Nat) (v : AV),(dropEnv ws k l)[i]? = some v → v = .undef ∨ (l[i]? = some v ∧ (k + i) ∉ ws)
  | [],k,i,v,h => by simp [dropEnv] at h
  | u::r,k,0,v,h => by
    simp only [dropEnv,List.getElem?_cons_zero,Option.some.injEq] at h
    cases hm : memN k ws with
    | true => rw [hm] at h; left; simpa using h.symm
    | false => rw [hm] at h; right; exact ⟨by simpa using h,fun hk => by rw [memN_iff.2 (show k ∈ ws from hk)] at hm; cases hm⟩
  | u::r,k,i + 1,v,h => by
    simp only [dropEnv,List.getElem?_cons_succ] at h
    have := dropEnv_get r (k + 1) i v h
    rw [show k + 1 + i = k + (i + 1) from by omega] at this
    simpa using this
theorem dropEnv_length {ws : List Nat} : ∀ (l : List AV) (k : Nat),(dropEnv ws k l).length = l.length
  | [],_ => rfl
  | u::r,k => by simp [dropEnv,dropEnv_length r]
theorem etaArg_ok {w : World} {M : Nat → Prop} {s : Bool × List Kd} {v : PV} {c : Value} (hk : shapeOk s.1 s.2 v = true) (h : VR w M v c) : VR w M (etaArg s v) c := by
  obtain ⟨a,ks⟩ := s
  cases a with
  | true => exact h.written hk
  | false =>
    match ks,hk with
    | [k],hk => exact eta_ok (by simpa [shapeOk] using hk) h
    | [],hk => simp [shapeOk] at hk
    | _::_::_,hk => simp [shapeOk] at hk
theorem setPs_len : ∀ {ss : List (Bool × List Kd)} {ps : List Nat} {vs : List PV} {i : Nat} {env env' : List AV},setPs ss ps (.agg vs) i env = some env' → vs.length = i + ps.length
  | [],[],vs,i,env,env',hs => by
    simp only [setPs] at hs
    cases hb : Nat.beq (PV.agg vs).cells.length i with
    | false => rw [hb] at hs; cases hs
    | true => exact Nat.eq_of_beq_eq_true hb
  | s::ss,t::ps,vs,i,env,env',hs => by
    simp only [setPs] at hs
    cases hb : shapeOk s.1 s.2 ((PV.agg vs).cell i) with
    | false => rw [hb] at hs; cases hs
    | true =>
      rw [hb] at hs
      have := setPs_len hs
      simp only [List.length_cons]; omega
  | [],_::_,vs,i,env,env',hs => by simp [setPs] at hs
  | _::_,[],vs,i,env,env',hs => by simp [setPs] at hs
theorem setPs_ok {w : World} {M : Nat → Prop} {β : Nat → Option (Nat × Nat)} {h : Nat → Option Blk} : ∀ {ss : List (Bool × List Kd)} {ps : List Nat} {vs : List PV} {i : Nat} {env env' : List AV} {cs : List Value} {tmps : Array Value},
    setPs ss ps (.agg vs) i env = some env' → cs.length = vs.length - i → i ≤ vs.length → (∀ j c,vs[i + j]? = some c → VR w M c (cs.getD j undef)) →
    env.length ≤ tmps.size → (∀ t v,env[t]? = some v → AR w M β h v (tmps.getD t undef)) →
    cs.length = ps.length ∧ env'.length = env.length ∧ (((ps.zip cs).foldl (fun tmps (t,a) => tmps.setIfInBounds t a) tmps).size = tmps.size) ∧
    (∀ t v,env'[t]? = some v → AR w M β h v (((ps.zip cs).foldl (fun tmps (t,a) => tmps.setIfInBounds t a) tmps).getD t undef)) ∧
    (∀ t,t ∉ ps → ((ps.zip cs).foldl (fun tmps (t,a) => tmps.setIfInBounds t a) tmps).getD t undef = tmps.getD t undef)
  | [],[],vs,i,env,env',cs,tmps,hs,hc,hi,hv,hl,he => by
    simp only [setPs] at hs
    cases hb : Nat.beq (PV.agg vs).cells.length i with
    | false => rw [hb] at hs; cases hs
    | true =>
      rw [hb] at hs; cases hs
      have : vs.length = i := Nat.eq_of_beq_eq_true hb
      have hc0 : cs = [] := List.length_eq_zero_iff.1 (by omega)
      subst hc0
      exact ⟨rfl,rfl,rfl,he,fun _ _ => rfl⟩
  | s::ss,t::ps,vs,i,env,env',cs,tmps,hs,hc,hi,hv,hl,he => by
    simp only [setPs] at hs
    cases hb : shapeOk s.1 s.2 ((PV.agg vs).cell i) with
    | false => rw [hb] at hs; cases hs
    | true =>
      rw [hb] at hs
      simp only [cond_true] at hs
      have hlt : i < vs.length := by have := setPs_len hs; omega
      match cs,hc with
        | [],hc => simp at hc; omega
        | c::cs,hc =>
          have hv0 := hv 0 vs[i] (by simp)
          simp only [List.getD_eq_getElem?_getD,List.getElem?_cons_zero,Option.getD_some] at hv0
          have hcell : (PV.agg vs).cell i = vs[i] := by simp [PV.cell,List.getD,hlt]
          rw [hcell] at hs hb
          have hnew : AR w M β h (.p (etaArg s vs[i])) c := .p _ _ (etaArg_ok hb hv0)
          obtain ⟨g1,g2,g3,g4,g5⟩ := setPs_ok (w := w) (M := M) (β := β) (h := h) (cs := cs) (tmps := tmps.setIfInBounds t c) hs (by simp at hc; omega) (by omega) (fun j d hd => by
            have := hv (j + 1) d (by rw [← hd]; congr 1; omega)
            simpa using this) (by simpa using hl) (fun u v hu => by
            by_cases e : u = t
            · subst e
              have hlt' : u < env.length := by have := (List.getElem?_eq_some_iff.1 hu).1; simpa using this
              rw [List.getElem?_set_self hlt'] at hu
              cases hu
              have : (tmps.setIfInBounds u c).getD u undef = c := by
                have : u < tmps.size := by omega
                simp [this]
              rw [this]; exact hnew
            · rw [List.getElem?_set_ne (Ne.symm e)] at hu
              have : (tmps.setIfInBounds t c).getD u undef = tmps.getD u undef := by
                simp [Array.getD_eq_getD_getElem?,Array.getElem?_setIfInBounds_ne (Ne.symm e)]
              rw [this]; exact he u v hu)
          refine ⟨by simp [g1],by simpa using g2,by simpa using g3,g4,fun u hu => ?_⟩
          simp only [List.mem_cons,not_or] at hu
          refine (g5 u hu.2).trans ?_
          simp [Array.getD_eq_getD_getElem?,Array.getElem?_setIfInBounds_ne (Ne.symm hu.1)]
  | [],_::_,vs,i,env,env',cs,tmps,hs,hc,hi,hv,hl,he => by simp [setPs] at hs
  | _::_,[],vs,i,env,env',cs,tmps,hs,hc,hi,hv,hl,he => by simp [setPs] at hs
end Go.Skm
namespace Go.Skm
open Go.RowKit
section
variable {w0 : Base} {Pr M0 M : Nat → Prop} {β : Nat → Option (Nat × Nat)} {st : St} {a : Act} {w : World}
theorem forgetAt_rel (r : Rel w0 Pr M0 M β st a w) (F : FCfg) (c : Code) : Rel w0 Pr M0 M β (forgetAt F c st) a w ∧ ArgsLike st.heap (forgetAt F c st).heap ∧ ∀ b,Owned β (forgetAt F c st).heap b → Owned β st.heap b := by
  unfold Skm.forgetAt
  split
  · exact ⟨r,fun s _ b h => ⟨b,h,Like.refl _⟩,fun _ h => h⟩
  · split
    · exact ⟨r,fun s _ b h => ⟨b,h,Like.refl _⟩,fun _ h => h⟩
    · rename_i live sites _
      have r1 := r.lessEnv (env := keepEnv live 0 st.env) (keepEnv_length _ _) (fun t v h => keepEnv_get _ _ _ _ h)
      exact ⟨r1.strike _ (fun b h => h) fun b h => .inl h,strike_like _ _,fun b h => strike_owned (st := { st with env := keepEnv live 0 st.env }) h⟩
end
def InvL (cx : Cx) (a' : Act) (Ln : List (Nat × Obj)) (dsn : List Nat) (l : Nat) (W1 : World) (st : St) (O : Nat → Prop) (W : World) (lp : Loop) : Prop :=
  ∃ M β,Rel cx.w0 cx.Pr cx.M0 M β st a' W ∧ (∀ s,argSite ≤ s → β s = cx.β0 s) ∧ ArgsLike cx.hp0 st.heap ∧ DrawnLe cx.w0.gl cx.w0.drawn W.drawn ∧ Fix cx M β st.heap a' W Ln dsn ∧
    (W.heap[l]? = some (.loop lp) ∧ ¬ M l ∧ ¬ Owned β st.heap l ∧ (∀ p ∈ Ln,p.1 ≠ l) ∧ cx.w0.heap.size ≤ l ∧ W1.heap.size ≤ W.heap.size) ∧ (∀ b,O b ↔ (Owned β st.heap b ∨ b = l))
section
variable {cx : Cx} {a' : Act} {Ln : List (Nat × Obj)} {dsn : List Nat} {l : Nat} {W1 W W' : World} {st : St} {O : Nat → Prop} {lp : Loop}
theorem Rel.owned_lt {w0 : Base} {Pr M0 M : Nat → Prop} {β : Nat → Option (Nat × Nat)} {a : Act} {w : World} (r : Rel w0 Pr M0 M β st a w) {b : Nat} (h : Owned β st.heap b) : ¬ M b ∧ b < w.heap.size ∧ (w0.heap.size ≤ b ∨ Pr b) := by
  obtain ⟨s,o,hs,hb⟩ := h
  obtain ⟨g1,g2,g3,_⟩ := r.own s b o hs hb
  exact ⟨g1,g2,g3⟩
theorem InvL.lt (i : InvL cx a' Ln dsn l W1 st O W lp) : ∀ b,O b → b < W.heap.size := by
  obtain ⟨M,β,r,e1,e2,e3,fx,⟨h1,h2,h3,h4,h5,h6⟩,hO⟩ := i
  intro b hb
  rcases (hO b).1 hb with h | rfl
  · exact (r.owned_lt h).2.1
  · exact (Array.getElem?_eq_some_iff.1 h1).1
theorem InvL.grows (i : InvL cx a' Ln dsn l W1 st O W lp) (g : Grows cx.w0.gl W W') : InvL cx a' Ln dsn l W1 st O W' lp := by
  obtain ⟨M,β,r,e1,e2,e3,fx,⟨h1,h2,h3,h4,h5,h6⟩,hO⟩ := i
  have hk : ∀ b,b < W.heap.size → W'.heap[b]? = W.heap[b]? := fun b hb => g.keep b hb fun h => h
  have hl : l < W.heap.size := (Array.getElem?_eq_some_iff.1 h1).1
  have hgs := g.size
  have hrs := r.size
  refine ⟨M,β,r.to rfl (fun b hb => ⟨hb,hk b (r.msub b hb)⟩) (fun s b o hs hb => ?_) (fun b hb => Nat.lt_of_lt_of_le (r.msub b hb) hgs) r.mnew r.mold (fun b hb hp => ?_) (fun b n hb hp hr => ?_) (Nat.le_trans r.size hgs) (g.os.trans r.os) (g.tape.trans r.tape) (g.output.trans r.output),
    e1,e2,e3.trans g.drawn,fx.less (fun p hp => hk p.1 (Array.getElem?_eq_some_iff.1 (fx.lies p hp).1).1) fun _ h => h,⟨(hk l hl).trans h1,h2,h3,h4,h5,Nat.le_trans h6 hgs⟩,hO⟩
  · obtain ⟨g1,g2,g3⟩ := r.own s b o hs hb
    exact ⟨hk b g2,g1,Nat.lt_of_lt_of_le g2 hgs,g3⟩
  · rw [hk b (by omega)]; exact r.keep b hb hp
  · exact (r.room b n hb hp hr).of_block (hk b (by have := cx.w0.le'; omega))
theorem InvL.forgetAt (i : InvL cx a' Ln dsn l W1 st O W lp) (F : FCfg) (c : Code) : ∃ O',InvL cx a' Ln dsn l W1 (Skm.forgetAt F c st) O' W lp ∧ ∀ b,O' b → O b := by
  obtain ⟨M,β,r,e1,e2,e3,fx,⟨h1,h2,h3,h4,h5,h6⟩,hO⟩ := i
  obtain ⟨r',a2,ho⟩ := forgetAt_rel r F c
  exact ⟨fun b => Owned β (Skm.forgetAt F c st).heap b ∨ b = l,⟨M,β,r',e1,e2.trans a2,e3,fx.less (fun _ _ => rfl) ho,⟨h1,h2,fun h => h3 (ho l h),h4,h5,h6⟩,fun b => Iff.rfl⟩,fun b hb => (hO b).2 (hb.imp (ho b) id)⟩
theorem InvL.close (i : InvL cx a' Ln dsn l W1 st O W lp) (o : Obj) : Inv cx st a' (W.putObj l o) := by
  obtain ⟨M,β,r,e1,e2,e3,fx,⟨h1,h2,h3,h4,h5,h6⟩,hO⟩ := i
  have hk : ∀ b,b ≠ l → (W.putObj l o).heap[b]? = W.heap[b]? := fun b hb => World.putObj_heap_other hb
  have hsz : (W.putObj l o).heap.size = W.heap.size := World.putObj_size
  have hrs := r.size
  refine ⟨M,β,Ln,dsn,r.to rfl (fun b hb => ⟨hb,hk b fun e => h2 (e ▸ hb)⟩) (fun s b o' hs hb => ?_) (fun b hb => by rw [hsz]; exact r.msub b hb) r.mnew r.mold (fun b hb hp => ?_) (fun b n hb hp hr => ?_) (by rw [hsz]; exact r.size) r.os r.tape r.output,
    e1,e2,e3,fx.less (fun p hp => hk p.1 (h4 p hp)) fun _ h => h⟩
  · obtain ⟨g1,g2,g3⟩ := r.own s b o' hs hb
    exact ⟨hk b fun e => h3 (e ▸ ⟨s,o',hs,hb⟩),g1,by rw [hsz]; exact g2,g3⟩
  · rw [hk b (by omega)]; exact r.keep b hb hp
  · exact (r.room b n hb hp hr).of_block (hk b (by have := cx.w0.le'; omega))
structure SubCx (cx cx' : Cx) (M : Nat → Prop) (a' : Act) (Ln : List (Nat × Obj)) (ws : List Nat) (l : Nat) (W : World) (O : Nat → Prop) : Prop where
  n0 : cx'.w0.n0 = cx.w0.n0
  gl : cx'.w0.gl = cx.w0.gl
  turns : Turns cx.w0.gl O W cx'.w0.wd
  pr : ∀ b,cx'.Pr b → O b ∨ W.heap.size ≤ b
  mnew : ∀ b,cx'.M0 b → cx.M0 b ∨ (cx.w0.n0 ≤ b ∧ (cx.w0.heap.size ≤ b ∨ cx.Pr b))
  room : ∀ b n,b < cx.w0.n0 → O b → Room W b n → Room cx'.w0.wd b n
  mold : ∀ b,M b → cx'.M0 b
  β0 : cx'.β0 = cx.β0
  hp0 : cx'.hp0 = cx.hp0
  wr : cx'.Wr = fun t => t ∈ ws
  size : cx'.t0.size = a'.tmps.size
  t0 : ∀ t,t ∉ ws → cx'.t0.getD t undef = a'.tmps.getD t undef
  L0 : ∀ p ∈ Ln,p ∈ cx'.L0
theorem InvL.round {M : Nat → Prop} {β : Nat → Option (Nat × Nat)} (r : Rel cx.w0 cx.Pr cx.M0 M β st a' W) (fx : Fix cx M β st.heap a' W Ln dsn) (hcd : DrawnLe cx.w0.gl cx.w0.drawn W.drawn) (h4 : ∀ p ∈ Ln,p.1 ≠ l) (h5 : cx.w0.heap.size ≤ l) (h6 : W1.heap.size ≤ W.heap.size)
    (hO : ∀ b,O b ↔ (Owned β st.heap b ∨ b = l)) {cx' : Cx} {ws : List Nat} (sb : SubCx cx cx' M a' Ln ws l W O) {lb : Obj} (hlb : (l,lb) ∈ cx'.L0) {st3 : St} {a3 : Act} {W3 : World} (i : Inv cx' st3 a3 W3) (lp' : Loop) :
    W3.heap[l]? = some lb ∧ ∃ O',InvL cx a' Ln dsn l W1 (back ws st3) O' (W3.putObj l (.loop lp')) lp' ∧ (∀ b,O' b → O b ∨ W.heap.size ≤ b) ∧ Turns cx.w0.gl O W (W3.putObj l (.loop lp')) := by
  obtain ⟨M3,β3,L3,ds3,r3,i1,i2,i3,f3⟩ := i
  obtain ⟨k1,k2,k3⟩ := f3.lies _ (f3.sub _ hlb)
  have hl3 : l < W3.heap.size := (Array.getElem?_eq_some_iff.1 k1).1
  have hk : ∀ b,b ≠ l → (W3.putObj l (.loop lp')).heap[b]? = W3.heap[b]? := fun b hb => World.putObj_heap_other hb
  have hsz : (W3.putObj l (.loop lp')).heap.size = W3.heap.size := World.putObj_size
  have hrs := r.size
  have hts := sb.turns.size
  have hr3 := r3.size
  have hts' : W.heap.size ≤ cx'.w0.heap.size := hts
  have ht3 : Turns cx.w0.gl O W W3 := sb.turns.trans (sb.gl ▸ r3.turns i3) fun b hb hp => by
    rcases sb.pr b hp with h | h
    · exact h
    · omega
  have htu : Turns cx.w0.gl O W (W3.putObj l (.loop lp')) := ht3.trans (Turns.putObj W3 l _) fun b _ hb => (hO b).2 (.inr hb)
  have hown : ∀ b,(cx'.w0.heap.size ≤ b ∨ cx'.Pr b) → O b ∨ W.heap.size ≤ b := fun b h => by
    rcases h with h | h
    · right; omega
    · exact sb.pr b h
  have hO' : ∀ b,O b → cx.w0.heap.size ≤ b ∨ cx.Pr b := fun b h => by
    rcases (hO b).1 h with h | rfl
    · exact (r.owned_lt h).2.2
    · exact .inl h5
  have hup : ∀ b,(cx'.w0.heap.size ≤ b ∨ cx'.Pr b) → cx.w0.heap.size ≤ b ∨ cx.Pr b := fun b h => by
    rcases hown b h with h | h
    · exact hO' b h
    · left; omega
  have rr : Rel cx.w0 cx.Pr cx.M0 M3 β3 st3 a3 (W3.putObj l (.loop lp')) := by
    refine r3.to sb.gl.symm (fun b hb => ⟨hb,hk b fun e => k3 (e ▸ hb)⟩) (fun s b o hs hb => ?_) (fun b hb => by rw [hsz]; exact r3.msub b hb) (fun b hb => ?_) (fun b hb => r3.mold b (sb.mold b (r.mold b hb))) (fun b hb hp => ?_) (fun b n hb hp hr => ?_) (by rw [hsz]; omega)
      (ht3.os.trans r.os) (ht3.tape.trans r.tape) (ht3.output.trans r.output)
    · obtain ⟨g1,g2,g3,g4⟩ := r3.own s b o hs hb
      exact ⟨hk b fun e => k2 (e ▸ ⟨s,o,hs,hb⟩),g1,by rw [hsz]; exact g2,hup b g3,by rw [← sb.n0]; exact g4⟩
    · rcases r3.mnew b hb with h | ⟨h,h'⟩
      · exact sb.mnew b h
      · exact .inr ⟨by rw [← sb.n0]; exact h,hup b h'⟩
    · have hno : ¬ O b := fun h => by
        rcases hO' b h with h | h
        · omega
        · exact hp h
      rw [hk b (by omega),ht3.keep b (by omega) hno]
      exact r.keep b hb hp
    · have h0 := r.room b n hb hp hr
      have hle := cx.w0.le'
      have h1 : Room cx'.w0.wd b n := by
        by_cases ho : O b
        · exact sb.room b n hb ho h0
        · exact h0.of_block (sb.turns.keep b (by omega) ho)
      have h2 : Room W3 b n := by
        by_cases hp' : cx'.Pr b
        · exact r3.room b n (by rw [sb.n0]; exact hb) hp' h1
        · exact h1.of_block (r3.keep b (by omega) hp')
      exact h2.of_block (hk b (by omega))
  have hsize : a3.tmps.size = a'.tmps.size := f3.size.trans sb.size
  have rs := rr.slots (a' := a') (env := dropEnv ws 0 st3.env) (by rw [dropEnv_length,← hsize]; exact rr.tsize) fun t v hv => by
    rcases dropEnv_get _ _ _ _ hv with rfl | ⟨h1,h2⟩
    · exact .undef _
    · have h2 : t ∉ ws := by simpa using h2
      have e : a3.tmps.getD t undef = a'.tmps.getD t undef := (f3.tmps t (by rw [sb.wr]; exact h2)).trans (sb.t0 t h2)
      rw [← e]; exact rr.env t v h1
  refine ⟨k1,fun b => Owned β3 st3.heap b ∨ b = l,⟨M3,β3,rs,fun s hs => (i1 s hs).trans (by rw [sb.β0]),by rw [← sb.hp0]; exact i2,hcd.trans ht3.drawn,⟨fun p hp => ?_,fx.sub,fx.marks,fx.nodup,fx.mark,fx.rd,fx.size,fx.tmps,fx.one,fx.yl⟩,
    ⟨World.putObj_heap_same hl3,k3,k2,h4,h5,Nat.le_trans h6 (by rw [hsz]; omega)⟩,fun b => Iff.rfl⟩,fun b hb => ?_,htu⟩
  · obtain ⟨g1,g2,g3⟩ := f3.lies p (f3.sub p (sb.L0 p hp))
    exact ⟨(hk p.1 (h4 p hp)).trans g1,g2,g3⟩
  · rcases hb with h | rfl
    · exact hown b (r3.owned_lt h).2.2
    · exact .inl ((hO _).2 (.inr rfl))
end
end Go.Skm
namespace Go.Skm
open Go.RowKit
section
variable {T : Tab} {C : CallF} {F : FI} {n : Nat} {α : Type}
theorem plain_k : ∀ c : Code,plainCode c = true → ∀ (st : St) (k k' : Ex → St → Option α),k .normal = k' .normal → runCode T C F n c st k = runCode T C F n c st k'
  | .skip,_,st,k,k',h => by simp only [runCode,h]
  | .region id ops draw,_,st,k,k',h => by cases draw <;> simp only [runCode,h]
  | .seq y z,hp,st,k,k',h => by
    simp only [plainCode,Bool.and_eq_true] at hp
    rw [runCode_seq,runCode_seq]
    refine plain_k y hp.1 st _ _ ?_
    funext st'
    exact plain_k z hp.2 _ k k' h
  | .cond ..,hp,_,_,_,_ | .block ..,hp,_,_,_,_ | .loop ..,hp,_,_,_,_ | .exit ..,hp,_,_,_,_ | .ret,hp,_,_,_,_ | .label ..,hp,_,_,_,_
  | .rangeFunc ..,hp,_,_,_,_ | .scope ..,hp,_,_,_,_ | .goto ..,hp,_,_,_,_ | .refuse ..,hp,_,_,_,_ => by simp [plainCode] at hp
def roundC (T : Tab) (C : CallF) (F : FI) (n : Nat) (y z : Code) (st : St) (k : Ex → St → Option α) : Option α := runCode T C F n y st (seqK T C F n z k)
def rngWs (ps : Array Tmp) (y z : Code) : List Nat := ps.toList ++ (codeDsts y ++ codeDsts z)
theorem runCode_range {f : Operand} {ps : Array Tmp} {y z : Code} {st : St} {k : Ex → St → Option α} {x : α} (h : runCode T C F n (.rangeFunc f ps y z) st k = some x) :
    ∃ g caps fi r,evalO st.env f = .p (.fn g caps) ∧ tlook T.funcs g = some fi ∧ plainCode y = true ∧ bodyPlain fi caps.length = true ∧ C g (.yld::caps.map .p) [.log true []] = some r ∧
      rangeL (forgetAt F.cfg (.seq y z)) fi.cfg.yk ps.toList (rngWs ps y z) (roundC T C F n y z) (logOf r.2) (forgetAt F.cfg (.seq y z) st) k = some x := by
  simp only [runCode] at h
  obtain ⟨h,-⟩ := altSt_path h
  split at h
  · rename_i g caps hv
    split at h
    · rename_i fi hf hp
      cases hb : bodyPlain fi caps.length with
      | false => rw [hb] at h; cases h
      | true =>
        rw [hb] at h
        simp only [cond_true] at h
        split at h
        · rename_i r hr
          exact ⟨g,caps,fi,r,hv,hf,hp,hb,hr,h⟩
        · cases h
    · cases h
  · cases h
theorem zip_foldl {ps : Array Tmp} {cs : Array Value} {t : Array Value} : (ps.zip cs).foldl (fun tmps (t,a) => tmps.setIfInBounds t a) t = (ps.toList.zip cs.toList).foldl (fun tmps (t,a) => tmps.setIfInBounds t a) t := by
  rw [← Array.foldl_toList,Array.toList_zip]
end
section
variable {cx : Cx} {a' : Act} {Ln : List (Nat × Obj)} {dsn : List Nat} {l : Nat} {W1 W W' : World} {st : St} {O : Nat → Prop} {lp : Loop} {P : Program}
def cx1 (cx : Cx) (le : cx.w0.n0 ≤ W.heap.size) (O M1 : Nat → Prop) (ws : List Nat) (tmps : Array Value) (l : Nat) (L0 : List (Nat × Obj)) : Cx :=
  { w0 := ⟨W,cx.w0.n0,le,cx.w0.gl⟩,Pr := O,M0 := M1,β0 := cx.β0,hp0 := cx.hp0,Wr := fun t => t ∈ ws,t0 := tmps,rd := some l,L0 := L0 }
theorem Inv.busy {cxa : Cx} {st1 : St} {a1 : Act} {w1 : World} {lo : Obj} (i : Inv cxa st1 a1 w1) (hl : (l,lo) ∈ cxa.L0) (ho : ∀ ds,lo ≠ .deferred ds) (hrd : cxa.rd = some l) (lp : Loop) (hLn : ∀ p ∈ Ln,p ∈ cxa.L0 ∧ p.1 ≠ l) (ws : List Nat) (_hw : cxa.Wr = fun t => t ∈ ws) (hpr : cxa.Pr l) (hlt : l < cxa.w0.heap.size) :
    w1.heap[l]? = some lo ∧ ∃ cxb : Cx,Inv cxb st1 a1 (w1.putObj l (.loop lp)) ∧ cxb.w0.n0 = cxa.w0.n0 ∧ cxb.w0.gl = cxa.w0.gl ∧ cxb.w0.wd = w1.putObj l (.loop lp) ∧ Turns cxa.w0.gl cxa.Pr cxa.w0.wd cxb.w0.wd ∧ (∀ b,cxb.Pr b → cxa.w0.heap.size ≤ b ∨ cxa.Pr b) ∧ (∀ b,cxb.M0 b → cxa.M0 b ∨ (cxa.w0.n0 ≤ b ∧ (cxa.w0.heap.size ≤ b ∨ cxa.Pr b))) ∧
      (∀ b n,b < cxa.w0.n0 → cxa.Pr b → b ≠ l → Room cxa.w0.wd b n → Room cxb.w0.wd b n) ∧ (∀ b,cxa.M0 b → cxb.M0 b) ∧ cxb.β0 = cxa.β0 ∧ cxb.hp0 = cxa.hp0 ∧ cxb.Wr = cxa.Wr ∧ cxb.t0 = cxa.t0 ∧ cxb.rd = some l ∧ (l,Obj.loop lp) ∈ cxb.L0 ∧ (∀ p ∈ Ln,p ∈ cxb.L0) ∧ (cxb.Ys = fun _ => False) := by
  obtain ⟨M,β,L,ds,r,i1,i2,i3,fx⟩ := i
  obtain ⟨k1,k2,k3⟩ := fx.lies _ (fx.sub _ hl)
  refine ⟨k1,?_⟩
  have hl1 : l < w1.heap.size := (Array.getElem?_eq_some_iff.1 k1).1
  have hk : ∀ b,b ≠ l → (w1.putObj l (.loop lp)).heap[b]? = w1.heap[b]? := fun b hb => World.putObj_heap_other hb
  have hsz : (w1.putObj l (.loop lp)).heap.size = w1.heap.size := World.putObj_size
  have hrs := r.size
  have hn := cxa.w0.le'
  have ht : Turns cxa.w0.gl cxa.Pr cxa.w0.wd (w1.putObj l (.loop lp)) := (r.turns i3).trans (Turns.putObj w1 l _) fun b _ hb => by rw [show b = l from hb]; exact hpr
  let L2 : List (Nat × Obj) := (l,.loop lp)::L.filter fun p => p.1 != l
  have hmem : ∀ p,p ∈ L → p.1 ≠ l → p ∈ L2 := fun p hp hne => List.mem_cons_of_mem _ (List.mem_filter.2 ⟨hp,by simpa using hne⟩)
  refine ⟨{ w0 := ⟨w1.putObj l (.loop lp),cxa.w0.n0,by rw [hsz]; omega,cxa.w0.gl⟩,Pr := fun b => Owned β st1.heap b ∨ b = l,M0 := M,β0 := cxa.β0,hp0 := cxa.hp0,Wr := cxa.Wr,t0 := cxa.t0,rd := some l,L0 := L2 },?_,rfl,rfl,rfl,ht,fun b hb => ?_,r.mnew,fun b n hb hp hne hr => (r.room b n hb hp hr).of_block (hk b hne),r.mold,rfl,rfl,rfl,rfl,rfl,by simp [L2],fun p hp => ?_,rfl⟩
  · refine ⟨M,β,L2,ds,r.to rfl (fun b hb => ⟨hb,hk b fun e => k3 (e ▸ hb)⟩) (fun s b o hs hb => ?_) (fun b hb => by rw [hsz]; exact r.msub b hb) (fun b hb => .inl hb) (fun b hb => hb) (fun _ _ _ => rfl) (fun _ _ _ _ h => h) (Nat.le_refl _) rfl rfl rfl,i1,i2,.refl _ _,⟨fun p hp => ?_,fun p hp => hp,fx.marks,fx.nodup,fun D hD => ?_,fun l' hl' => ?_,fx.size,fx.tmps,fx.one,fun _ h => h.elim⟩⟩
    · obtain ⟨g1,g2,g3,g4⟩ := r.own s b o hs hb
      exact ⟨hk b fun e => k2 (e ▸ ⟨s,o,hs,hb⟩),g1,by rw [hsz]; exact g2,.inr (.inl ⟨s,o,hs,hb⟩),g4⟩
    · rcases List.mem_cons.1 hp with rfl | hp
      · exact ⟨World.putObj_heap_same hl1,k2,k3⟩
      · obtain ⟨hp1,hp2⟩ := List.mem_filter.1 hp
        obtain ⟨g1,g2,g3⟩ := fx.lies p hp1
        exact ⟨(hk p.1 (by simpa using hp2)).trans g1,g2,g3⟩
    · obtain ⟨g1,g2⟩ := fx.mark D hD
      refine ⟨hmem _ g1 fun e => ?_,g2⟩
      have e : D = l := e
      have := (fx.lies _ g1).1
      rw [e] at this
      rw [show w1.heap[l]? = some lo from k1] at this
      exact ho _ (by cases this; rfl)
    · cases hl'
      exact ⟨lp,by simp [L2]⟩
  · rcases hb with h | rfl
    · exact (r.owned_lt h).2.2
    · exact .inr hpr
  · obtain ⟨h1,h2⟩ := hLn p hp
    exact hmem p (fx.sub p h1) h2
end
end Go.Skm
namespace Go.Skm
open Go.RowKit
section
variable {P : Program} {T : Tab} {C : CallF} {F : FI} {n m : Nat} {α : Type} {cx : Cx} {st : St} {a : Act} {w : World}
theorem opsOf_dst : ∀ {c : Code} {o : Oper} {d : Nat},o ∈ opsOf c → o.dst = some d → d ∈ codeDsts c
  | .region id ops draw,o,d,ho,hd => by
    simp only [codeDsts,List.mem_filterMap]
    exact ⟨o,ho,hd⟩
  | .seq a b,o,d,ho,hd => by
    simp only [opsOf,List.mem_append] at ho
    simp only [codeDsts,List.mem_append]
    exact ho.imp (fun h => opsOf_dst h hd) fun h => opsOf_dst h hd
  | .cond _ a b,o,d,ho,hd => by
    simp only [opsOf,List.mem_append] at ho
    simp only [codeDsts,List.mem_append]
    exact ho.imp (fun h => opsOf_dst h hd) fun h => opsOf_dst h hd
  | .block _ c,o,d,ho,hd => by
    simp only [opsOf] at ho
    simp only [codeDsts]
    exact opsOf_dst ho hd
  | .loop c,o,d,ho,hd => by
    simp only [opsOf] at ho
    simp only [codeDsts]
    exact opsOf_dst ho hd
  | .scope c,o,d,ho,hd => by
    simp only [opsOf] at ho
    simp only [codeDsts]
    exact opsOf_dst ho hd
  | .rangeFunc _ ps a b,o,d,ho,hd => by
    simp only [opsOf,List.mem_append] at ho
    simp only [codeDsts,List.mem_append]
    exact .inr (ho.imp (fun h => opsOf_dst h hd) fun h => opsOf_dst h hd)
  | .skip,o,d,ho,_ | .exit _,o,d,ho,_ | .ret,o,d,ho,_ | .label _,o,d,ho,_ | .goto ..,o,d,ho,_ | .refuse ..,o,d,ho,_ => by simp [opsOf] at ho
theorem enter_loop {M : Nat → Prop} {β : Nat → Option (Nat × Nat)} {L : List (Nat × Obj)} {ds : List Nat} (r : Rel cx.w0 cx.Pr cx.M0 M β st a w) (i1 : ∀ s,argSite ≤ s → β s = cx.β0 s) (i2 : ArgsLike cx.hp0 st.heap) (i3 : DrawnLe cx.w0.gl cx.w0.drawn w.drawn) (fx : Fix cx M β st.heap a w L ds) (hnl : NoLog cx.hp0) (fn : FuncId) (ps : Array Tmp) (y z : Code) :
    ∃ (l : Nat) (mark : List Deferred) (W1 : World) (dB : Nat) (Ln : List (Nat × Obj)) (dsn : List Nat),(Instr.enterLoop fn a.tmps ps y z cx.rd).run P w = .ok (l,mark) W1 ∧ Grows cx.w0.gl w W1 ∧
      ∀ (F : FCfg) (c : Code),∃ O,InvL cx { a with defers := mark ++ a.defers } Ln dsn l W1 (forgetAt F c st) O W1 { state := .ready,pending := none,fn,tmps := a.tmps,params := ps,assign := y,body := z,defers := dB } ∧ (∀ b,M b → ¬ O b) ∧ ∀ p ∈ Ln,p.1 < W1.heap.size ∧ ¬ M p.1 := by
  have hrs := r.size
  have hn := cx.w0.le'
  have fin : ∀ (W1 : World) (l : Nat) (mark : List Deferred) (Ln : List (Nat × Obj)) (dsn : List Nat) (lp : Loop),Grows cx.w0.gl w W1 → w.heap.size ≤ l → W1.heap[l]? = some (.loop lp) → (∀ p ∈ Ln,W1.heap[p.1]? = some p.2 ∧ p.1 ≠ l ∧ (p ∈ L ∨ w.heap.size ≤ p.1)) → (∀ p ∈ L,p ∈ Ln) →
      mark ++ a.defers = dsn.map markOf → dsn.Nodup → (∀ D ∈ dsn,(D,Obj.deferred (some [])) ∈ Ln ∧ cx.w0.n0 ≤ D) → ∀ (F : FCfg) (c : Code),∃ O,InvL cx { a with defers := mark ++ a.defers } Ln dsn l W1 (forgetAt F c st) O W1 lp ∧ (∀ b,M b → ¬ O b) ∧ ∀ p ∈ Ln,p.1 < W1.heap.size ∧ ¬ M p.1 := by
    intro W1 l mark Ln dsn lp g hl hlp hLn hsub hm hnd hmk F c
    have hgs := g.size
    have hk : ∀ b,b < w.heap.size → W1.heap[b]? = w.heap[b]? := fun b hb => g.keep b hb fun h => h
    have rr : Rel cx.w0 cx.Pr cx.M0 M β st a W1 := by
      refine r.to rfl (fun b hb => ⟨hb,hk b (r.msub b hb)⟩) (fun s b o hs hb => ?_) (fun b hb => Nat.lt_of_lt_of_le (r.msub b hb) hgs) r.mnew r.mold (fun b hb hp => ?_) (fun b n hb hp hr => ?_) (Nat.le_trans r.size hgs) (g.os.trans r.os) (g.tape.trans r.tape) (g.output.trans r.output)
      · obtain ⟨g1,g2,g3⟩ := r.own s b o hs hb
        exact ⟨hk b g2,g1,Nat.lt_of_lt_of_le g2 hgs,g3⟩
      · rw [hk b (by omega)]; exact r.keep b hb hp
      · exact (r.room b n hb hp hr).of_block (hk b (by omega))
    have ra := rr.slots (a' := { a with defers := mark ++ a.defers }) (env := st.env) rr.tsize rr.env
    obtain ⟨rf,af,hof⟩ := forgetAt_rel ra F c
    have hMl : ¬ M l := fun h => by have := r.msub l h; omega
    have hOl : ¬ Owned β st.heap l := fun h => by have := (r.owned_lt h).2.1; omega
    refine ⟨fun b => Owned β (forgetAt F c st).heap b ∨ b = l,⟨M,β,rf,i1,i2.trans af,i3.trans g.drawn,⟨fun p hp => ?_,fun p hp => hsub p (fx.sub p hp),hm,hnd,hmk,fun l' hl' => ?_,fx.size,fx.tmps,fun h => absurd hnl h,fx.yl⟩,⟨hlp,hMl,fun h => hOl (hof l h),fun p hp => (hLn p hp).2.1,by omega,Nat.le_refl _⟩,fun b => Iff.rfl⟩,fun b hb ho => ?_,fun p hp => ?_⟩
    · obtain ⟨g1,g2,g3⟩ := hLn p hp
      rcases g3 with g3 | g3
      · obtain ⟨k1,k2,k3⟩ := fx.lies p g3
        exact ⟨g1,fun h => k2 (hof _ h),k3⟩
      · exact ⟨g1,fun h => by have := (r.owned_lt (hof _ h)).2.1; omega,fun h => by have := r.msub _ h; omega⟩
    · obtain ⟨r0,hr0⟩ := fx.rd l' hl'
      exact ⟨r0,hsub _ hr0⟩
    · rcases ho with h | rfl
      · exact (r.owned_lt (hof b h)).1 hb
      · exact hMl hb
    · obtain ⟨g1,g2,g3⟩ := hLn p hp
      refine ⟨(Array.getElem?_eq_some_iff.1 g1).1,fun h => ?_⟩
      rcases g3 with g3 | g3
      · exact (fx.lies p g3).2.2 h
      · have := r.msub _ h; omega
  have hlt : ∀ p ∈ L,p.1 < w.heap.size := fun p hp => (Array.getElem?_eq_some_iff.1 (fx.lies p hp).1).1
  cases hrd : cx.rd with
  | none =>
    refine ⟨_,_,_,w.heap.size,(w.heap.size,.deferred (some []))::L,w.heap.size::ds,run_enterLoop_outer fn a.tmps ps y z,(Grows.alloc w _).trans (Grows.alloc _ _) (fun _ _ h => h),?_⟩
    refine fin _ _ _ _ _ _ ((Grows.alloc w _).trans (Grows.alloc _ _) (fun _ _ h => h)) (by omega) ?_ (fun p hp => ?_) (fun p hp => List.mem_cons_of_mem _ hp) (by rw [fx.marks]; rfl) ?_ fun D hD => ?_
    · have := World.alloc_heap_new (w.alloc (.deferred (some []))) (.loop { state := .ready,pending := none,fn,tmps := a.tmps,params := ps,assign := y,body := z,defers := w.heap.size })
      rwa [World.size_alloc] at this
    · rcases List.mem_cons.1 hp with rfl | hp
      · exact ⟨(Below.heap_alloc _ _ _ (by simp)).trans (World.alloc_heap_new w _),by simp,.inr (Nat.le_refl _)⟩
      · have := hlt p hp
        refine ⟨?_,by omega,.inl hp⟩
        rw [Below.heap_alloc _ _ _ (by simp; omega),Below.heap_alloc _ _ _ this]
        exact (fx.lies p hp).1
    · refine List.nodup_cons.2 ⟨fun h => ?_,fx.nodup⟩
      have := hlt _ (fx.mark _ h).1
      exact absurd this (Nat.lt_irrefl _)
    · rcases List.mem_cons.1 hD with rfl | hD
      · exact ⟨by simp,by omega⟩
      · exact ⟨List.mem_cons_of_mem _ (fx.mark D hD).1,(fx.mark D hD).2⟩
  | some l0 =>
    obtain ⟨r0,hr0⟩ := fx.rd l0 hrd
    refine ⟨_,_,_,r0.defers,L,ds,run_enterLoop_inner (fx.lies _ hr0).1 fn a.tmps ps y z,Grows.alloc w _,?_⟩
    refine fin _ _ _ _ _ _ (Grows.alloc w _) (Nat.le_refl _) (World.alloc_heap_new w _) (fun p hp => ?_) (fun p hp => hp) (by rw [fx.marks]; rfl) fx.nodup fx.mark
    have := hlt p hp
    exact ⟨(Below.heap_alloc _ _ _ this).trans (fx.lies p hp).1,by omega,.inl hp⟩
def Ex.code : Ex → Code
  | .normal => .skip
  | .exit id => .exit id
  | .ret => .ret
theorem sim_range (ok : TabOk P T) {gl : Option (List (Nat × Obj))} (hS : SeqOk P T gl C) {x0 : α} {f : Operand} {ps : Array Tmp} {y z : Code}
    (hy : SimC T C F n false P 0 (fun _ : Ex → St → Option α => True) (fun i : CxN gl => i.1.rd) (fun i => OpFit i.1) (fun i x st a w => x = x0 ∧ Inv i.1 st a w) y)
    (hz : SimC T C F n false P 0 (fun _ : Ex → St → Option α => True) (fun i : CxN gl => i.1.rd) (fun i => OpFit i.1) (fun i x st a w => x = x0 ∧ Inv i.1 st a w) z) :
    SimC T C F n false P 0 (fun _ : Ex → St → Option α => True) (fun i : CxN gl => i.1.rd) (fun i => OpFit i.1) (fun i x st a w => x = x0 ∧ Inv i.1 st a w) (.rangeFunc f ps y z) := by
  intro ⟨cx,hnl,hgl⟩ st a w k x Q _ h hd _ hw hi hQ
  simp only at hw hi hQ ⊢
  obtain ⟨g,caps,fi,res,hv,hf,hpy,hpb,hcall,h⟩ := runCode_range h
  simp only [drawsOk,Bool.and_eq_true] at hd
  obtain ⟨hfun,hit⟩ := hS g fi caps res hf hpb hcall
  obtain ⟨hx0,M,β,L,ds,r,i1,i2,i3,fx⟩ := hi
  subst hx0
  have hev := r.evalO f
  rw [hv] at hev
  obtain ⟨lb,hlb,hlbn,hlbv⟩ : ∃ lb : Array Value,a.eval f = .func (.func g) #[] lb ∧ lb.size = caps.length ∧ ∀ i c,caps[i]? = some c → VR w M c (lb.getD i undef) := by
    generalize a.eval f = c at hev
    cases hev with
    | p _ _ hvr => cases hvr with | fn _ _ vs hn hc => exact ⟨vs,rfl,hn,hc⟩
  have hbody : ∃ c,fi.fn.body = some c := by
    unfold bodyPlain at hpb
    cases hb : fi.fn.body with
    | none => rw [hb] at hpb; cases hpb
    | some c => exact ⟨c,rfl⟩
  refine wpIn_rangeFunc fun fn _ => ?_
  obtain ⟨l,mark,W1,dB,Ln,dsn,hrun,hg,hfin⟩ := enter_loop (P := P) r i1 i2 i3 fx hnl fn ps y z
  obtain ⟨O0,hI0,hMO,hLnM⟩ := hfin F.cfg (.seq y z)
  refine ⟨l,mark,W1,{ target := .fn (.func g) lb,args := #[.func (.yield l) #[] #[]] },W1,g,#[.func (.yield l) #[] #[]] ++ lb,W1,hrun,?_,fun _ _ => trivial,?_,FW_depth cx.rd,?_⟩
  · simp only [resolve,hlb]
    simp [go_sem]
  · simp only [invoke]
    exact enter_run ok hf hbody _
  refine callsIn_fw _ ?_
  generalize hrec : ({ state := .ready,pending := none,fn,tmps := a.tmps,params := ps,assign := y,body := z,defers := dB } : Loop) = rec at hI0
  generalize ha' : ({ a with defers := mark ++ a.defers } : Act) = a' at hI0
  have hat : a'.tmps = a.tmps := by rw [← ha']
  let J : List PV → (Nat → Prop) → World → Prop := fun r O W => ∃ st,rangeL (forgetAt F.cfg (.seq y z)) fi.cfg.yk ps.toList (rngWs ps y z) (roundC T C F n y z) r st k = some x ∧ InvL cx a' Ln dsn l W1 st O W rec
  let Jx : World → Prop := fun W => ∃ (ex : Ex) (st : St) (O : Nat → Prop),k ex st = some x ∧ (ex = .ret ∨ ∃ id,ex = .exit id) ∧ InvL cx a' Ln dsn l W1 st O W { rec with state := .done,pending := some ex.code }
  have hW1 : cx.w0.n0 ≤ W1.heap.size := by have := hg.size; have := r.size; have := cx.w0.le'; omega
  refine Calls.mono (hit W1 M l lb J Jx O0 (fun p hp => by rw [← hgl] at hp; exact ⟨(r.glob p hp).1,(hg.keep _ (r.msub _ (r.glob p hp).1) fun h => h).trans (r.glob p hp).2⟩) hlbn (fun i c hc => (hlbv i c hc).mono fun b hb => ⟨hb,hg.keep b (r.msub b hb) fun h => h⟩) (fun b hb => ⟨Nat.lt_of_lt_of_le (r.msub b hb) hg.size,hMO b hb⟩)
    (fun r O W W' ⟨st,h1,h2⟩ g => ⟨st,h1,h2.grows (hgl ▸ g)⟩) (fun W W' ⟨ex,st,O,h1,h2,h3⟩ g => ⟨ex,st,O,h1,h2,h3.grows (hgl ▸ g)⟩) (fun r O W ⟨st,h1,h2⟩ => h2.lt) ?_ ⟨_,h,hI0⟩) ?_
  · -- one round
    rintro vs xs O W Mi cargs ⟨st,h1,h2⟩ hWsz hMi hcn hcv
    clear h hI0 hlbv i1 i2 i3 fx hv
    simp only [rangeL] at h1
    split at h1
    · cases h1
    rename_i env henv
    rw [forceSt_eq] at h1
    obtain ⟨M',β',r',e1,e2,e3,f',⟨k1,k2,k3,k4,k5,k6⟩,hO⟩ := h2
    have hl : l < W.heap.size := (Array.getElem?_eq_some_iff.1 k1).1
    have hrs' := r'.size
    have hOlt : ∀ b,O b → b < W.heap.size := fun b hb => by
      rcases (hO b).1 hb with h | rfl
      · exact (r'.owned_lt h).2.1
      · exact hl
    let M1 : Nat → Prop := fun b => M' b ∨ Mi b
    have hM1O : ∀ b,M1 b → ¬ O b := fun b hb ho => by
      rcases hb with hb | hb
      · rcases (hO b).1 ho with h | rfl
        · exact (r'.owned_lt h).1 hb
        · exact k2 hb
      · exact (hMi b hb).2.1 ho
    have hle : cx.w0.n0 ≤ W.heap.size := by have := cx.w0.le'; omega
    have r1 : Rel ⟨W,cx.w0.n0,hle,cx.w0.gl⟩ O M1 M1 β' st a' W := by
      refine r'.to rfl (fun b hb => ⟨.inl hb,rfl⟩) (fun s b o hs hb => ?_) (fun b hb => ?_) (fun b hb => .inl hb) (fun b hb => hb) (fun _ _ _ => rfl) (fun _ _ _ _ h => h) (Nat.le_refl _) rfl rfl rfl
      · obtain ⟨g1,g2,g3,g4⟩ := r'.own s b o hs hb
        have ho : O b := (hO b).2 (.inl ⟨s,o,hs,hb⟩)
        exact ⟨rfl,fun hm => hM1O b hm ho,g2,.inr ho,g4⟩
      · rcases hb with hb | hb
        · exact r'.msub b hb
        · exact (hMi b hb).1
    obtain ⟨p1,p2,p3,p4,p5⟩ := setPs_ok (w := W) (M := M1) (β := β') (h := look st.heap) (cs := cargs.toList) (tmps := a'.tmps) henv (by simp [hcn]) (Nat.zero_le _) (fun j c hc => by
      have := hcv j c (by simpa using hc)
      have e : cargs.toList.getD j undef = cargs.getD j undef := by simp [List.getD_eq_getElem?_getD,Array.getD_eq_getD_getElem?]
      rw [e]; exact this.mono fun b hb => ⟨.inr hb,rfl⟩) r1.tsize r1.env
    have hyl := run_yield (P := P) (args := cargs) k1 (by rw [← hrec]; simpa using p1)
    rw [← zip_foldl] at p3 p4 p5
    have etm : rec.tmps = a'.tmps := by rw [← hrec,hat]
    have eps : rec.params = ps := by rw [← hrec]
    rw [eps,etm] at hyl
    generalize htm : (ps.zip cargs).foldl (fun tmps (t,a) => tmps.setIfInBounds t a) a'.tmps = tmps at p3 p4 p5 hyl
    have eas : rec.assign = y := by rw [← hrec]
    have ebo : rec.body = z := by rw [← hrec]
    have est : rec.state = .ready := by rw [← hrec]
    have epe : rec.pending = none := by rw [← hrec]
    rw [eas,ebo] at hyl
    refine ⟨rec.fn,tmps,y,z,hyl,roundIn_of_wpIn trivial ?_⟩
    let cA : Cx := cx1 cx hle O M1 (rngWs ps y z) tmps l ((l,.loop rec)::Ln)
    have hIA : Inv cA { st with env := env } { tmps := tmps,defers := [] } W := by
      refine ⟨M1,β',(l,.loop rec)::Ln,[],r1.slots (a' := { tmps := tmps,defers := [] }) (by rw [p2]; show st.env.length ≤ tmps.size; rw [p3]; exact r1.tsize) p4,e1,e2,.refl _ _,⟨fun p hp => ?_,fun p hp => hp,rfl,List.nodup_nil,fun D hD => by simp at hD,fun l' hl' => ?_,rfl,fun _ _ => rfl,fun _ => rfl,fun _ h => h.elim⟩⟩
      · rcases List.mem_cons.1 hp with rfl | hp
        · exact ⟨k1,k3,fun hm => hM1O l hm ((hO l).2 (.inr rfl))⟩
        · obtain ⟨g1,g2,g3⟩ := f'.lies p hp
          exact ⟨g1,g2,fun hm => by
            rcases hm with hm | hm
            · exact g3 hm
            · -- what the giver holds is not what lies here
              rcases (hMi _ hm).2.2 with h | h
              · exact (hLnM p hp).2 h
              · have := (hLnM p hp).1; omega⟩
      · cases hl'
        exact ⟨rec,by simp⟩
    have hdst : (∀ o ∈ opsOf y,OpFit cA o) ∧ ∀ o ∈ opsOf z,∀ d,o.dst = some d → d ∈ rngWs ps y z := ⟨fun o ho => ⟨fun d hd => by have := opsOf_dst ho hd; show d ∈ rngWs ps y z; simp [rngWs,this],fun _ _ h => h.elim⟩,fun o ho d hd => by have := opsOf_dst ho hd; simp [rngWs,this]⟩
    let kr : Ex → St → Option α := rnext (forgetAt F.cfg (.seq y z)) (rngWs ps y z) (fun st => rangeL (forgetAt F.cfg (.seq y z)) fi.cfg.yk ps.toList (rngWs ps y z) (roundC T C F n y z) xs st k) k
    let kn : Ex → St → Option α := fun ex st' => match ex with
        | .normal => seqK T C F n z kr .normal st'
        | _ => none
    have h1' : runCode T C F n y { st with env := env } kn = some _ := (plain_k y hpy _ kn (seqK T C F n z kr) rfl).trans h1
    clear h1
    refine hy ⟨cA,hnl,hgl⟩ _ _ W _ _ _ trivial h1' hd.1 (fun h => by cases h) hdst.1 ⟨rfl,hIA⟩ ?_
    intro ex x' st' a1 w1 hk1 ⟨hx1,hI1⟩
    subst hx1
    cases ex with
    | exit id => cases hk1
    | ret => cases hk1
    | normal =>
    have hk1 : runCode T C F n z (Skm.forgetAt F.cfg z st') kr = some x' := hk1
    have hI1' := hI1.forgetAt F.cfg z
    obtain ⟨q1,cB,hIB,n0B,gB,wB,tB,prB,mB,roomB,moB,b0B,hpB,wrB,t0B,rdB,lB,LnB,ysB⟩ := Inv.busy (Ln := Ln) hI1' (l := l) (lo := .loop rec) (by simp [cA,cx1]) (by simp) rfl { rec with state := .busy } (fun p hp => ⟨List.mem_cons_of_mem _ hp,k4 p hp⟩) (rngWs ps y z) rfl ((hO l).2 (.inr rfl)) hl
    refine ⟨_,run_beginRound q1 est,?_⟩
    have hO' : ∀ b,O b → cx.w0.heap.size ≤ b ∨ cx.Pr b := fun b h => by
      rcases (hO b).1 h with h | rfl
      · exact (r'.owned_lt h).2.2
      · exact .inl k5
    have sb : SubCx cx cB M' a' Ln (rngWs ps y z) l W O := by
      refine ⟨n0B,gB,tB,fun b hb => (prB b hb).symm,fun b hb => ?_,fun b j hb ho hr => roomB b j hb ho (fun e => ?_) hr,fun b hb => moB b (.inl hb),b0B,hpB,wrB,by rw [t0B]; exact p3,fun t ht => by rw [t0B]; exact p5 t fun h => ht (by simp only [rngWs,List.mem_append]; exact .inl h),LnB⟩
      · rcases mB b hb with (h | h) | ⟨h,h'⟩
        · exact r'.mnew b h
        · rcases (hMi b h).2.2 with h | h
          · exact r.mnew b h
          · have := hg.size; have := r.size; have := cx.w0.le'
            exact .inr ⟨by omega,.inl (by omega)⟩
        · refine .inr ⟨h,?_⟩
          rcases h' with h' | h'
          · have h' : W.heap.size ≤ b := h'
            left; omega
          · exact hO' b h'
      · obtain ⟨Cs,e',fr,hc,_⟩ := hr
        rw [e,k1] at hc; cases hc
    have hzz := hz ⟨cB,by rw [hpB]; exact hnl,gB.trans hgl⟩ _ a1 _ _ _ (roundPost P l fun e W' => Turns gl O W W' ∧ ((e = .returned (.bool true) ∧ ∃ O',J xs O' W' ∧ ∀ b,O' b → O b ∨ W.heap.size ≤ b) ∨ (e = .returned (.bool false) ∧ Jx W'))) trivial hk1 hd.2 (fun h => by cases h) (fun o ho => ⟨fun d hd => by show cB.Wr d; rw [wrB]; exact hdst.2 o ho d hd,fun t _ h => by rw [ysB] at h; exact h.elim⟩) ⟨rfl,hIB⟩ ?_
    · simp only [rdB] at hzz
      exact hzz
    intro ex2 x2 st3 a3 W3 hk2 ⟨hx2,hI3⟩
    subst hx2
    have key := fun lp' => InvL.round (W1 := W1) r' f' e3 k4 k5 k6 hO sb lB hI3 lp'
    cases ex2 with
    | normal =>
      obtain ⟨q3,O',hI',hOs,ht⟩ := key rec
      obtain ⟨O'',hI'',hsub⟩ := hI'.forgetAt F.cfg (.seq y z)
      have he := run_endRound (P := P) none q3
      have erec : ({ { rec with state := .busy } with state := if (none : Option Code).isNone then .ready else .done,pending := none } : Loop) = rec := by
        cases rec; simp at est epe; subst est epe; rfl
      simp only [kr,rnext,forceSt_eq] at hk2
      refine ⟨_,_,he,?_⟩
      rw [erec]
      exact ⟨hgl ▸ ht,.inl ⟨rfl,O'',⟨_,hk2,hI''⟩,fun b hb => hOs b (hsub b hb)⟩⟩
    | exit id =>
      obtain ⟨q3,O',hI',hOs,ht⟩ := key { rec with state := .done,pending := some (.exit id) }
      simp only [kr,rnext,forceSt_eq] at hk2
      exact ⟨_,_,run_endRound (P := P) (some (.exit id)) q3,hgl ▸ ht,.inr ⟨rfl,.exit id,_,O',hk2,.inr ⟨id,rfl⟩,hI'⟩⟩
    | ret =>
      obtain ⟨q3,O',hI',hOs,ht⟩ := key { rec with state := .done,pending := some .ret }
      simp only [kr,rnext,forceSt_eq] at hk2
      exact ⟨_,_,run_endRound (P := P) (some .ret) q3,hgl ▸ ht,.inr ⟨rfl,.ret,_,O',hk2,.inl rfl,hI'⟩⟩
  · -- behind the sequence
    rintro e W2 ⟨⟨v,rfl⟩,(⟨O,st,h1,h2⟩ | ⟨ex,st,O,h1,h2,h3⟩)⟩
    · simp only [rangeL] at h1
      have hl : W2.heap[l]? = some (.loop rec) := by obtain ⟨_,_,_,_,_,_,_,⟨h,_⟩,_⟩ := h2; exact h
      have hend := run_endLoop (P := P) hl (by rw [← hrec]; simp)
      rw [show rec.pending = none by rw [← hrec]] at hend
      refine ⟨none,_,hend,?_⟩
      exact hQ .normal _ st a' _ h1 ⟨rfl,h2.close _⟩
    · have hl : W2.heap[l]? = some (.loop { rec with state := .done,pending := some ex.code }) := by obtain ⟨_,_,_,_,_,_,_,⟨h,_⟩,_⟩ := h3; exact h
      refine ⟨some ex.code,_,run_endLoop (P := P) hl (by simp),?_⟩
      rcases h2 with rfl | ⟨id,rfl⟩
      · exact wpIn_ret (hQ .ret _ st a' _ h1 ⟨rfl,h3.close _⟩)
      · exact wpIn_exit (hQ (.exit id) _ st a' _ h1 ⟨rfl,h3.close _⟩)
end
end Go.Skm
namespace Go.Skm
section
variable {P : Program} {T : Tab} {w0 : Base} {Pr M0 M : Nat → Prop} {β β0 : Nat → Option (Nat × Nat)} {hp0 : Heap} {st st' : St} {a : Act} {w : World}
def resultOf (tmps : Array Value) : ResultVar → Sem Value
  | .tmp t => pure (tmps.getD t undef)
  | .cell a t => do loadVar t (← asAddr (tmps.getD a undef))
theorem resOf_ok (ok : TabOk P T) (r : Rel w0 Pr M0 M β st a w) {x : ResultVar} {v : AV} (h : resOf T st.env (look st.heap) x = some v) : ∃ c,(resultOf a.tmps x).run P w = .ok c w ∧ AR w M β (look st.heap) v c := by
  cases x with
  | tmp t =>
    simp only [resOf,Option.some.injEq] at h
    subst h
    exact ⟨_,by simp [resultOf],r.slot t⟩
  | cell t ty =>
    simp only [resOf] at h
    split at h
    · rename_i s n hs hn
      split at h
      · rename_i cs hl
        have hx := r.slot t
        rw [hs] at hx
        have hst : (stepLoad T (look st.heap) ty (.ptr s 0 0)).run some = some { val := v } := by
          simp only [stepLoad,hn,hl,h]; rfl
        obtain ⟨v',c,h1,h2,h3⟩ := (sim_load ok (h' := look st.heap) (fun _ _ h => h) r.heap hx).sim Eff some _ hst
        cases h1
        refine ⟨c,?_,h2⟩
        generalize hc : a.tmps.getD t undef = p at hx h3
        cases hx with
        | ptrB _ _ cs' b o p1 p2 =>
          simp only [Instr.loadAt,Instr.sureAddr] at h3
          simp only [resultOf,hc,asAddr]
          simpa using h3
        | ptrA _ _ _ sa ks xs b o p1 p2 p3 => rw [hl] at p1; cases p1
        | ptrT _ _ _ _ _ b p1 p2 => rw [hl] at p1; cases p1
      · cases h
    · cases h
theorem resAll_ok (ok : TabOk P T) (r : Rel w0 Pr M0 M β st a w) : ∀ {l : List ResultVar} {vs : List AV},resAll T st.env (look st.heap) l = some vs → ∃ cs,(l.mapM (resultOf a.tmps)).run P w = .ok cs w ∧ ListR w M β (look st.heap) vs cs
  | [],vs,h => by
    simp [resAll] at h; subst h
    exact ⟨[],by simp,rfl,fun i x c h => by simp at h⟩
  | x::l,vs,h => by
    simp only [resAll] at h
    split at h
    · rename_i v vs' h1 h2
      cases h
      obtain ⟨c,g1,g2⟩ := resOf_ok ok r h1
      obtain ⟨cs,g3,g4⟩ := resAll_ok ok r h2
      refine ⟨c::cs,by simp [g1,g3],by simp [g4.1],fun i y d hy hd => ?_⟩
      cases i with
      | zero => simp at hy hd; subst hy hd; exact g2
      | succ i => simp at hy hd; exact g4.2 i y d hy hd
    · cases h
theorem run_results {fn : Func} {tmps : Array Value} {cs : List Value} (h : (fn.results.toList.mapM (resultOf tmps)).run P w = .ok cs w) : (results fn tmps).run P w = .ok (wrapV cs) w := by
  have e : results fn tmps = (do let vs ← fn.results.mapM (resultOf tmps); pure (if h : vs.size = 1 then vs[0] else .tuple vs)) := rfl
  rw [e,Array.mapM_eq_mapM_toList]
  simp only [map_eq_pure_bind,bind_assoc,pure_bind,Sem.run_bind,h,Result.andThen_ok,Sem.run_pure]
  congr 1
  match cs with
  | [] => rfl
  | [c] => rfl
  | _::_::_ => rfl
theorem dropAll_sub {ss : List Nat} {hp : Heap} {s : Nat} {b : Blk} (h : look (dropAll hp ss) s = some b) : look hp s = some b ∧ s ∉ ss := by
  rw [look_dropAll] at h
  by_cases hm : s ∈ ss
  · rw [if_pos hm] at h; cases h
  · rw [if_neg hm] at h; exact ⟨h,hm⟩
theorem deep1_sites {h : Nat → Option Blk} {v : AV} {x : PV} {ss : List Nat} (hd : deep1 h v = some (x,ss)) : ∀ s ∈ ss,(h s).isSome = true := by
  unfold deep1 at hd
  split at hd
  · cases hd; simp
  · split at hd
    · rename_i hs; cases hd; simp [hs]
    · cases hd
  · split at hd
    · rename_i hs
      split at hd
      · cases hd; simp [hs]
      · cases hd
    · cases hd
  · split at hd
    · rename_i hs; cases hd; simp [hs]
    · cases hd
  · cases hd
theorem deeps1_sites {h : Nat → Option Blk} : ∀ {vs : List AV} {xs : List PV} {ss : List Nat},deeps1 h vs = some (xs,ss) → ∀ s ∈ ss,(h s).isSome = true
  | [],xs,ss,hd => by simp [deeps1] at hd; obtain ⟨_,rfl⟩ := hd; simp
  | v::r,xs,ss,hd => by
    simp only [deeps1] at hd
    split at hd
    · rename_i h1 h2
      cases hd
      intro s hs
      rcases List.mem_append.1 hs with hs | hs
      · exact deep1_sites h1 s hs
      · exact deeps1_sites h2 s hs
    · cases hd
theorem deepC_sites {h : Nat → Option Blk} {v : AV} {x : PV} {ss : List Nat} (hd : deepC h v = some (x,ss)) : ∀ s ∈ ss,(h s).isSome = true := by
  unfold deepC at hd
  split at hd
  · split at hd
    · rename_i hs
      split at hd
      · rename_i h1
        cases hd
        intro s hs'
        rcases List.mem_cons.1 hs' with rfl | hs'
        · rw [hs]; rfl
        · exact deeps1_sites h1 s hs'
      · cases hd
    · cases hd
  · exact deep1_sites hd
theorem deepCs_sites {h : Nat → Option Blk} : ∀ {vs : List AV} {xs : List PV} {ss : List Nat},deepCs h vs = some (xs,ss) → ∀ s ∈ ss,(h s).isSome = true
  | [],xs,ss,hd => by simp [deepCs] at hd; obtain ⟨_,rfl⟩ := hd; simp
  | v::r,xs,ss,hd => by
    simp only [deepCs] at hd
    split at hd
    · rename_i h1 h2
      cases hd
      intro s hs
      rcases List.mem_append.1 hs with hs | hs
      · exact deepC_sites h1 s hs
      · exact deepCs_sites h2 s hs
    · cases hd
theorem deep_sites {h : Nat → Option Blk} {v : AV} {x : PV} {ss : List Nat} (hd : deep h v = some (x,ss)) : ∀ s ∈ ss,(h s).isSome = true := by
  unfold deep at hd
  split at hd
  · split at hd
    · rename_i h1; cases hd; exact deeps1_sites h1
    · cases hd
  · split at hd
    · rename_i h1; cases hd; exact deepCs_sites h1
    · cases hd
  · exact deepC_sites hd
mutual
theorem AR.flat {w : World} {M M' : Nat → Prop} {β : Nat → Option (Nat × Nat)} {h : Nat → Option Blk} : ∀ {v : AV} {c : Value},flatL v = true → AR w M β h v c → AR w M' β h v c
  | .p v,c,hf,hv => by
    cases hv with
    | p _ _ hv => cases v <;> simp [flatL] at hf <;> (cases hv; exact .p _ _ (by constructor))
  | .undef,c,_,hv => .undef c
  | .slice s z o l,c,_,hv => by
    cases hv with
    | slice _ _ _ a ks xs b o cap h1 hl hb hcap hr => exact .slice _ _ _ a ks xs b o cap h1 hl hb hcap hr
    | sliceE _ _ a ks xs base h1 hl => exact .sliceE _ _ a ks xs base h1 hl
  | .bslice s o l,c,_,hv => by
    cases hv with
    | bslice _ _ _ cs b o cap h1 hl hb hcap => exact .bslice _ _ _ cs b o cap h1 hl hb hcap
    | bsliceE _ _ cs base h1 hl => exact .bsliceE _ _ cs base h1 hl
  | .ptr s i o,c,_,hv => by
    cases hv with
    | ptrB _ _ cs b o h1 hb => exact .ptrB _ _ cs b o h1 hb
    | ptrA _ _ _ a ks xs b o h1 hi hb => exact .ptrA _ _ _ a ks xs b o h1 hi hb
    | ptrT _ _ t c0 c1 b h1 hb => exact .ptrT _ _ t c0 c1 b h1 hb
  | .fn f cs,c,hf,hv => by
    cases hv with
    | fn _ _ vs hn hc => exact .fn f cs vs hn fun i c hi => AR.flats (by simpa [flatL] using hf) i c hi (hc i c hi)
  | .agg cs,c,hf,hv => by
    cases hv with
    | agg _ vs hn hl hc => exact .agg cs vs hn hl fun i c hi => AR.flats (by simpa [flatL] using hf) i c hi (hc i c hi)
  | .tup cs,c,hf,hv => by
    cases hv with
    | tup _ vs hn hc => exact .tup cs vs hn fun i c hi => AR.flats (by simpa [flatL] using hf) i c hi (hc i c hi)
  | .lptr ..,_,hf,_ => by simp [flatL] at hf
  | .fresh ..,_,hf,_ => by simp [flatL] at hf
  | .yld,_,hf,_ => by simp [flatL] at hf
  | .mref _,_,hf,_ => by simp [flatL] at hf
theorem AR.flats {w : World} {M M' : Nat → Prop} {β : Nat → Option (Nat × Nat)} {h : Nat → Option Blk} : ∀ {vs : List AV},flatLs vs = true → ∀ (i : Nat) (v : AV) {c : Value},vs[i]? = some v → AR w M β h v c → AR w M' β h v c
  | [],_,i,v,c,hi,_ => by simp at hi
  | x::r,hf,0,v,c,hi,hv => by
    simp only [flatLs,Bool.and_eq_true] at hf
    simp at hi; subst hi
    exact AR.flat hf.1 hv
  | x::r,hf,i + 1,v,c,hi,hv => by
    simp only [flatLs,Bool.and_eq_true] at hf
    exact AR.flats hf.2 i v (by simpa using hi) hv
end
theorem flatH_sub {h : Nat → Option Blk} {s : Nat} {b : Blk} (hb : flatH h s = some b) : h s = some b := by
  unfold flatH at hb
  split at hb
  · rename_i a ks xs hs
    cases hc : ks.all Kd.flat with
    | false => rw [hc] at hb; cases hb
    | true => rw [hc] at hb; cases hb; exact hs
  · rename_i cs hs
    cases hc : flatLs cs with
    | false => rw [hc] at hb; cases hb
    | true => rw [hc] at hb; cases hb; exact hs
  · cases hb
theorem flatH_live {hp : Heap} {s : Nat} (h : (flatH (look hp) s).isSome = true) : (look hp s).isSome = true := by
  obtain ⟨b,hb⟩ := Option.isSome_iff_exists.1 h
  rw [flatH_sub hb]; rfl
theorem BR.flatM {w : World} {M M' : Nat → Prop} {β : Nat → Option (Nat × Nat)} {h h' : Nat → Option Blk} {s : Nat} {b : Blk} (hb : flatH h' s = some b) (hr : BR w M β h s b) : BR w M' β h s b := by
  unfold flatH at hb
  split at hb
  · rename_i a ks xs _
    cases hc : ks.all Kd.flat with
    | false => rw [hc] at hb; cases hb
    | true =>
      rw [hc] at hb; cases hb
      cases hr with
      | arrE => exact .arrE _ _
      | arr _ _ _ b o C e' fr g1 g2 g3 g4 g5 g6 =>
        refine .arr _ _ _ b o C e' fr g1 g2 g3 g4 g5 fun i x j y hx hy => ?_
        have hk := kindsOk_get (shapeOk_cells (g5 x (List.mem_of_getElem? hx)))
        have hj : j < ks.length := by
          have := (List.getElem?_eq_some_iff.1 hy).1
          have := hk.1
          omega
        exact (g6 i x j y hx hy).flat1 (List.all_eq_true.1 hc ks[j] (by simp)) (hk.2 j ks[j] y (by simp) hy)
  · rename_i cs _
    cases hc : flatLs cs with
    | false => rw [hc] at hb; cases hb
    | true =>
      rw [hc] at hb; cases hb
      cases hr with
      | box _ b o C e fr g1 g2 g3 g4 g5 g6 => exact .box cs b o C e fr g1 g2 g3 g4 g5 fun j c hj => AR.flats hc j c hj (g6 j c hj)
  · cases hb
theorem deep_flat {w : World} {M : Nat → Prop} {β : Nat → Option (Nat × Nat)} {hp hp' : Heap} (hh : ∀ s b,look hp s = some b → BR w M β (look hp) s b) (hsub : ∀ s b,look hp' s = some b → look hp s = some b) {v : AV} {x : PV} {ss : List Nat} {c : Value}
    (hf : flatL v = true) (hd : deep (flatH (look hp')) v = some (x,ss)) (hv : AR w M β (look hp) v c) : VR w (Mplus (fun _ => False) β ss) x c :=
  (deep_ok (M := fun _ => False) (h' := flatH (look hp')) (fun s b h => (hh s b (hsub s b (flatH_sub h))).flatM h) (fun s b h => hsub s b (flatH_sub h)) hd (hv.flat hf)).1
theorem unsnoc_eq {β : Type} : ∀ {l : List β} {r : List β} {x : β},unsnoc l = some (r,x) → l = r ++ [x]
  | [],r,x,h => by cases h
  | [y],r,x,h => by simp [unsnoc] at h; obtain ⟨rfl,rfl⟩ := h; rfl
  | y::z::l,r,x,h => by
    simp only [unsnoc] at h
    split at h
    · rename_i r' x' e
      simp only [Option.some.injEq,Prod.mk.injEq] at h
      obtain ⟨rfl,rfl⟩ := h
      rw [unsnoc_eq e]; rfl
    · cases h
theorem aggCells_ok {w : World} {M : Nat → Prop} {β : Nat → Option (Nat × Nat)} {h : Nat → Option Blk} {v : AV} {c : Value} {cs : List AV} (hv : AR w M β h v c) (hc : v.aggCells = some cs) : ∃ vs,c = .agg vs ∧ vs.size = cs.length ∧ ∀ (i : Nat) (x : AV),cs[i]? = some x → AR w M β h x (vs.getD i undef) := by
  unfold AV.aggCells at hc
  split at hc
  · rename_i ps
    cases hc
    cases hv
    rename_i hv
    cases hv with
    | agg _ vs hn _ hh =>
      refine ⟨vs,rfl,by simp [hn],fun i x hx => ?_⟩
      rw [List.getElem?_map] at hx
      cases hp : ps[i]? with
      | none => rw [hp] at hx; cases hx
      | some y =>
        rw [hp] at hx
        simp only [Option.map_some,Option.some.injEq] at hx
        subst hx
        exact .p _ _ (hh i y hp)
  · rename_i ps
    cases hc
    cases hv with
    | agg _ vs hn _ hh => exact ⟨vs,rfl,hn,hh⟩
  · cases hc
theorem fresh_ok {w : World} {M M' : Nat → Prop} {β : Nat → Option (Nat × Nat)} {h : Nat → Option Blk} (hM : ∀ b,M b → M' b) {s z off len : Nat} {a : Bool} {ks : List Kd} {ys : List PV} {c : Value} (hs' : h s = some (.arr a ks ys)) (hbr : BR w M β h s (.arr a ks ys)) (hv : AR w M β h (.slice s z off len) c) :
    ∃ p : Option (Nat × Nat),BR w M' (fun _ => p) (fun _ => some (.arr a ks ((ys.drop off).take len))) 0 (.arr a ks ((ys.drop off).take len)) ∧
      AR w M' (fun _ => p) (fun _ => some (.arr a ks ((ys.drop off).take len))) (.slice 0 ks.length 0 ((ys.drop off).take len).length) c ∧ (∀ b o,p = some (b,o) → ∃ o0,β s = some (b,o0)) := by
  cases hv with
  | sliceE _ _ a' ks' xs' base h1 h2 =>
    rw [hs'] at h1; cases h1
    refine ⟨none,?_,?_,fun b o h => by cases h⟩
    · simp only [List.take_zero]; exact .arrE _ _
    · simp only [List.take_zero,List.length_nil]
      exact .sliceE 0 0 _ _ [] base rfl (by simp)
  | slice _ _ _ a' ks' xs' b o cap h1 h2 h3 h4 h5 =>
    rw [hs'] at h1; cases h1
    have hlen : ((ys.drop off).take len).length = len := by simp; omega
    refine ⟨some (b,o + off * ks.length),?_,?_,fun b' o' h => by cases h; exact ⟨o,h3⟩⟩
    · cases hbr with
      | arrE => simp only [List.drop_nil,List.take_nil]; exact .arrE _ _
      | arr _ _ _ b' o' C e' fr g1 g2 g3 g4 g5 g6 =>
        rw [h3] at g1; cases g1
        refine .arr _ _ _ b _ C e' fr rfl g2 ?_ g4 (fun x hx => g5 x (List.mem_of_mem_drop (List.mem_of_mem_take hx))) fun i x j c hx hj => ?_
        · rw [hlen,Nat.add_assoc,← Nat.add_mul]
          exact Nat.le_trans (Nat.add_le_add_left (Nat.mul_le_mul_right _ (by omega)) _) g3
        · have hi : i < len := by
            have := (List.getElem?_eq_some_iff.1 hx).1
            omega
          rw [List.getElem?_take,if_pos hi,List.getElem?_drop] at hx
          have := (g6 (off + i) x j c hx hj).mono (M' := M') fun b hb => ⟨hM b hb,rfl⟩
          rw [Nat.add_mul] at this
          rwa [show o + off * ks.length + i * ks.length = o + (off * ks.length + i * ks.length) from by omega]
    · rw [hlen]
      have := AR.slice (M := M') (β := fun _ => some (b,o + off * ks.length)) (h := fun _ => some (.arr a ks ((ys.drop off).take len))) 0 0 len a ks ((ys.drop off).take len) b (o + off * ks.length) cap rfl (by rw [hlen]; omega) rfl h4 (by
        refine h5.mono ?_
        rw [Nat.zero_add,Nat.add_assoc,← Nat.add_mul]; exact Nat.le_refl _)
      rwa [Nat.zero_mul,Nat.add_zero] at this
theorem retVals_ok (r : Rel w0 Pr M0 M β st a w) {hA : Nat → Option Blk} {βA : Nat → Option (Nat × Nat)} (hend : ∀ j blk,look st.heap (argSite + j) = some blk → hA (argSite + j) = some blk ∧ βA (argSite + j) = β (argSite + j)) :
    ∀ {ts : List TypeId} {ms : List RetMode} {vs : List AV} {cs : List Value} {rs : List AV} {hp : Heap},retVals T hp ms ts vs = some rs → (∀ s b,look hp s = some b → look st.heap s = some b) → ListR w M β (look st.heap) vs cs →
    ∃ (S : List Nat) (ps : List (Option (Nat × Nat))),ResL T w (Mplus M β S) βA hA ms ts rs cs ps ∧ (∀ s ∈ S,(look hp s).isSome = true ∧ s < argSite) ∧
      (∀ b o,some (b,o) ∈ ps → ∃ s o0,(look hp s).isSome = true ∧ s ∉ S ∧ s < argSite ∧ β s = some (b,o0)) ∧ (retsFlat T ms ts = true → ResL T w (Mplus (fun _ => False) β S) βA hA ms ts rs cs ps)
  | [],ms,[],cs,rs,hp,h,_,hl => by
    simp [retVals] at h; subst h
    have : cs = [] := by have := hl.1; simpa using this.symm
    subst this
    exact ⟨[],[],.nil ms,by simp,by simp,fun _ => .nil ms⟩
  | t::ts,ms,v::vs,[],rs,hp,h,_,hl => by have := hl.1; simp at this
  | t::ts,ms,v::vs,c::cs,rs,hp,h,hsub,hl => by
    simp only [retVals] at h
    obtain ⟨hv,hls⟩ := hl.cons
    split at h
    · rename_i x ss hx
      split at h
      · rename_i xs hxs
        cases h
        have hsub' : ∀ s b,look (dropAll hp ss) s = some b → look st.heap s = some b := fun s b h => hsub s b (dropAll_sub h).1
        obtain ⟨S,ps,k1,k2,k3,k4⟩ := retVals_ok r hend hxs hsub' hls
        have upF : ∀ (ss : List Nat) b,Mplus (fun _ => False) β S b → Mplus (fun _ => False) β (ss ++ S) b := fun ss b hb => hb.imp id fun ⟨s,o,h1,h2⟩ => ⟨s,o,by simp [h1],h2⟩
        have live : ∀ s,(look (dropAll hp ss) s).isSome = true → (look hp s).isSome = true ∧ s ∉ ss := fun s h => by
          obtain ⟨b,hb⟩ := Option.isSome_iff_exists.1 h
          obtain ⟨g1,g2⟩ := dropAll_sub hb
          exact ⟨by rw [g1]; rfl,g2⟩
        revert hx
        generalize hm : ms.headD .deep = m
        intro hx
        have plain : ∀ (x' : AV),x = x' → ResR T w (Mplus M β S) βA hA (ms.headD .deep) t x' c none → (retFlat T (ms.headD .deep) t = true → ResR T w (Mplus (fun _ => False) β S) βA hA (ms.headD .deep) t x' c none) → ∃ (S : List Nat) (ps : List (Option (Nat × Nat))),ResL T w (Mplus M β S) βA hA ms (t::ts) (x::xs) (c::cs) ps ∧ (∀ s ∈ S,(look hp s).isSome = true ∧ s < argSite) ∧
            (∀ b o,some (b,o) ∈ ps → ∃ s o0,(look hp s).isSome = true ∧ s ∉ S ∧ s < argSite ∧ β s = some (b,o0)) ∧ (retsFlat T ms (t::ts) = true → ResL T w (Mplus (fun _ => False) β S) βA hA ms (t::ts) (x::xs) (c::cs) ps) := by
          intro x' e hr hrF
          subst e
          refine ⟨S,none::ps,.cons ms t ts x xs c cs none ps hr k1 (fun b o o' h => by cases h),fun s hs => ⟨(live s (k2 s hs).1).1,(k2 s hs).2⟩,fun b o hb => ?_,fun hf => by
            simp only [retsFlat,Bool.and_eq_true] at hf
            exact .cons ms t ts x xs c cs none ps (hrF hf.1) (k4 hf.2) (fun b o o' h => by cases h)⟩
          rcases List.mem_cons.1 hb with hb | hb
          · cases hb
          · obtain ⟨s,o0,q1,q2,q3,q4⟩ := k3 b o hb
            exact ⟨s,o0,(live s q1).1,q2,q3,q4⟩
        cases m with
        | deep =>
          simp only [retVal] at hx
          split at hx
          · rename_i y ss' hd
            cases hc : shapeOk (shapeT T t).1 (shapeT T t).2 y && ss'.all (fun s => Nat.blt s 100000) with
            | false => rw [hc] at hx; cases hx
            | true =>
              rw [hc] at hx
              simp only [cond_true,Option.some.injEq,Prod.mk.injEq] at hx
              obtain ⟨rfl,rfl⟩ := hx
              simp only [Bool.and_eq_true] at hc
              obtain ⟨d1,d2⟩ := deep_ok (M := M) (β := β) (fun s b h => r.heap s b (hsub s b h)) hsub hd hv
              have hlt : ∀ s ∈ ss',s < argSite := fun s hs => Nat.le_of_ble_eq_true (List.all_eq_true.1 hc.2 s hs)
              have hlive : ∀ s ∈ ss',(look hp s).isSome = true := deep_sites hd
              have up : ∀ b,Mplus M β S b → Mplus M β (ss' ++ S) b := fun b hb => hb.imp id fun ⟨s,o,h1,h2⟩ => ⟨s,o,by simp [h1],h2⟩
              have hd1 : ResR T w (Mplus M β (ss' ++ S)) βA hA .deep t (.p y) c none := .deep t y c hc.1 (d1.mono fun b hb => ⟨hb.imp id fun ⟨s,o,h1,h2⟩ => ⟨s,o,by simp [h1],h2⟩,rfl⟩)
              refine ⟨ss' ++ S,none::ps,.cons ms t ts _ xs c cs none ps ?_ (k1.mono up) (fun b o o' h => by cases h),fun s hs => ?_,fun b o hb => ?_,fun hf => ?_⟩
              · rw [hm]
                exact hd1
              · rcases List.mem_append.1 hs with hs | hs
                · exact ⟨hlive s hs,hlt s hs⟩
                · exact ⟨(live s (k2 s hs).1).1,(k2 s hs).2⟩
              · rcases List.mem_cons.1 hb with hb | hb
                · cases hb
                · obtain ⟨s,o0,q1,q2,q3,q4⟩ := k3 b o hb
                  exact ⟨s,o0,(live s q1).1,by simp [(live s q1).2,q2],q3,q4⟩
              · simp only [retsFlat,Bool.and_eq_true] at hf
                refine .cons ms t ts _ xs c cs none ps ?_ ((k4 hf.2).mono (upF _)) (fun b o o' h => by cases h)
                have hf1 := hf.1
                rw [hm] at hf1 ⊢
                exact hd1.flat hf1 (.inl rfl)
          · cases hx
        | fresh =>
          simp only [retVal] at hx
          split at hx
          · rename_i e hu
            split at hx
            · rename_i s z off len
              split at hx
              · rename_i sa ks ys hs
                cases hc : sa == (shapeT T e).1 && Kd.beqs ks (shapeT T e).2 && Nat.blt s 100000 with
                | false => rw [hc] at hx; cases hx
                | true =>
                  rw [hc] at hx
                  simp only [cond_true,Option.some.injEq,Prod.mk.injEq] at hx
                  obtain ⟨rfl,rfl⟩ := hx
                  simp only [Bool.and_eq_true,beq_iff_eq] at hc
                  obtain ⟨⟨rfl,hks⟩,hlt⟩ := hc
                  have hks := Kd.beqs_eq _ _ hks
                  subst hks
                  have hlt : s < argSite := Nat.le_of_ble_eq_true hlt
                  have hs' := hsub _ _ hs
                  have hbr := r.heap s _ hs'
                  obtain ⟨p,hp1,hp2,hp3⟩ : ∃ p : Option (Nat × Nat),BR w (Mplus M β S) (fun _ => p) (fun _ => some (.arr (shapeT T e).1 (shapeT T e).2 ((ys.drop off).take len))) 0 (.arr (shapeT T e).1 (shapeT T e).2 ((ys.drop off).take len)) ∧
                      AR w (Mplus M β S) (fun _ => p) (fun _ => some (.arr (shapeT T e).1 (shapeT T e).2 ((ys.drop off).take len))) (.slice 0 (shapeT T e).2.length 0 ((ys.drop off).take len).length) c ∧ (∀ b o,p = some (b,o) → ∃ o0,β s = some (b,o0)) := by
                    cases hv with
                    | sliceE _ _ a' ks' xs' base h1 h2 =>
                      refine ⟨none,?_,?_,fun b o h => by cases h⟩
                      · simp only [List.take_zero]; exact .arrE _ _
                      · simp only [List.take_zero,List.length_nil]
                        exact .sliceE 0 0 _ _ [] base rfl (by simp)
                    | slice _ _ _ a' ks' xs' b o cap h1 h2 h3 h4 h5 =>
                      rw [hs'] at h1; cases h1
                      have hlen : ((ys.drop off).take len).length = len := by simp; omega
                      refine ⟨some (b,o + off * (shapeT T e).2.length),?_,?_,fun b' o' h => by cases h; exact ⟨o,h3⟩⟩
                      · cases hbr with
                        | arrE => simp only [List.drop_nil,List.take_nil]; exact .arrE _ _
                        | arr _ _ _ b' o' C e' fr g1 g2 g3 g4 g5 g6 =>
                          rw [h3] at g1; cases g1
                          refine .arr _ _ _ b _ C e' fr rfl g2 ?_ g4 (fun x hx => g5 x (List.mem_of_mem_drop (List.mem_of_mem_take hx))) fun i x j c hx hj => ?_
                          · rw [hlen,Nat.add_assoc,← Nat.add_mul]
                            exact Nat.le_trans (Nat.add_le_add_left (Nat.mul_le_mul_right _ (by omega)) _) g3
                          · have hi : i < len := by
                              have := (List.getElem?_eq_some_iff.1 hx).1
                              omega
                            rw [List.getElem?_take,if_pos hi,List.getElem?_drop] at hx
                            have := (g6 (off + i) x j c hx hj).mono (M' := Mplus M β S) fun b hb => ⟨.inl hb,rfl⟩
                            rw [Nat.add_mul] at this
                            rwa [show o + off * (shapeT T e).2.length + i * (shapeT T e).2.length = o + (off * (shapeT T e).2.length + i * (shapeT T e).2.length) from by omega]
                      · rw [hlen]
                        have := AR.slice (M := Mplus M β S) (β := fun _ => some (b,o + off * (shapeT T e).2.length)) (h := fun _ => some (.arr (shapeT T e).1 (shapeT T e).2 ((ys.drop off).take len))) 0 0 len (shapeT T e).1 (shapeT T e).2 ((ys.drop off).take len) b (o + off * (shapeT T e).2.length) cap rfl (by rw [hlen]; omega) rfl h4 (by
                          refine h5.mono ?_
                          rw [Nat.zero_add,Nat.add_assoc,← Nat.add_mul]; exact Nat.le_refl _)
                        rwa [Nat.zero_mul,Nat.add_zero] at this
                  have hsl : (look hp s).isSome = true := by rw [hs]; rfl
                  have hfr : ResR T w (Mplus M β S) βA hA .fresh t (.fresh (shapeT T e).1 (shapeT T e).2 ((ys.drop off).take len)) c p := .fresh t e _ c p hu hp1 hp2
                  have hap : ∀ b o o',p = some (b,o) → some (b,o') ∉ ps := fun b o o' e1 e2 => by
                    obtain ⟨o0,q0⟩ := hp3 b o e1
                    obtain ⟨s',o0',q1,q2,q3,q4⟩ := k3 b o' e2
                    obtain ⟨g1,g2⟩ := live s' q1
                    obtain ⟨blk,hb⟩ := Option.isSome_iff_exists.1 g1
                    have := r.inj s' s b o0' o0 (by rw [hsub _ _ hb]; rfl) (by rw [hs']; rfl) q4 q0
                    exact g2 (by simp [this])
                  refine ⟨S,p::ps,.cons ms t ts _ xs c cs p ps ?_ k1 hap,fun s' hs' => ⟨(live s' (k2 s' hs').1).1,(k2 s' hs').2⟩,fun b o hb => ?_,fun hf => ?_⟩
                  · rw [hm]; exact hfr
                  · rcases List.mem_cons.1 hb with hb | hb
                    · obtain ⟨o0,q0⟩ := hp3 b o hb.symm
                      exact ⟨s,o0,hsl,fun hS => (live s (k2 s hS).1).2 (by simp),hlt,q0⟩
                    · obtain ⟨s',o0,q1,q2,q3,q4⟩ := k3 b o hb
                      exact ⟨s',o0,(live s' q1).1,q2,q3,q4⟩
                  · simp only [retsFlat,Bool.and_eq_true] at hf
                    refine .cons ms t ts _ xs c cs p ps ?_ (k4 hf.2) hap
                    have hf1 := hf.1
                    rw [hm] at hf1 ⊢
                    exact hfr.flat hf1 (.inr (.inl rfl))
              · cases hx
            · simp only [Option.some.injEq,Prod.mk.injEq] at hx
              obtain ⟨rfl,rfl⟩ := hx
              have hc : c = .slice none 0 0 := by cases hv; rename_i hv; cases hv; rfl
              subst hc
              have hne : ∀ M,ResR T w M βA hA (ms.headD .deep) t (.fresh (shapeT T e).1 (shapeT T e).2 []) (.slice none 0 0) none := fun M => by
                rw [hm]; exact .fresh t e [] _ none hu (.arrE _ _) (.sliceE 0 0 _ _ [] none rfl (by simp))
              exact plain _ rfl (hne _) fun _ => hne _
            · cases hx
          · cases hx
        | nilF => simp [retVal] at hx
        | fnAny =>
          simp only [retVal] at hx
          split at hx
          · rename_i f ys ss' hd
            cases hc : ss'.all (fun s => Nat.blt s 100000) with
            | false => rw [hc] at hx; cases hx
            | true =>
              rw [hc] at hx
              simp only [cond_true,Option.some.injEq,Prod.mk.injEq] at hx
              obtain ⟨rfl,rfl⟩ := hx
              obtain ⟨d1,d2⟩ := deep_ok (M := M) (β := β) (fun s b h => r.heap s b (hsub s b h)) hsub hd hv
              have hlt : ∀ s ∈ ss',s < argSite := fun s hs => Nat.le_of_ble_eq_true (List.all_eq_true.1 hc s hs)
              have hlive : ∀ s ∈ ss',(look hp s).isSome = true := deep_sites hd
              have up : ∀ b,Mplus M β S b → Mplus M β (ss' ++ S) b := fun b hb => hb.imp id fun ⟨s,o,h1,h2⟩ => ⟨s,o,by simp [h1],h2⟩
              refine ⟨ss' ++ S,none::ps,.cons ms t ts _ xs c cs none ps ?_ (k1.mono up) (fun b o o' h => by cases h),fun s hs => ?_,fun b o hb => ?_,fun hf => ?_⟩
              · rw [hm]
                exact .fnAny f t ys c (d1.mono fun b hb => ⟨hb.imp id fun ⟨s,o,h1,h2⟩ => ⟨s,o,by simp [h1],h2⟩,rfl⟩)
              · rcases List.mem_append.1 hs with hs | hs
                · exact ⟨hlive s hs,hlt s hs⟩
                · exact ⟨(live s (k2 s hs).1).1,(k2 s hs).2⟩
              · rcases List.mem_cons.1 hb with hb | hb
                · cases hb
                · obtain ⟨s,o0,q1,q2,q3,q4⟩ := k3 b o hb
                  exact ⟨s,o0,(live s q1).1,by simp [(live s q1).2,q2],q3,q4⟩
              · simp only [retsFlat,Bool.and_eq_true,hm,retFlat] at hf
                exact absurd hf.1 (by simp)
          · cases hx
        | func g qs =>
          simp only [retVal] at hx
          split at hx
          · rename_i f ys ss' hd
            cases hc : (f == g && capsOk qs ys) && ss'.all (fun s => Nat.blt s 100000) with
            | false => rw [hc] at hx; cases hx
            | true =>
              rw [hc] at hx
              simp only [cond_true,Option.some.injEq,Prod.mk.injEq] at hx
              obtain ⟨rfl,rfl⟩ := hx
              simp only [Bool.and_eq_true,beq_iff_eq] at hc
              obtain ⟨⟨rfl,hcq⟩,hcs⟩ := hc
              obtain ⟨d1,d2⟩ := deep_ok (M := M) (β := β) (fun s b h => r.heap s b (hsub s b h)) hsub hd hv
              have hlt : ∀ s ∈ ss',s < argSite := fun s hs => Nat.le_of_ble_eq_true (List.all_eq_true.1 hcs s hs)
              have hlive : ∀ s ∈ ss',(look hp s).isSome = true := deep_sites hd
              have up : ∀ b,Mplus M β S b → Mplus M β (ss' ++ S) b := fun b hb => hb.imp id fun ⟨s,o,h1,h2⟩ => ⟨s,o,by simp [h1],h2⟩
              refine ⟨ss' ++ S,none::ps,.cons ms t ts _ xs c cs none ps ?_ (k1.mono up) (fun b o o' h => by cases h),fun s hs => ?_,fun b o hb => ?_,fun hf => ?_⟩
              · rw [hm]
                exact .func f qs t ys c hcq (d1.mono fun b hb => ⟨hb.imp id fun ⟨s,o,h1,h2⟩ => ⟨s,o,by simp [h1],h2⟩,rfl⟩)
              · rcases List.mem_append.1 hs with hs | hs
                · exact ⟨hlive s hs,hlt s hs⟩
                · exact ⟨(live s (k2 s hs).1).1,(k2 s hs).2⟩
              · rcases List.mem_cons.1 hb with hb | hb
                · cases hb
                · obtain ⟨s,o0,q1,q2,q3,q4⟩ := k3 b o hb
                  exact ⟨s,o0,(live s q1).1,by simp [(live s q1).2,q2],q3,q4⟩
              · simp only [retsFlat,Bool.and_eq_true,hm,retFlat] at hf
                exact absurd hf.1 (by simp)
          · cases hx
        | funcN g qs =>
          simp only [retVal] at hx
          split at hx
          · rename_i f ys ss' hfl hd
            cases hc : (f == g && capsOk qs ys) && ss'.all (fun s => Nat.blt s 100000) with
            | false => rw [hc] at hx; cases hx
            | true =>
              rw [hc] at hx
              simp only [cond_true,Option.some.injEq,Prod.mk.injEq] at hx
              obtain ⟨rfl,rfl⟩ := hx
              simp only [Bool.and_eq_true,beq_iff_eq] at hc
              obtain ⟨⟨rfl,hcq⟩,hcs⟩ := hc
              have hd1 : VR w (Mplus (fun _ => False) β ss') (.fn f ys) c := deep_flat r.heap hsub hfl hd hv
              have hlt : ∀ s ∈ ss',s < argSite := fun s hs => Nat.le_of_ble_eq_true (List.all_eq_true.1 hcs s hs)
              have hlive : ∀ s ∈ ss',(look hp s).isSome = true := fun s hs => flatH_live (deep_sites hd s hs)
              have up : ∀ b,Mplus M β S b → Mplus M β (ss' ++ S) b := fun b hb => hb.imp id fun ⟨s,o,h1,h2⟩ => ⟨s,o,by simp [h1],h2⟩
              have hres : ∀ M1 : Nat → Prop,ResR T w (Mplus M1 β (ss' ++ S)) βA hA (ms.headD .deep) t (.p (.fn f ys)) c none := fun M1 => by
                rw [hm]
                exact .funcN f qs t ys c hcq (hd1.mono fun b hb => ⟨hb.elim (fun h => h.elim) fun ⟨s,o,h1,h2⟩ => .inr ⟨s,o,by simp [h1],h2⟩,rfl⟩)
              refine ⟨ss' ++ S,none::ps,.cons ms t ts _ xs c cs none ps (hres _) (k1.mono up) (fun b o o' h => by cases h),fun s hs => ?_,fun b o hb => ?_,fun hf => ?_⟩
              · rcases List.mem_append.1 hs with hs | hs
                · exact ⟨hlive s hs,hlt s hs⟩
                · exact ⟨(live s (k2 s hs).1).1,(k2 s hs).2⟩
              · rcases List.mem_cons.1 hb with hb | hb
                · cases hb
                · obtain ⟨s,o0,q1,q2,q3,q4⟩ := k3 b o hb
                  exact ⟨s,o0,(live s q1).1,by simp [(live s q1).2,q2],q3,q4⟩
              · simp only [retsFlat,Bool.and_eq_true] at hf
                exact .cons ms t ts _ xs c cs none ps (hres _) ((k4 hf.2).mono (upF _)) (fun b o o' h => by cases h)
          · rename_i hfl hd
            simp only [Option.some.injEq,Prod.mk.injEq] at hx
            obtain ⟨rfl,rfl⟩ := hx
            have hd1 : VR w (Mplus (fun _ => False) β []) .nilfn c := deep_flat r.heap hsub hfl hd hv
            cases hd1
            have hne : ∀ M,ResR T w M βA hA (ms.headD .deep) t (.p .nilfn) .nilFunc none := fun M => by
              rw [hm]; exact .funcNil g qs t
            exact plain _ rfl (hne _) fun _ => hne _
          · cases hx
        | aggF =>
          simp only [retVal] at hx
          split at hx
          · rename_i ks0 hsh
            split at hx
            · rename_i ks a ls cells hla hcells
              split at hx
              · rename_i cs0 y hcl
                split at hx
                · rename_i ys zs ss' hpu hfo
                  cases hc : kindsOk ks ys && ks.all Kd.flat with
                  | false => rw [hc] at hx; cases hx
                  | true =>
                    rw [hc] at hx
                    simp only [cond_true,Option.some.injEq,Prod.mk.injEq] at hx
                    obtain ⟨rfl,rfl⟩ := hx
                    simp only [Bool.and_eq_true] at hc
                    obtain ⟨hck,hcf⟩ := hc
                    obtain ⟨va,rfl,hvn,hva⟩ := aggCells_ok hv hcells
                    have e1 := unsnoc_eq hcl
                    subst e1
                    have e2 := pures_ok hpu
                    subst e2
                    have hy : AR w M β (look st.heap) y (va.getD ys.length undef) := hva ys.length y (by simp)
                    obtain ⟨p,hp1,hp2,hp3⟩ : ∃ p : Option (Nat × Nat),BR w (Mplus M β S) (fun _ => p) (fun _ => some (.arr a ls zs)) 0 (.arr a ls zs) ∧
                        AR w (Mplus M β S) (fun _ => p) (fun _ => some (.arr a ls zs)) (.slice 0 ls.length 0 zs.length) (va.getD ys.length undef) ∧ (∀ b o,p = some (b,o) → ∃ s o0,s ∈ ss' ∧ (look hp s).isSome = true ∧ s < argSite ∧ β s = some (b,o0)) := by
                      unfold freshOf at hfo
                      split at hfo
                      · rename_i s z off len
                        split at hfo
                        · rename_i sa ks' ws hs
                          cases hc : sa == a && Kd.beqs ks' ls && Nat.blt s 100000 with
                          | false => rw [hc] at hfo; cases hfo
                          | true =>
                            rw [hc] at hfo
                            simp only [cond_true,Option.some.injEq,Prod.mk.injEq] at hfo
                            obtain ⟨rfl,rfl⟩ := hfo
                            simp only [Bool.and_eq_true,beq_iff_eq] at hc
                            obtain ⟨⟨rfl,hks⟩,hlt⟩ := hc
                            have hks := Kd.beqs_eq _ _ hks
                            subst hks
                            obtain ⟨p,q1,q2,q3⟩ := fresh_ok (M' := Mplus M β S) (fun b hb => .inl hb) (hsub _ _ hs) (r.heap s _ (hsub _ _ hs)) hy
                            refine ⟨p,q1,q2,fun b o e => ?_⟩
                            obtain ⟨o0,q⟩ := q3 b o e
                            exact ⟨s,o0,by simp,by rw [hs]; rfl,Nat.le_of_ble_eq_true hlt,q⟩
                        · cases hfo
                      · simp only [Option.some.injEq,Prod.mk.injEq] at hfo
                        obtain ⟨rfl,rfl⟩ := hfo
                        refine ⟨none,.arrE _ _,?_,fun b o e => by cases e⟩
                        generalize va.getD ys.length undef = c0 at hy
                        cases hy
                        rename_i hy
                        cases hy
                        exact .sliceE 0 0 _ _ [] none rfl (by simp)
                      · cases hfo
                    have hfr : ResR T w (Mplus M β S) βA hA .aggF t (.agg (ys.map .p ++ [.fresh a ls zs])) (.agg va) p :=
                      .aggF t ks0 ks a ls ys zs va p hsh hla hck hcf (by simpa using hvn) (fun i c hc => by
                        have := hva i (.p c) (by rw [List.getElem?_append_left (by simpa using (List.getElem?_eq_some_iff.1 hc).1),List.getElem?_map,hc]; rfl)
                        cases this
                        rename_i this
                        exact this.mono fun b hb => ⟨.inl hb,rfl⟩) hp1 hp2
                    have hap : ∀ b o o',p = some (b,o) → some (b,o') ∉ ps := fun b o o' e1 e2 => by
                      obtain ⟨s,o0,hs1,hs2,_,q0⟩ := hp3 b o e1
                      obtain ⟨s',o0',q1,q2,q3,q4⟩ := k3 b o' e2
                      obtain ⟨g1,g2⟩ := live s' q1
                      obtain ⟨blk,hb⟩ := Option.isSome_iff_exists.1 g1
                      obtain ⟨blk2,hb2⟩ := Option.isSome_iff_exists.1 hs2
                      have := r.inj s' s b o0' o0 (by rw [hsub _ _ hb]; rfl) (by rw [hsub _ _ hb2]; rfl) q4 q0
                      exact g2 (by rw [this]; exact hs1)
                    refine ⟨S,p::ps,.cons ms t ts _ xs (.agg va) cs p ps ?_ k1 hap,fun s' hs' => ⟨(live s' (k2 s' hs').1).1,(k2 s' hs').2⟩,fun b o hb => ?_,fun hf => ?_⟩
                    · rw [hm]; exact hfr
                    · rcases List.mem_cons.1 hb with hb | hb
                      · obtain ⟨s,o0,hs1,hs2,hs3,q0⟩ := hp3 b o hb.symm
                        exact ⟨s,o0,hs2,fun hS => (live s (k2 s hS).1).2 hs1,hs3,q0⟩
                      · obtain ⟨s',o0,q1,q2,q3,q4⟩ := k3 b o hb
                        exact ⟨s',o0,(live s' q1).1,q2,q3,q4⟩
                    · simp only [retsFlat,Bool.and_eq_true] at hf
                      refine .cons ms t ts _ xs (.agg va) cs p ps ?_ (k4 hf.2) hap
                      have hf1 := hf.1
                      rw [hm] at hf1 ⊢
                      exact hfr.flat hf1 (.inr (.inr rfl))
                · cases hx
              · cases hx
            · cases hx
          · cases hx
        | alias j =>
          simp only [retVal] at hx
          split at hx
          · rename_i s z off len e hu
            cases hc : s == argSite + j && z == (shapeT T e).2.length with
            | false => rw [hc] at hx; cases hx
            | true =>
              rw [hc] at hx
              simp only [cond_true,Option.some.injEq,Prod.mk.injEq] at hx
              obtain ⟨rfl,rfl⟩ := hx
              simp only [Bool.and_eq_true,beq_iff_eq] at hc
              obtain ⟨rfl,rfl⟩ := hc
              have : ∃ blk,look st.heap (argSite + j) = some blk := by
                generalize (shapeT T e).2.length = z at hv
                cases hv with
                | slice _ _ _ a ks xs b o cap hs hl hb hcap hr => exact ⟨_,hs⟩
                | sliceE _ _ a ks xs base hs hl => exact ⟨_,hs⟩
              obtain ⟨blk,hb⟩ := this
              obtain ⟨g1,g2⟩ := hend j blk hb
              have hne : ∀ M,ResR T w M βA hA (ms.headD .deep) t (.slice (argSite + j) (shapeT T e).2.length off len) c none := fun M => by
                rw [hm]; exact .alias j t e off len c hu (hv.slice_move hb g1 g2)
              exact plain _ rfl (hne _) fun _ => hne _
          · cases hx
      · cases h
    · cases h
  | [],ms,v::vs,cs,rs,hp,h,_,_ => by simp [retVals] at h
  | t::ts,ms,[],cs,rs,hp,h,_,_ => by simp [retVals] at h
theorem back_pure {b0 b : Blk} (h0 : pureBlk b0 = true) (h1 : backBlkOk b = true) (h2 : backOk b0 b = true) : pureBlk b = true := by
  cases b with
  | log => cases b0 <;> simp [backOk,pureBlk] at h0 h2
  | _ => exact h1
theorem argsBack_ok {hp : Heap} : ∀ {bl bl' : List Blk} {k : Nat},(∀ b ∈ bl,pureBlk b = true) → argsBack hp k bl = some bl' → bl'.length = bl.length ∧ ∀ (i : Nat) (b0 b1 : Blk),bl[i]? = some b0 → bl'[i]? = some b1 → look hp (argSite + (k + i)) = some b1 ∧ pureBlk b1 = true ∧ backOk b0 b1 = true
  | [],bl',k,_,h => by
    simp [argsBack] at h; subst h
    exact ⟨rfl,fun i b0 b1 h => by simp at h⟩
  | b0::r,bl',k,hbl,h => by
    simp only [argsBack] at h
    split at h
    · rename_i b bs h1 h2
      cases hc : backBlkOk b && backOk b0 b with
      | false => rw [hc] at h; cases h
      | true =>
        rw [hc] at h
        simp only [cond_true,Option.some.injEq] at h
        subst h
        simp only [Bool.and_eq_true] at hc
        obtain ⟨g1,g2⟩ := argsBack_ok (fun b hb => hbl b (by simp [hb])) h2
        refine ⟨by simp [g1],fun i c0 c1 e1 e2 => ?_⟩
        cases i with
        | zero => simp at e1 e2; subst e1 e2; exact ⟨h1,back_pure (hbl b0 (by simp)) hc.1 hc.2,hc.2⟩
        | succ i =>
          simp at e1 e2
          rw [show k + (i + 1) = k + 1 + i from by omega]
          exact g2 i c0 c1 e1 e2
    · cases h
theorem BR.pure_mono {M' : Nat → Prop} {β' : Nat → Option (Nat × Nat)} {h h' : Nat → Option Blk} {s s' : Nat} {blk : Blk} (hM : ∀ b,M b → M' b) (hb : BR w M β h s blk) (hp : pureBlk blk = true) (e : β' s' = β s) : BR w M' β' h' s' blk := by
  have hM' : ∀ b,M b → M' b ∧ w.heap[b]? = w.heap[b]? := fun b h => ⟨hM b h,rfl⟩
  have hb1 := hb.pure_move (β' := β') (h' := h') hp e
  cases hb1 with
  | log => simp [pureBlk] at hp
  | tb => simp [pureBlk] at hp
  | mp => simp [pureBlk] at hp
  | br => simp [pureBlk] at hp
  | brE => simp [pureBlk] at hp
  | arrE => exact .arrE _ _
  | arr _ _ _ b o C e' fr g1 g2 g3 g4 g5 g6 => exact .arr _ _ _ b o C e' fr g1 g2 g3 g4 g5 fun i x j c h1 h2 => (g6 i x j c h1 h2).mono hM'
  | box cs b o C e' fr g1 g2 g3 g4 g5 g6 =>
    refine .box cs b o C e' fr g1 g2 g3 g4 g5 fun j c hc => ?_
    simp only [pureBlk,Option.isSome_iff_exists] at hp
    obtain ⟨vs,hp⟩ := hp
    have hcs := pures_ok hp
    subst hcs
    have hc' := g6 j c hc
    simp only [List.getElem?_map,Option.map_eq_some_iff] at hc
    obtain ⟨x,_,rfl⟩ := hc
    generalize C.getD (o + j) undef = u at hc'
    cases hc' with
    | p _ _ hv => exact .p _ _ (hv.mono hM')
theorem Rel.start {args : List AV} {bl : List Blk} {cargs : Array Value} (hp : CallPre w M β args bl cargs) {gl : Option (List (Nat × Obj))} (hgl : ∀ p ∈ gl.getD [],M p.1 ∧ w.heap[p.1]? = some p.2) (fn : Func) :
    Rel ⟨w,w.heap.size,Nat.le_refl _,gl⟩ (fun b => ∃ i o,i < bl.length ∧ β (argSite + i) = some (b,o)) M M β (startSt fn args bl) { tmps := cargs ++ Array.replicate (fn.ntmps - cargs.size) undef,defers := [] } w := by
  have hn := hp.num
  refine ⟨?_,fun t v ht => ?_,fun s blk hs => ?_,fun s b o hs hb => ?_,fun s s' b o o' hs hs' hb hb' => ?_,hp.msub,fun b h => .inl h,fun b h => h,fun b _ _ => rfl,fun b n _ _ h => h,Nat.le_refl _,rfl,rfl,rfl,hgl⟩
  · simp [startSt,hn]
  · by_cases hlt : t < args.length
    · have ht' : args[t]? = some v := by
        simp only [startSt] at ht
        rwa [List.getElem?_append_left hlt] at ht
      have := hp.args t v ht'
      have e : (cargs ++ Array.replicate (fn.ntmps - cargs.size) undef).getD t undef = cargs.getD t undef := by
        rw [Array.getD_eq_getD_getElem?,Array.getD_eq_getD_getElem?,Array.getElem?_append_left (by omega)]
      rw [e]; exact this
    · have : v = .undef := by
        simp only [startSt] at ht
        rw [List.getElem?_append_right (by omega),List.getElem?_replicate] at ht
        split at ht
        · simpa using ht.symm
        · cases ht
      subst this
      exact .undef _
  · obtain ⟨i,h1,rfl,h2⟩ := init_key0 hs
    exact hp.blk i blk h2
  · obtain ⟨blk,hs⟩ := Option.isSome_iff_exists.1 hs
    obtain ⟨i,h1,rfl,h2⟩ := init_key0 hs
    obtain ⟨g1,g2⟩ := hp.own i b o h1 hb
    exact ⟨g1,g2,.inr ⟨i,o,h1,hb⟩,.inr (by omega)⟩
  · obtain ⟨blk,hs⟩ := Option.isSome_iff_exists.1 hs
    obtain ⟨blk',hs'⟩ := Option.isSome_iff_exists.1 hs'
    obtain ⟨i,h1,rfl,h2⟩ := init_key0 hs
    obtain ⟨j,h1',rfl,h2'⟩ := init_key0 hs'
    rw [hp.inj i j b o o' h1 h1' hb hb']
def ExtOk (P : Program) (T : Tab) (gl : Option (List (Nat × Obj))) (X : Ext) : Prop := ∀ f fi s args bl rs bl',tlook T.funcs f = some fi → X f = some s → s args bl = some (rs,bl') → (∃ c,fi.fn.body = some c) ∧ (∀ b ∈ bl,pureBlk b = true) ∧
    ∀ (w : World) (M : Nat → Prop) (β : Nat → Option (Nat × Nat)) (cargs : Array Value),(∀ p ∈ gl.getD [],M p.1 ∧ w.heap[p.1]? = some p.2) → CallPre w M β args bl cargs →
      Calls P f cargs w fun e w' => ∃ cs ps M',e = .returned (wrapV cs) ∧ CallPost gl T fi w M β bl rs bl' w' M' cs ps
theorem leaves_marks {fn : Func} {tmps : Array Value} {R : Ending → World → Prop} {n : Nat} : ∀ (ds : List Nat) (w : World),ds.Nodup → (∀ D ∈ ds,w.heap[D]? = some (.deferred (some []))) →
    (∀ w',(∀ b,b ∉ ds → w'.heap[b]? = w.heap[b]?) → w'.heap.size = w.heap.size → w'.os = w.os → w'.tape = w.tape → w'.output = w.output → w'.drawn = w.drawn → ∃ v,(results fn tmps).run P w' = .ok v w' ∧ R (.returned v) w') →
    LeavesInM (FW none) n P fn tmps R (ds.map markOf) .returning w
  | [],w,_,_,h => h w (fun _ _ => rfl) rfl rfl rfl rfl rfl
  | D::ds,w,hnd,hl,h => by
    obtain ⟨h1,h2⟩ := List.nodup_cons.1 hnd
    refine ⟨by simp,.inl ⟨D,w.putObj D (.deferred none),rfl,run_takeDeferred (hl D (by simp)),?_⟩⟩
    refine leaves_marks ds _ h2 (fun D' hD' => ?_) fun w' k1 k2 k3 k4 k5 k6 => ?_
    · rw [World.putObj_heap_other (show D' ≠ D from fun e => h1 (e ▸ hD'))]
      exact hl D' (by simp [hD'])
    · refine h w' (fun b hb => ?_) (by rw [k2,World.putObj_size]) k3 k4 k5 k6
      simp only [List.mem_cons,not_or] at hb
      rw [k1 b hb.2,World.putObj_heap_other hb.1]
theorem Inv.shut {cx : Cx} {M : Nat → Prop} {β : Nat → Option (Nat × Nat)} {st : St} {a : Act} {w w' : World} {L : List (Nat × Obj)} {ds : List Nat} (r : Rel cx.w0 cx.Pr cx.M0 M β st a w) (fx : Fix cx M β st.heap a w L ds) (hn : cx.w0.n0 = cx.w0.heap.size)
    (k1 : ∀ b,b ∉ ds → w'.heap[b]? = w.heap[b]?) (k2 : w'.heap.size = w.heap.size) (k3 : w'.os = w.os) (k4 : w'.tape = w.tape) (k5 : w'.output = w.output) : Rel cx.w0 cx.Pr cx.M0 M β st a w' := by
  have hM : ∀ b,M b → b ∉ ds := fun b hb hd => (fx.lies _ (fx.mark b hd).1).2.2 hb
  have hO : ∀ b,Owned β st.heap b → b ∉ ds := fun b hb hd => (fx.lies _ (fx.mark b hd).1).2.1 hb
  have hw : ∀ b,b < cx.w0.heap.size → b ∉ ds := fun b hb hd => by have := (fx.mark b hd).2; omega
  refine r.to rfl (fun b hb => ⟨hb,k1 b (hM b hb)⟩) (fun s b o hs hb => ?_) (fun b hb => by rw [k2]; exact r.msub b hb) r.mnew r.mold (fun b hb hp => ?_) (fun b n hb hp hr => ?_) (by rw [k2]; exact r.size) (k3.trans r.os) (k4.trans r.tape) (k5.trans r.output)
  · obtain ⟨g1,g2,g3⟩ := r.own s b o hs hb
    exact ⟨k1 b (hO b ⟨s,o,hs,hb⟩),g1,by rw [k2]; exact g2,g3⟩
  · rw [k1 b (hw b hb)]; exact r.keep b hb hp
  · exact (r.room b n hb hp hr).of_block (k1 b (hw b (by have := cx.w0.le'; omega)))
theorem noLog_args {bl : List Blk} (h : ∀ b ∈ bl,pureBlk b = true) : NoLog (initHeap 0 bl) := by
  intro xs he
  have : look (initHeap 0 bl) (argSite + 0) = some (.log true xs) := he
  rw [look_init0] at this
  have := h _ (List.mem_of_getElem? this)
  simp [pureBlk] at this
theorem call_step (ok : TabOk P T) {X : Ext} {gl : Option (List (Nat × Obj))} (hX : ExtOk P T gl X) {n : Nat} (hC : CallOk P T gl (acall T X n)) (hS : SeqOk P T gl (acall T X n)) : CallOk P T gl (acall T X (n + 1)) := by
  intro f fi args bl rs bl' hf hpb h
  simp only [acall,hf] at h
  cases hx : X f with
  | some s =>
    rw [hx] at h
    obtain ⟨h1,_,h2⟩ := hX f fi s args bl rs bl' hf hx h
    exact ⟨h1,h2⟩
  | none =>
    rw [hx] at h
    simp only at h
    cases hb : fi.fn.body with
    | none => rw [hb] at h; cases h
    | some c =>
      rw [hb] at h
      simp only [forceAVs_eq,forceBlks_eq,forceSt_eq] at h
      refine ⟨⟨c,rfl⟩,fun w M β cargs hgl hp => ?_⟩
      obtain ⟨hfn,hname,hdr,hret⟩ := ok.funcs f fi hf
      let cx : Cx := { w0 := ⟨w,w.heap.size,Nat.le_refl _,gl⟩,Pr := fun b => ∃ i o,i < bl.length ∧ β (argSite + i) = some (b,o),M0 := M,β0 := β,hp0 := initHeap 0 bl,Wr := fun _ => True,t0 := cargs ++ Array.replicate (fi.fn.ntmps - cargs.size) undef,rd := none,L0 := [] }
      have hi : Inv cx (startSt fi.fn args bl) { tmps := cargs ++ Array.replicate (fi.fn.ntmps - cargs.size) undef,defers := [] } w :=
        ⟨M,β,[],[],Rel.start hp hgl fi.fn,fun _ _ => rfl,fun s _ b hb => ⟨b,hb,Like.refl b⟩,.refl _ _,⟨fun p hp => by simp at hp,fun p hp => by simp [cx] at hp,rfl,List.nodup_nil,fun D hD => by simp at hD,fun l hl => (by cases hl),rfl,fun _ _ => rfl,fun _ => rfl,fun _ h => h.elim⟩⟩
      refine calls_of_fw (rd := none) (n := 0) (callsIn_of_wp_marks hfn hb trivial ?_)
      refine sim_codeG (ng := false) (codeSim_inv (m := 0) ok hC (ok.nvars f fi hf) (rs,bl')) (fun _ f ps y z hy hz => sim_range ok hS hy hz) c ⟨cx,noLog_args hpb,rfl⟩ _ _ w _ _ _ trivial h (hdr c hb) (fun h => by cases h) (fun _ _ => ⟨fun _ _ => trivial,fun _ _ h => h.elim⟩) ⟨rfl,hi⟩ fun ex x' st a w1 hk i => ?_
      obtain ⟨rfl,i⟩ := i
      have hk' : retK T fi.cfg fi.fn bl st = some (rs,bl') ∧ (ex = .normal ∨ ex = .ret) := by
        cases ex with
        | normal => exact ⟨hk,.inl rfl⟩
        | exit id => cases hk
        | ret => exact ⟨hk,.inr rfl⟩
      obtain ⟨hk,hex⟩ := hk'
      obtain ⟨M1,β1,L1,ds1,r1,e1,e2,e3',fx1⟩ := i
      have goal : LeavesInM (FW none) 0 P fi.fn a.tmps (fun e w' => ∃ cs ps M',e = .returned (wrapV cs) ∧ CallPost gl T fi w M β bl rs bl' w' M' cs ps) a.defers .returning w1 := by
        rw [fx1.marks]
        refine leaves_marks ds1 w1 fx1.nodup (fun D hD => (fx1.lies _ (fx1.mark D hD).1).1) fun w' q1 q2 q3 q4 q5 q6 => ?_
        have r := Inv.shut r1 fx1 rfl q1 q2 q3 q4 q5
        have e3 : DrawnLe gl w.drawn w'.drawn := by rw [q6]; exact e3'
        unfold retK at hk
        split at hk
        · cases hk
        · rename_i vs hvs
          split at hk
          · rename_i rs' bl'' hrv hab
            simp only [forceAVs_eq,forceBlks_eq,Option.some.injEq,Prod.mk.injEq] at hk
            obtain ⟨rfl,rfl⟩ := hk
            obtain ⟨cs,g1,g2⟩ := resAll_ok ok r hvs
            obtain ⟨ab1,ab2⟩ := argsBack_ok hpb hab
            have hold : ∀ j blk,look st.heap (argSite + j) = some blk → ∃ b0,bl[j]? = some b0 ∧ Like b0 blk := by
              intro j blk hj
              obtain ⟨b0,k1,k2⟩ := e2 (argSite + j) (by omega) blk hj
              rw [look_init0] at k1
              exact ⟨b0,k1,k2⟩
            have hend : ∀ j blk,look st.heap (argSite + j) = some blk → look (initHeap 0 bl'') (argSite + j) = some blk ∧ β (argSite + j) = β1 (argSite + j) := by
              intro j blk hj
              obtain ⟨b0,k1,k2⟩ := hold j blk hj
              refine ⟨?_,(e1 (argSite + j) (by omega)).symm⟩
              rw [look_init0]
              have hlt : j < bl''.length := by rw [ab1]; exact (List.getElem?_eq_some_iff.1 k1).1
              have := (ab2 j b0 bl''[j] k1 (by simp)).1
              rw [Nat.zero_add,hj] at this
              cases this
              simp
            obtain ⟨S,ps,q1,q2,q3,q4⟩ := retVals_ok r hend hrv (fun _ _ h => h) g2
            have hup : ∀ b,M1 b → Mplus M1 β1 S b := fun b h => .inl h
            refine ⟨wrapV cs,run_results g1,cs,ps,Mplus M1 β1 S,rfl,⟨q1,fun b o hb => ?_,fun hb1 hs1 => ⟨Mplus (fun _ => False) β1 S,fun b hb => ?_,q4 (hret hb1 hs1)⟩,fun b h => .inl (r.mold b h),fun b h => ?_,fun b h => ?_,fun b hb hn => ?_,fun b n hb hr => ?_,r.size,r.os,r.tape,r.output,e3,ab1,fun i b0 b1 h1 h2 => ?_⟩⟩
            · obtain ⟨s,o0,k1,k2,k3,k4⟩ := q3 b o hb
              obtain ⟨o1,o2,o3⟩ := r.own s b o0 k1 k4
              refine ⟨fun h => ?_,o2,?_⟩
              · rcases h with h | ⟨s',o',hs',hb'⟩
                · exact o1 h
                · exact k2 (by rw [r.inj s s' b o0 o' k1 (q2 s' hs').1 k4 hb']; exact hs')
              · rcases o3.2 with o3 | o3
                · exact o3
                · omega
            · rcases hb with hb | ⟨s',o',hs',hb'⟩
              · exact hb.elim
              · refine ⟨.inr ⟨s',o',hs',hb'⟩,?_⟩
                obtain ⟨k1,k2⟩ := q2 s' hs'
                rcases (r.own s' b o' k1 hb').2.2.2 with o3 | o3
                · exact o3
                · omega
            · rcases h with h | ⟨s',o',hs',hb'⟩
              · exact (r.mnew b h).imp id And.left
              · obtain ⟨k1,k2⟩ := q2 s' hs'
                rcases (r.own s' b o' k1 hb').2.2.2 with o3 | o3
                · exact .inr o3
                · omega
            · rcases h with h | ⟨s',o',hs',hb'⟩
              · exact r.msub b h
              · exact (r.own s' b o' (q2 s' hs').1 hb').2.1
            · exact r.keep b hb fun ⟨i,o,hi,h⟩ => hn i o hi h
            · by_cases hpr : ∃ i o,i < bl.length ∧ β (argSite + i) = some (b,o)
              · exact r.room b n hb hpr hr
              · exact hr.of_block (r.keep b hb hpr)
            · obtain ⟨k1,k2,k3⟩ := ab2 i b0 b1 h1 h2
              rw [Nat.zero_add] at k1
              obtain ⟨b0',k4,k5⟩ := hold i b1 k1
              rw [h1] at k4; cases k4
              exact ⟨(r.heap _ _ k1).pure_mono hup k2 (e1 (argSite + i) (by omega)).symm,k5,k3,k2⟩
          · cases hk
      rcases hex with rfl | rfl
      · exact goal
      · exact goal
end
end Go.Skm
