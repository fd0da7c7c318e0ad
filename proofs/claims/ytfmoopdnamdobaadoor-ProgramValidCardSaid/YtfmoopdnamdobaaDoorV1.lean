import Derived.Test.YtfmoopdnamdobaaDoorAll1
import Derived.OwnWalk
namespace Go.Skm.Prg
open Go Go.Skm Go.Proofs Go.RowKit
section
variable {F:Fence} {n:Nat} {P:Program} {ops:Array Oper} {Q:Exit→Act→World→Prop}
structure Ups (ops:Array Oper) (val:Nat→Value) (a0:Act) (L:Nat→Bool) (a:Act):Prop where
 size:a.tmps.size=a0.tmps.size
 defers:a.defers=a0.defers
 keep:∀ t,(∀ (i:Nat) o,ops[i]?=some o→o.dst≠some t)→a.tmps.getD t undef=a0.tmps.getD t undef
 got:∀ (i:Nat) o d,ops[i]?=some o→o.dst=some d→L i=true→a.tmps.getD d undef=val i
theorem Ups.out {val:Nat→Value} {a0 a:Act} {L:Nat→Bool} (h:Ups ops val a0 L a) {t:Nat} (ht:((List.range ops.size).all fun i=>match ops[i]? with | some o=>o.dst != some t | none=>true)=true):a.eval (.tmp t)=a0.tmps.getD t undef:=by
 refine h.keep t fun i o ho e=>?_
 have h1:=List.all_eq_true.1 ht i (List.mem_range.2 (qAa.1 ho).1)
 rw[ho]at h1
 simp[e]at h1
theorem Ups.at {val:Nat→Value} {a0 a:Act} {L:Nat→Bool} (h:Ups ops val a0 L a) (i:Nat) {d:Nat} (hd:(ops[i]?.bind (·.dst))=some d) (hl:L i=true):a.eval (.tmp d)=val i:=by
 obtain⟨o,h1,h2⟩:=Option.bind_eq_some_iff.1 hd
 exact h.got i o d h1 h2 hl
def VI (ops:Array Oper) (m:Nat):Bool:=(List.range ops.size).all fun i=>match ops[i]?.bind (·.dst) with
 | some d=>Nat.blt d m&&(List.range ops.size).all fun j=>j==i||(match ops[j]?.bind (·.dst) with | some e=>e != d | none=>true)
 | none=>true
theorem Yi {m:Nat} (h:VI ops m=true) {i d:Nat} {o:Oper} (ho:ops[i]?=some o) (hd:o.dst=some d):d<m∧∀ (j:Nat) o',ops[j]?=some o'→o'.dst=some d→j=i:=by
 have h1:=List.all_eq_true.1 h i (List.mem_range.2 (qAa.1 ho).1)
 simp only[ho,Option.bind_some,hd,qBa]at h1
 refine⟨Eq.mp Nat.blt_eq h1.1,fun j o' hj hd'=>?_⟩
 have h2:=List.all_eq_true.1 h1.2 j (List.mem_range.2 (qAa.1 hj).1)
 simp only[hj,Option.bind_some,hd',Bool.or_eq_true,beq_iff_eq]at h2
 rcases h2 with h2 | h2
 · exact h2
 · simp at h2
theorem Ups.put {val : Nat → Value} {a0 a : Act} {L : Nat → Bool} (h : Ups ops val a0 L a) (hok : VI ops a0.tmps.size = true) {i : Nat} {o : Oper} (ho : ops[i]? = some o) (v : Value) :
    Ups ops (fun j=>if j=i then v else val j) a0 (fun j=>L j||j==i) (a.put o.dst v):=by
  cases hd:o.dst with
  | none =>
   refine⟨h.size,h.defers,h.keep,fun j o' d hj hd' hl=>?_⟩
   by_cases e:j=i
   · subst e;rw[ho]at hj;cases hj;rw[hd]at hd';cases hd'
   · have hb:(j==i)=false:=by simpa using e
     rw[hb,Bool.or_false]at hl
     rw[if_neg e]
     exact h.got j o' d hj hd' hl
  | some d =>
   obtain⟨h1,h2⟩:=Yi hok ho hd
   refine⟨by simp[Act.put,h.size],h.defers,fun t ht=>?_,fun j o' d' hj hd' hl=>?_⟩
   · rw[← h.keep t ht]
     have:d≠t:=fun e=>ht i o ho (by rw[hd,e])
     simp[Act.put,qAe this]
   · by_cases e:j=i
     · subst e;rw[ho]at hj;cases hj;rw[hd]at hd';cases hd'
       have:d<a.tmps.size:=by rw[h.size];exact h1
       simp[Act.put,this]
     · have hb:(j==i)=false:=by simpa using e
       rw[hb,Bool.or_false]at hl
       rw[if_neg e,← h.got j o' d' hj hd' hl]
       have:d≠d':=fun e'=>e (h2 j o' hj (by rw[hd',e']))
       simp[Act.put,qAe this]
def abM (ops:Array Oper):Bool:=(List.range ops.size).all fun i=>match ops[i]? with
 | some o=>o.after.toList.all fun e=>Nat.blt e.on i
 | none=>true
theorem JO (I : (Nat → Bool) → (Nat → Value) → World → Prop) (hm : P.follows .mixedOrders = true) (hb : abM ops = true) {a0 : Act} {w0 : World} (hok : VI ops a0.tmps.size = true)
    (step:∀ L val a w i o,ops[i]?=some o→L i=false→(∀ e∈o.after.toList,Region.binds .any e=true→L e.on=true)→Ups ops val a0 L a→I L val w →
      wpOpIn F n P ops Q i (fun a' w'=>∃ v,a'=a.put o.dst v∧I (fun j=>L j||j==i) (fun j=>if j=i then v else val j) w') a w)
    (init:I (fun _=>false) (fun _=>undef) { w0 with drawn:=w0.drawn+1 })
    (fin:∀ L val a w,(∀ i,i<ops.size→L i=true)→Ups ops val a0 L a→I L val w→Q .normal a w) {id:Nat}:(Code.region id ops true).wpIn F n P Q a0 w0:=by
  refine wpIn_region_any hm (VN (fun L a w=>∃ val,Ups ops val a0 L a∧I L val w) (fun i o ho e he _=>?_) (fun L a w i o ho hl he ⟨val,h1,h2⟩=>?_) (fun L a w hall ⟨val,h1,h2⟩=>fin L val a w hall h1 h2) _ _ _ _ (by simp) ?_ ?_)
  · have h1:=List.all_eq_true.1 hb i (List.mem_range.2 (qAa.1 ho).1)
    rw[ho]at h1
    exact Eq.mp Nat.blt_eq (List.all_eq_true.1 h1 e he)
  · exact wpOpIn_mono (fun a' w' ⟨v,h3,h4⟩=>⟨_,h3▸h1.put hok ho v,h4⟩) (step L val a w i o ho hl he h1 h2)
  · refine Nat.le_trans (List.length_filter_le _ _) ?_
    simp
  · have hf : (fun i => (Array.replicate ops.size false).getD i false) = fun _ => false := by
      funext i
      rw[qAb,Array.getElem?_replicate]
      split<;>rfl
    rw[hf]
    exact⟨fun _=>undef,⟨rfl,rfl,fun _ _=>rfl,fun i _ _ _ _ h=>(by cases h)⟩,init⟩
theorem eU {i : Nat} {K : Act → World → Prop} {a : Act} {w w' : World} {o : Oper} {v : Value} (ho : ops[i]? = some o) (hg : Region.wanted o (yielded ops a.tmps) = true) (hab : o.about P w a.eval = none) (hd : ∀ c,o.op ≠ .defer c)
    (hr:(execOp a.eval o).run P w=.ok (.value v) w') (hK:K (a.put o.dst v) w'):wpOpIn F n P ops Q i K a w:=by
  unfold wpOpIn
  rw[ho]
  simp only[hg,if_true]
  unfold Oper.wpIn
  refine⟨fun f h=>(by rw[hab]at h;cases h),?_⟩
  rw[Oper.semAt_plain F _ _ hd,hr]
  exact hK
theorem jH {i : Nat} {K : Act → World → Prop} {a : Act} {w : World} {o : Oper} {f : Nat} {args : Array Value} (ho : ops[i]? = some o) (hg : Region.wanted o (yielded ops a.tmps) = true) (hd : ∀ c,o.op ≠ .defer c)
    (hr:(execOp a.eval o).run P w=.ok (.enter f args) w) (hc:Calls P f args w fun e w'=>∃ v,e=.returned v∧K (a.put o.dst v) w'):wpOpIn (FW none) n P ops Q i K a w:=by
  unfold wpOpIn
  rw[ho]
  simp only[hg,if_true]
  unfold Oper.wpIn
  refine⟨fun f h=>trivial,?_⟩
  rw[Oper.semAt_plain (FW none) _ _ hd,hr,Oper.uponIn_enter]
  refine⟨fun h=>(by cases h),(dJ none hc).mono ?_⟩
  rintro e w' ⟨v,rfl,h⟩
  exact h
end
section
variable {P:Program} {T:Tab} {gl:Option (List (Nat × Obj))} {C:aA}
theorem PD (hC : fZ P T gl C) {f : Nat} {fi : FI} (hf : bI T.funcs f = some fi) {t : TypeId} (ht : fi.fn.resultTypes.toList = [t]) (hr : fi.cfg.rets = []) {xs : List PV} {b : Bool} (h : C f (xs.map .p) [] = some ([.p (.bool b)],[]))
    {W:World} {M:Nat→Prop} {args:Array Value} (hgl:∀ p∈gl.getD [],M p.1∧W.heap[p.1]?=some p.2) (hM:∀ b,M b→b<W.heap.size) (hn:args.size=xs.length) (hv:∀ (i:Nat) x,xs[i]?=some x→VR W M x (args.getD i undef)) :
    Calls P f args W fun e W'=>e=.returned (.bool b)∧Below W.heap.size W W':=by
  refine((hC.plain f fi (xs.map .p) [] _ [] hf (by simp) h).2 W M (fun _=>none) args hgl ⟨by simp[hn],fun i v hi=>?_,fun i b0 hi=>by simp at hi,fun i b o hi=>by simp at hi,fun i j b o o' hi=>by simp at hi,hM⟩).mono ?_
  · simp only[List.getElem?_map,Option.map_eq_some_iff]at hi
    obtain⟨x,hx,rfl⟩:=hi
    exact .p _ _ (hv i x hx)
  · rintro e W' ⟨cs,ps,M',rfl,post⟩
    have hres:=post.res
    rw[hr,ht]at hres
    have hcs:cs=[.bool b]:=by
     cases hres with
     | cons _ _ _ _ _ c cs' p ps' h1 h2 _ =>
      cases h2
      cases h1 with
      | deep _ x _ _ hv=>cases hv;rfl
    subst hcs
    exact⟨rfl,post.os,post.tape,post.output,post.size,fun x hx=>post.keep x hx fun i o hi=>by simp at hi⟩
end
end Go.Skm.Prg
