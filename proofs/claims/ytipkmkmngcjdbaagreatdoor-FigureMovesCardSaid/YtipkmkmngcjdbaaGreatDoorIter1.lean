/-
  The library's iterator over the keys of a set of vectors: each key comes once, in some order; condition: the set lies in the memory.
-/
import Derived.Test.YtipkmkmngcjdbaaGreatDoorProg
import Derived.Test.YtipkmkmngcjdbaaGreatDoorSkmF
import Derived.Shelf.SlIter.Collect
import Derived.Sort.MapsRangeIn
namespace Go.Skm
open Go Go.Proofs Go.RowKit Go.Maps Go.Sort Go.Shelf
def qI (v:V3):Value:=.agg #[.int .i64 v.x,.int .i64 v.y,.int .i64 v.z]
def cVal (v:V3):List Value:=[.int .i64 v.x,.int .i64 v.y,.int .i64 v.z]
def MapKeys (w:World) (b:Nat) (ks:List V3):Prop :=
 ∃ es clock,w.heap[b]?=some (.map es clock)∧es.toList.map (·.key)=ks.map qI∧(∀ e∈es.toList,e.born<clock)∧(es.toList.map (·.born)).Nodup
def lH (w:World) (b r:Nat) (ks ss:List V3) (cnt:Nat):Prop :=
 ∃ es clock seen c0,w.heap[b]?=some (.map es clock)∧w.heap[r]?=some (.mapIter (some b) clock seen c0)∧es.toList.map (·.key)=ks.map qI∧(∀ e∈es.toList,e.born<clock)∧(es.toList.map (·.born)).Nodup ∧
  clock≤c0∧(leftOf es seen).size=cnt∧(ss.map qI).Perm ((es.toList.filter fun e=>seen.contains e.born).map (·.key))∧ss.length+cnt=ks.length
theorem MapKeys.lt {w:World} {b:Nat} {ks:List V3} (h:MapKeys w b ks):b<w.heap.size:=by
 obtain⟨es,clock,h,_⟩:=h
 exact(Array.getElem?_eq_some_iff.1 h).1
theorem lH.of_walks {w w':World} {b r:Nat} {ks ss:List V3} {cnt:Nat} (h:lH w b r ks ss cnt) (hk:KeepsWalks w w'):lH w' b r ks ss cnt:=by
 obtain⟨es,clock,seen,c0,h1,h2,rest⟩:=h
 exact⟨es,clock,seen,c0,hk.same _ _ h1 rfl,hk.same _ _ h2 rfl,rest⟩
theorem lH.left_eq {w:World} {b r:Nat} {ks ss:List V3} {cnt:Nat} (h:lH w b r ks ss cnt):w.rangeLeft b r=cnt:=by
 obtain⟨es,clock,seen,c0,h1,h2,_,_,_,_,h3,_⟩:=h
 simp only[World.rangeLeft,h1,h2]
 exact h3
theorem lH.iter_walk {w:World} {b r:Nat} {ks ss:List V3} {cnt:Nat} (h:lH w b r ks ss cnt):∃ o:Obj,w.heap[r]?=some o∧o.isWalk=true:=by
 obtain⟨es,clock,seen,c0,h1,h2,_⟩:=h
 exact⟨_,h2,rfl⟩
theorem MapKeys.start {w : World} {b : Nat} {ks : List V3} (h : MapKeys w b ks) {P : Program} {t k e : TypeId} (ht : P.underlying t = some (.map k e)) :
    ∃ w',(Instr.range t (.map (some b))).run P w=.ok (.pointer (some ⟨w.heap.size,0,none⟩)) w'∧lH w' b w.heap.size ks [] ks.length∧w.grownBy w' none∧w'.heap.size=w.heap.size+1:=by
  have hlt:=h.lt
  obtain⟨es,clock,hb,hk,hs,hn⟩:=h
  have hlen:es.size=ks.length:=by have:=congrArg List.length hk;simpa using this
  refine⟨_,run_range_map w t k e b es clock ht hb,⟨es,clock,#[],clock,((MapKept.heap_alloc w _).2 b hlt).trans hb,(MapKept.heap_alloc w _).1,hk,hs,hn,Nat.le_refl _,?_,?_,by simp⟩,World.grownBy_alloc w _ none,by simp⟩
  · have:leftOf es #[]=es:=by unfold leftOf;simp
    rw[this,hlen]
  · simp
theorem EJ {α:Type} (p:α→Bool):∀ l:List α,(l.filter fun x=>!p x).length+(l.filter p).length=l.length
 | []=>rfl
 | a::l=>by
  have ih:=EJ p l
  cases h:p a
  · simp only[List.filter_cons,h,Bool.not_false,if_true,Bool.false_eq_true,if_false,List.length_cons];omega
  · simp only[List.filter_cons,h,Bool.not_true,if_true,Bool.false_eq_true,if_false,List.length_cons];omega
theorem filter_push {es : List MapEntry} (seen : Array Nat) {e : MapEntry} (hn : (es.map (·.born)).Nodup) (he : e ∈ es) (hs : seen.contains e.born = false) :
    ((es.filter fun x=>(seen.push e.born).contains x.born).map (·.key)).Perm ((es.filter fun x=>seen.contains x.born).map (·.key)++[e.key]):=by
  rw[show [e.key]=[e].map (·.key) from rfl,← List.map_append]
  refine List.Perm.map _ ?_
  have hnd:es.Nodup:=(List.pairwise_map.1 hn).imp (fun h e=>h (by rw[e]))
  rw[List.perm_ext_iff_of_nodup (hnd.filter _)]
  · intro x
    simp only[List.mem_filter,List.mem_append,List.mem_singleton,contains_push,Bool.or_eq_true,beq_iff_eq]
    constructor
    · rintro ⟨h1,h2 | h2⟩
      · exact .inl ⟨h1,h2⟩
      · exact .inr (born_inj hn h1 he h2)
    · rintro (⟨h1,h2⟩ | rfl)
      · exact⟨h1,.inl h2⟩
      · exact⟨he,.inr rfl⟩
  · rw[List.nodup_append]
    refine⟨hnd.filter _,by simp,fun a ha b hb hab=>?_⟩
    simp only[List.mem_singleton]at hb
    subst hb
    rw[hab]at ha
    have:=(List.mem_filter.1 ha).2
    rw[hs]at this;cases this
theorem lH.next {w : World} {b r : Nat} {ks ss : List V3} {cnt : Nat} (h : lH w b r ks ss cnt) {P : Program} (ty : TypeId) :
    (ss.Perm ks∧(Instr.next (.pointer (some ⟨r,0,none⟩)) false ty).run P w=.ok (.tuple #[.bool false]) w) ∨
    ∃ v x w' cnt',(Instr.next (.pointer (some ⟨r,0,none⟩)) false ty).run P w=.ok (.tuple #[.bool true,qI v,x]) w'∧lH w' b r ks (ss++[v]) cnt'∧cnt'<cnt∧ss.length<ks.length∧w.grownBy w' (some r)∧w'.heap.size=w.heap.size ∧
     (Instr.entry (.pointer (some ⟨r,0,none⟩))).run P w'=.ok (.tuple #[qI v,x]) w':=by
  have hne:r≠b:=by
   obtain⟨es,clock,seen,c0,h1,h2,_⟩:=h
   intro e;rw[e,h1]at h2;cases h2
  obtain⟨es,clock,seen,c0,hb,hr,hk,hs,hn,hc,rfl,hp,hl⟩:=h
  have hkl:es.toList.length=ks.length:=by have:=congrArg List.length hk;simpa using this
  rcases run_next_at (P:=P) w ty r b clock c0 seen es clock hr hb hs hc with ⟨h0,hrun⟩ | ⟨e,he,w1,hal,hrun⟩
  · refine .inl ⟨?_,hrun⟩
    have hall:es.toList.filter (fun e=>seen.contains e.born)=es.toList:=by
     rw[List.filter_eq_self]
     exact fun x hx=>all_seen es seen h0 x hx
    rw[hall,hk]at hp
    have inj:∀ {a b:List V3},(a.map qI).Perm (b.map qI)→a.Perm b:=by
     intro a b hab
     have:=hab.map (fun c:Value=>match c with
      | .agg cs=>(match cs.toList with
       | [.int _ x,.int _ y,.int _ z]=>(⟨x,y,z⟩:V3)
       | _=>⟨0,0,0⟩)
      | _=>⟨0,0,0⟩)
     rw[List.map_map,List.map_map]at this
     have e:∀ l:List V3,l.map ((fun c:Value=>match c with
      | .agg cs=>(match cs.toList with
       | [.int _ x,.int _ y,.int _ z]=>(⟨x,y,z⟩:V3)
       | _=>⟨0,0,0⟩)
      | _=>⟨0,0,0⟩) ∘ qI)=l:=by
      intro l
      conv=>rhs;rw[← List.map_id l]
      exact List.map_congr_left fun v _=>rfl
     rwa[e,e]at this
    exact inj hp
  · obtain⟨hem,hes⟩:=mem_left he
    obtain⟨v,hv⟩:∃ v:V3,e.key=qI v:=by
     have:e.key∈ks.map qI:=by rw[← hk];exact List.mem_map.2 ⟨e,hem,rfl⟩
     obtain⟨v,_,h⟩:=List.mem_map.1 this
     exact⟨v,h.symm⟩
    have hr1:w1.heap[r]?=some (.mapIter (some b) clock seen c0):=by rcases hal with rfl | rfl<;>exact hr
    have hb1:w1.heap[b]?=some (.map es clock):=by rcases hal with rfl | rfl<;>exact hb
    have hset:=MapKept.heap_set (o':=.mapIter (some b) clock (seen.push e.born) clock) hr1
    have hb':=(hset.2 b (fun e1=>hne e1.symm)).trans hb1
    have ajb:=left_shrinks es seen e he
    have hperm:((ss++[v]).map qI).Perm ((es.toList.filter fun x=>(seen.push e.born).contains x.born).map (·.key)):=by
     rw[List.map_append]
     refine(List.Perm.append hp (List.Perm.refl _)).trans ?_
     rw[show [v].map qI=[e.key] by rw[hv];rfl]
     exact(filter_push seen hn hem hes).symm
    have hcount:∀ sn:Array Nat,(leftOf es sn).size+(es.toList.filter fun x=>sn.contains x.born).length=es.toList.length:=by
     intro sn
     have h1:(leftOf es sn).size=(es.toList.filter fun x=>!sn.contains x.born).length:=by
      unfold leftOf
      rw[← Array.length_toList,Array.toList_filter]
     rw[h1]
     exact EJ _ _
    have hl1:=hperm.length_eq
    have hc1:=hcount (seen.push e.born)
    simp only[List.length_map,List.length_append,List.length_cons,List.length_nil]at hl1
    refine .inr ⟨v,e.val,_,_,by rw[hrun,hv],⟨es,clock,seen.push e.born,clock,hb',hset.1,hk,hs,hn,Nat.le_refl _,rfl,hperm,by rw[List.length_append];simp;omega⟩,ajb,by omega,?_,?_,?_⟩
    · rcases hal with rfl | rfl<;>exact⟨rfl,rfl,rfl,by simp[ChangeMaps.setBlock],fun i _ hi=>hset.2 i (fun e1=>hi (by rw[e1]))⟩
    · rcases hal with rfl | rfl<;>simp[ChangeMaps.setBlock]
    · have:=run_entry_at (P:=P) (ChangeMaps.setBlock w1 r (.mapIter (some b) clock (seen.push e.born) clock)) r b clock seen es clock e hset.1 hb' hem hn
      rw[hv]at this
      exact this
section
variable {F:Fence} {n:Nat} {P:Program} (w:World) {ops:Array Oper} {rest:List Oper} {o:Oper} {a:Act} {Q:Exit→Act→World→Prop}
theorem CQ (hg : o.guard = none) (m : Operand) (t : TypeId) (hop : o.op = Op.range t m) (k e : TypeId) (ht : P.underlying t = some (.map k e)) (b : Nat) (ks : List V3) (hm : a.eval m = .map (some b)) (hown : MapKeys w b ks)
    (hK:∀ w',lH w' b w.heap.size ks [] ks.length→w.grownBy w' none→w'.heap.size=w.heap.size+1→wpListIn F n P ops Q rest (a.put o.dst (.pointer (some ⟨w.heap.size,0,none⟩))) w') :
    wpListIn F n P ops Q (o::rest) a w:=by
  refine wpListIn_plain hg fun K' hK'=>?_
  obtain⟨w',hrun,r1,r2,r3⟩:=hown.start ht
  unfold Oper.wpIn
  refine⟨?_,?_⟩
  · simp[Oper.about,hop]
  · rw[Oper.semAt_plain F _ _ (by rw[hop];intro c hc';cases hc')]
    simp[execOp,hop,hm,hrun,Result.andThen]
    exact hK' _ _ (hK w' r1 r2 r3)
theorem Dz (hg : o.guard = none) (it : Operand) (hop : o.op = Op.next it false) (b r : Nat) (ks ss : List V3) (cnt : Nat) (hit : a.eval it = .pointer (some ⟨r,0,none⟩)) (h : lH w b r ks ss cnt)
    (hDone:ss.Perm ks→wpListIn F n P ops Q rest (a.put o.dst (.tuple #[.bool false])) w)
    (hMore:∀ (v:V3) (x:Value) (w':World) (cnt':Nat),lH w' b r ks (ss++[v]) cnt'→cnt'<cnt→ss.length<ks.length→w.grownBy w' (some r)→w'.heap.size=w.heap.size →
      (Instr.entry (.pointer (some ⟨r,0,none⟩))).run P w'=.ok (.tuple #[qI v,x]) w'→wpListIn F n P ops Q rest (a.put o.dst (.tuple #[.bool true,qI v,x])) w') :
    wpListIn F n P ops Q (o::rest) a w:=by
  refine wpListIn_plain hg fun K' hK'=>?_
  unfold Oper.wpIn
  refine⟨by simp[Oper.about,hop],?_⟩
  rw[Oper.semAt_plain F _ _ (by rw[hop];intro c hc';cases hc')]
  rcases h.next (P:=P) o.type with ⟨h0,hrun⟩ | ⟨v,x,w',cnt',hrun,h1,h2,h3,h4,h5,h6⟩
  · simp[execOp,hop,hit,hrun,Result.andThen]
    exact hK' _ _ (hDone h0)
  · simp[execOp,hop,hit,hrun,Result.andThen]
    exact hK' _ _ (hMore v x w' cnt' h1 h2 h3 h4 h5 h6)
end
end Go.Skm
