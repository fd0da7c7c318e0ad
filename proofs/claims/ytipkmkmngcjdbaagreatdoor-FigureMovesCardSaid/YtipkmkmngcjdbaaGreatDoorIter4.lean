/-
  The library's sorted keys of a set of vectors: a new list of them, in order; condition: the set lies in the memory.
-/
import Derived.Test.YtipkmkmngcjdbaaGreatDoorIter3
import Derived.Test.YtipkmkmngcjdbaaGreatDoorLays
import Derived.Sort.OwnSorted
import Derived.Test.YtipkmkmngcjdbaaGreatDoorSkmI
namespace Go.Skm
open Go Go.Proofs Go.RowKit Go.Maps Go.Sort Go.Shelf
theorem cells_at:∀ (l:List V3) (i j:Nat) (_:j<3) (hi:i<l.length),(cells l)[i*3+j]?=(cVal l[i])[j]?
 | [],i,j,_,hi=>by simp at hi
 | v::l,0,j,hj,hi=>by
  show (cVal v++cells l)[0*3+j]?=_
  rw[List.getElem?_append_left (by show 0*3+j<3;omega)]
  simp
 | v::l,i+1,j,hj,hi=>by
  show (cVal v++cells l)[(i+1)*3+j]?=_
  rw[List.getElem?_append_right (by show 3≤(i+1)*3+j;omega)]
  have:(i+1)*3+j-(cVal v).length=i*3+j:=by show (i+1)*3+j-3=_;omega
  rw[this,cells_at l i j hj (by simpa using hi)]
  rfl
theorem abx (l:List V3):flatK cVal 3 l.toArray=(cells l).toArray:=by
 apply Array.ext_getElem?
 intro t
 have er:(cells l).toArray[t]?=(cells l)[t]?:=by simp
 rw[er]
 by_cases ht:t<l.length*3
 · have hs:t<(flatK cVal 3 l.toArray).size:=by rw[size_flatK];simpa using ht
   have h1:=get_flatK cVal 3 l.toArray t (by simpa using ht)
   rw[getElem!_pos _ t hs]at h1
   rw[Array.getElem?_eq_getElem hs,h1]
   have hi:t / 3<l.length:=by omega
   have e:=cells_at l (t / 3) (t%3) (by omega) hi
   rw[show t / 3*3+t%3=t by omega]at e
   rw[e]
   have e2:l.toArray[t / 3]! = l[t / 3]:=by rw[getElem!_pos _ _ (by simpa using hi)];simp
   rw[e2]
   have hj:t%3<(cVal l[t / 3]).length:=by show t%3<3;omega
   rw[List.getElem?_eq_getElem hj,getElem!_pos (cVal l[t / 3]) (t%3) hj]
 · have h1:(flatK cVal 3 l.toArray).size≤t:=by rw[size_flatK];simp;omega
   have h2:(cells l).length≤t:=by rw[kM];omega
   rw[Array.getElem?_eq_none h1,List.getElem?_eq_none h2]
theorem holdsV {w:World} {g:Nat} {cur:Array Value} {e:TypeId} {ss:List V3} (hb:w.heap[g]?=some (.cells cur e (0,0))) (ht:cur.toList.take (ss.length*3)=cells ss):HoldsK cVal 3 w g 0 ss.toArray:=by
 unfold HoldsK
 rw[abx]
 intro j hj
 have hj':j<(cells ss).length:=by simpa using hj
 refine⟨?_,by simp[World.frozen?,hb]⟩
 have h1:(cur.toList.take (ss.length*3))[j]?=(cells ss)[j]?:=by rw[ht]
 rw[List.getElem?_take_of_lt (by rw[kM]at hj';exact hj')]at h1
 simp only[World.cell?,hb,Nat.zero_add]
 simp only[Option.isSome_none,Bool.false_eq_true,if_false]
 rw[← Array.getElem?_toList,h1]
 simp[hj']
theorem aej {w : World} {g n : Nat} {os : Array Obj} {cur : Array Value} {e : TypeId} {fr : Nat × Nat} (d : Array Value) (hb : w.heap[g]? = some (.cells cur e fr)) :
    (grow (putRow id (Sort.ahead w n) g 0 d) os).heap[g]?=some (.cells (putCells id 0 d cur) e fr):=by
  have hg:g<w.heap.size:=(Array.getElem?_eq_some_iff.1 hb).1
  rw[heap_grow_old _ _ (by simpa using hg)]
  simp[putRow,mapBlock,Sort.ahead,Array.getElem?_modify,hb,onCells]
theorem acD {w:World} {g n:Nat} {os:Array Obj} (d:Array Value):w.grownBy (grow (putRow id (Sort.ahead w n) g 0 d) os) (some g):=by
 refine⟨rfl,rfl,rfl,by simp,fun k hk hne=>?_⟩
 rw[heap_grow_old _ _ (by simpa using hk)]
 have:g≠k:=fun e=>hne (by rw[e])
 simp[putRow,mapBlock,Sort.ahead,Array.getElem?_modify,this]
theorem aek (cur:Array Value) (ts:List Value) (h:ts.length≤cur.size):(putCells id 0 ts.toArray cur).toList.take ts.length=ts:=by
 apply List.ext_getElem?
 intro j
 by_cases hj:j<ts.length
 · rw[List.getElem?_take_of_lt hj,Array.getElem?_toList]
   simp[putCells,hj,show j<cur.size by omega]
 · rw[List.getElem?_take_eq_none (by omega),List.getElem?_eq_none (by omega)]
theorem ael {w : World} {base g cap n : Nat} {e : TypeId} {os : Array Obj} {cur : Array Value} {ss ts : List V3} (hl : ts.length = ss.length) (hbase : base ≤ g) (hb : w.heap[g]? = some (.cells cur e (0,0)))
    (h1:ss.length≤cap) (h2:cap≤maxLen) (h3:cur.size=cap*3) :
    (grow (putRow id (Sort.ahead w n) g 0 (cells ts).toArray) os).ownsRow base e 3 (.slice (some ⟨g,0,none⟩) ss.length cap) ss.length (cells ts) :=
  ⟨by rw[kM,hl],.inr ⟨g,cap,_,rfl,hbase,aej _ hb,h1,h2,by simp[putCells,h3],by
    rw[← hl,← kM];exact aek cur (cells ts) (by rw[kM];omega)⟩⟩
def Yy (cf:V3→V3→Int):Prop:=∀ (w:World) x y,Calls Tryz.prog 34 #[qI x,qI y] w fun e w'=>e=.returned (.int .i64 (cf x y))∧∃ q os',w'=grow (w.drewN q) os'
theorem aem:∀ w,(isAgg 43).run Tryz.prog w=.ok true w:=Tryz.isAgg43
theorem acE:∀ w,(Go.sizeOf 43).run Tryz.prog w=.ok 3 w:=Tryz.sizeOf43
theorem Jz (x:V3):∀ v∈cVal x,v.oneCell'=true:=by
 intro v hv
 simp only[cVal,List.mem_cons,List.not_mem_nil,or_false]at hv
 rcases hv with rfl | rfl | rfl<;>rfl
theorem acF {cf : V3 → V3 → Int} (hO : SWO (ltOf cf)) (hc : Yy cf) (g cap : Nat) (cur : Array Value) (ss : List V3) (w : World) (base : Nat) (hbase : base ≤ g) (hb : w.heap[g]? = some (.cells cur 43 (0,0))) (h1 : ss.length ≤ cap) (h2 : cap ≤ maxLen) (h3 : cur.size = cap * 3)
    (ht:cur.toList.take (ss.length*3)=cells ss) (hn:ss.length≤100000) :
    Calls Tryz.prog 63 #[.slice (some ⟨g,0,none⟩) ss.length cap,.func (.func 34) #[] #[]] w fun e w'=>e=.returned (.tuple #[])∧w'.ownsRow base 43 3 (.slice (some ⟨g,0,none⟩) ss.length cap) ss.length (cells (O7 cf ss))∧w.grownBy w' (some g):=by
  have call:=AnyQ.slices_SortFunc_eq Tryz.laysSort 3 aem acE cVal (fun _=>rfl) Jz cf hO 34 #[] g 0 cap ss.toArray w (enters_of Tryz.func34 rfl rfl) (fun _m _os _dk _ x y=>hc _ x y) (holdsV hb ht) (Array.getElem?_eq_some_iff.1 hb).1 (by simp;omega)
  have e34:Tryz.laysSort_ren.f 6=63:=rfl
  rw[e34]at call
  rw[show (ss.toArray).size=ss.length by simp]at call
  refine Calls.mono call fun e w' hp=>?_
  obtain⟨he,m,os,hw⟩:=hp
  have hsl:pdq (ltOf cf) ss.toArray 0 ss.length (Lib.bitLen ss.length) true true=(O7 cf ss).toArray:=by unfold O7;simp
  rw[hsl]at hw
  have hw2:w'=grow (putRow id (Sort.ahead w m) g 0 (cells (O7 cf ss)).toArray) os:=by
   rw[hw,← abx];rfl
  subst hw2
  exact⟨he,ael (QS hO ss) hbase hb h1 h2 h3,acD _⟩
set_option maxHeartbeats 1000000 in
theorem Yz {cf : V3 → V3 → Int} (hO : SWO (ltOf cf)) (hc : Yy cf) (Bm bo b : Nat) (ks : List V3) (hks : ks.length ≤ 100000) (w : World) (hBm : Bm < w.heap.size)
    (hm:w.cell? ⟨Bm,bo,none⟩=some (.map (some b))) (hown:MapKeys w b ks) :
    Calls Tryz.prog 32 #[.func (.func 64) #[] #[.pointer (some ⟨Bm,bo,none⟩)],.func (.func 34) #[] #[]] w fun e w'=>∃ (v:Value) (m:List V3),e=.returned v∧m.Perm ks∧(m.Pairwise fun x y=>ltOf cf y x=false)∧w'.ownsRow w.heap.size 43 3 v m.length (cells m)∧Below w.heap.size w w':=by
  refine(callsIn_wide (n:=6)).1 ?_
  refine callsIn_of_wp Tryz.func32 rfl trivial ?_ rfl
  simp only[Tryz.ntmps32,List.size_toArray,List.length_cons,List.length_nil,Nat.reduceAdd,Nat.reduceSub,Array.replicate_succ,Array.replicate_zero,List.push_toArray,List.append_toArray,List.nil_append,List.cons_append]
  have hN:ks.length≤maxLen:=Nat.le_trans hks (by decide)
  have ajd:=collect_in Fence.wide 5 trivial trivial rfl (by omega) 64 #[.pointer (some ⟨Bm,bo,none⟩)] trivial (enters_of Tryz.func64 rfl rfl) _ ks.length hN (by omega) w (keys_gives Fence.wide 3 trivial rfl (by omega) Bm bo b ks w hBm hm hown)
  have al7:Fence.wide.fn 62:=trivial
  have al8:Fence.wide.fn 63:=trivial
  gi_wp2_with (gi_at_call 62;refine ajd.mono ?_;rintro e W ⟨v,ss,rfl,hS,hrow,hnil,hb⟩)
  rcases hrow.2 with ⟨rfl,hz⟩ | ⟨gb,cap,cur,rfl,hbase,hgb,r1,r2,r3,r4⟩
  · have hss:ss=[]:=List.eq_nil_of_length_eq_zero hz
    subst hss
    have cS:CallsIn Fence.wide 5 Tryz.prog 63 #[.slice none 0 0,.func (.func 34) #[] #[]] W fun e w'=>e=.returned (.tuple #[])∧w'=W:=callsIn_wide.2 (AnyF.slices_SortFunc_none Tryz.laysSort none 0 (.func (.func 34) #[] #[]) W)
    gi_wp2_with (gi_at_call 63;refine cS.mono ?_;rintro e w' ⟨rfl,rfl⟩)
    go_ret
    exact⟨.slice none 0 0,[],rfl,hS,List.Pairwise.nil,hrow,hb⟩
  · have cS:=(callsIn_wide (n:=5)).2 (acF hO hc gb cap cur ss W w.heap.size hbase hgb r1 r2 r3 r4 (by rw[hS.length_eq];exact hks))
    gi_wp2_with (gi_at_call 63;refine cS.mono ?_;rintro e w' ⟨rfl,hrow2,hg⟩)
    go_ret
    obtain⟨p1,p2⟩:=NJ hO ss
    refine⟨_,O7 cf ss,rfl,p1.trans hS,p2,?_,hb.grown hg hb.size (fun j hj=>by cases hj;exact hbase)⟩
    rw[QS hO]
    exact hrow2
end Go.Skm
