/-
  A machine that runs this program's functions on pure values, and the proof that what it returns is true of the program; no condition beside the hypotheses of each.
-/
import Derived.Test.YtipkmkmngcjdbaaGreatDoorSkmE
import Derived.Lib.SplitLaws
import Derived.Lib.AtoiAll
import Derived.Lib.ItoaMem
import Derived.Lib.IndexBytes
import Derived.Laws.Strings
import Derived.Test.YtipkmkmngcjdbaaGreatDoorSkmA
namespace Go.Skm
open Go.ChangeShapes Go.WideShapes
section
variable (P:Program)
def fieldsS (g:TypeId→Bool):Nat→List Field→Bool
 | _,[]=>true
 | o,f::r=>f.offset==o&&(g f.type&&fieldsS g (o+P.cellsOf f.type) r)
def sumS:List Field→Nat
 | []=>0
 | f::r=>P.cellsOf f.type+sumS r
def argS:Nat→TypeId→Bool
 | 0,_=>false
 | n+1,t =>
  match P.underlying t with
  | some (.int _)=>Nat.beq (P.cellsOf t) 1
  | some .bool=>Nat.beq (P.cellsOf t) 1
  | some .string=>Nat.beq (P.cellsOf t) 1
  | some (.slice e)=>argS n e&&(Nat.blt 0 (P.cellsOf e)&&Nat.beq (P.cellsOf t) 1)
  | some (.struct fs)=>fieldsS P (argS n) 0 fs.toList&&Nat.beq (P.cellsOf t) (sumS P fs.toList)
  | some (.array m e)=>argS n e&&Nat.beq (P.cellsOf t) (m*P.cellsOf e)
  | _=>false
theorem sumS_eq:∀ l:List Field,sumS P l=argT.sum P l
 | []=>by simp[sumS,argT.sum]
 | f::r=>by simp[sumS,argT.sum,sumS_eq r]
theorem argS_argT:∀ (n:Nat) (t:TypeId),argS P n t=true→argT P n t=true
 | 0,t,h=>by simp[argS]at h
 | n+1,t,h=>by
  unfold argS at h
  unfold argT
  split at h
  · rename_i k hu;rw[hu];exact h
  · rename_i hu;rw[hu];exact h
  · rename_i hu;rw[hu];exact h
  · rename_i e hu
    rw[hu]
    simp only[Bool.and_eq_true]at h ⊢
    exact⟨argS_argT n e h.1,h.2⟩
  · rename_i fs hu
    rw[hu]
    simp only[Bool.and_eq_true]at h ⊢
    rw[← sumS_eq]
    refine⟨?_,h.2⟩
    have key:∀ (l:List Field) (o:Nat),fieldsS P (argS P n) o l=true→argT.go P n o l=true:=by
     intro l
     induction l with
     | nil=>intro o _;simp[argT.go]
     | cons f r ih =>
      intro o hf
      simp only[fieldsS,Bool.and_eq_true]at hf
      simp only[argT.go,Bool.and_eq_true]
      exact⟨hf.1,argS_argT n _ hf.2.1,ih _ hf.2.2⟩
    exact key _ _ h.1
  · rename_i m e hu
    rw[hu]
    simp only[Bool.and_eq_true]at h ⊢
    exact⟨argS_argT n e h.1,h.2⟩
  · cases h
end
section
variable {H:Type} {enc:TypeId × Value→H} {P:Program}
theorem law_of {T : Tab} (ok : TabOk P T) {X : Ext} {gl : Option (List (Nat × Obj))} (hX : ExtOk P T gl X) {f : Nat} {fi : FI} (hf : tlook T.funcs f = some fi) {fn : Func} (hfn : fi.fn = fn) {tb : TypeId} (hres : fn.resultTypes = #[tb]) (hrets : fi.cfg.rets = [])
    (hub:P.underlying tb=some .bool) {s:ChangeSpec} (hvars:s.vars=[]) {W:World} {args:Array Value} {ds gs:List (DataW H)} {before:List MemPlace} {b0:Nat}
    (hval:∀ (j:Nat) t v,fn.params[j]?=some t→args[j]?=some v→Value.okWide P W .any b0 t v) (hW:DataW.Whole enc P fn.params.toList s.vars false W args.toList ds gs before)
    (hpar:fn.params.toList.all (argS P 8)=true) (hs:s.fn H ds={ results:=[.lit (.bool true)],args:=ds })
    (hgl:∀ p∈gl.getD [],p.1<W.heap.size∧W.heap[p.1]?=some p.2) (hrun:∀ xs,ArgsR P W (fun b=>b<W.heap.size) fn.params.toList args.toList xs→run T X f (xs.map .p) []=some ([.p (.bool true)],[])) :
    Calls P f args W fun e W'=>∃ v,e=.returned v∧s.post enc P fn false true false false W args v W' :=
  law_calls ok hX hf hfn hres hrets hub hvars hval hW (List.all_eq_true.2 fun t ht=>argS_argT P 8 t (List.all_eq_true.1 hpar t ht)) hs hgl hrun
end
end Go.Skm
namespace Go.Skm
def splitC (c:UInt8):List UInt8→List (List UInt8)
 | []=>[[]]
 | b::r=>if b=c then []::splitC c r else(match splitC c r with
  | p::ps=>(b::p)::ps
  | []=>[[b]])
def joinC (c:UInt8):List (List UInt8)→List UInt8
 | []=>[]
 | [p]=>p
 | p::q::r=>p++c::joinC c (q::r)
theorem splitC_ne (c:UInt8):∀ l,splitC c l≠[]
 | []=>by simp[splitC]
 | b::r=>by
  unfold splitC
  split
  · simp
  · split<;>simp
theorem splitC_none {c:UInt8}:∀ {l:List UInt8},c ∉ l→splitC c l=[l]
 | [],_=>rfl
 | b::r,h=>by
  have h1:b≠c:=fun e=>h (by simp[e])
  have h2:=splitC_none (c:=c) (l:=r) (fun e=>h (List.mem_cons_of_mem _ e))
  rw[splitC,if_neg h1,h2]
theorem splitC_app {c:UInt8} (y:List UInt8):∀ {x:List UInt8},c ∉ x→splitC c (x++c::y)=x::splitC c y
 | [],_=>by simp[splitC]
 | b::r,h=>by
  have h1:b≠c:=fun e=>h (by simp[e])
  have h2:=splitC_app (c:=c) y (x:=r) (fun e=>h (List.mem_cons_of_mem _ e))
  rw[List.cons_append]
  rw[splitC,if_neg h1,h2]
theorem splitC_length (c:UInt8):∀ l,(splitC c l).length≤l.length+1
 | []=>by simp[splitC]
 | b::r=>by
  have ih:=splitC_length c r
  unfold splitC
  split
  · simp only[List.length_cons];omega
  · split
    · next q qs hq=>rw[hq]at ih;simp only[List.length_cons]at ih ⊢;omega
    · simp
theorem splitC_piece {c:UInt8}:∀ {l p:List UInt8},p∈splitC c l→p.length≤l.length
 | [],p,h=>by
  simp only[splitC,List.mem_singleton]at h
  subst h;simp
 | b::r,p,h=>by
  have ih:=fun q=>splitC_piece (c:=c) (l:=r) (p:=q)
  unfold splitC at h
  split at h
  · rcases List.mem_cons.1 h with rfl | h
    · simp
    · have:=ih p h;simp only[List.length_cons];omega
  · split at h
    · next q qs hq =>
      rw[hq]at ih
      rcases List.mem_cons.1 h with rfl | h
      · have:=ih q (by simp);simp only[List.length_cons];omega
      · have:=ih p (by simp[h]);simp only[List.length_cons];omega
    · next hq=>exact absurd hq (splitC_ne c r)
theorem index_none {s:List UInt8} {c:UInt8} (h:Lib.index s [c]=-1):c ∉ s:=by
 rw[Lib.index_one]at h
 intro hc
 obtain⟨i,hi⟩:=List.mem_iff_getElem?.1 hc
 exact Lib.indexByte_none h i hi
theorem index_some {s:List UInt8} {c:UInt8} {i:Nat} (h:Lib.index s [c]=i):s=s.take i++c::s.drop (i+1)∧c ∉ s.take i:=by
 rw[Lib.index_one]at h
 obtain⟨h1,h2⟩:=Lib.indexByte_some h
 obtain⟨hi,h3⟩:=List.getElem?_eq_some_iff.1 h1
 refine⟨?_,fun hc=>?_⟩
 · have h4:=List.drop_eq_getElem_cons hi
   rw[h3]at h4
   rw[← h4,List.take_append_drop]
 · obtain⟨j,hj⟩:=List.mem_iff_getElem?.1 hc
   rw[List.getElem?_take]at hj
   split at hj
   · next hlt=>exact h2 j hlt hj
   · cases hj
theorem split_eq (c:UInt8):∀ (n:Nat) (s:List UInt8),s.length≤n→Lib.splitK [c] 0 (Lib.count s [c]) s=splitC c s:=by
 intro n
 induction n with
 | zero =>
  intro s h
  have:s=[]:=List.eq_nil_of_length_eq_zero (by omega)
  subst this
  have:Lib.index [] [c]=-1:=rfl
  rw[Lib.count_miss this];rfl
 | succ n ih =>
  intro s h
  by_cases hm:Lib.index s [c]=-1
  · rw[Lib.count_miss hm,splitC_none (index_none hm)];rfl
  · have hge:=Lib.index_ge s [c]
    obtain⟨i,hi⟩:=Int.eq_ofNat_of_zero_le (show 0≤Lib.index s [c] by omega)
    obtain⟨h1,h2⟩:=index_some hi
    have hlen:i<s.length:=by
     have:=congrArg List.length h1
     simp only[List.length_append,List.length_take,List.length_cons,List.length_drop]at this
     omega
    rw[Lib.count_hit (by simp) hi,Nat.add_comm,Lib.splitK]
    have hne:¬ ((Lib.index s [c]==-1)=true):=by simpa using hm
    have e:(Lib.index s [c]).toNat=i:=by omega
    rw[if_neg hne,e,Nat.add_zero]
    have hd:(s.drop (i+[c].length)).length≤n:=by simp;omega
    rw[ih _ hd]
    conv=>rhs;rw[h1]
    rw[splitC_app _ h2];rfl
theorem splitB_eq (c:UInt8) (s:ByteArray):Lib.splitB ⟨#[c]⟩ 0 (Lib.countB s ⟨#[c]⟩) s=(splitC c s.data.toList).map fun l=>⟨l.toArray⟩:=by
 have h:=Lib.splitB_data ⟨#[c]⟩ 0 (Lib.countB s ⟨#[c]⟩) s
 have h2:=split_eq c _ s.data.toList (Nat.le_refl _)
 have e:(ByteArray.mk #[c]).data.toList=[c]:=rfl
 rw[e]at h
 unfold Lib.countB at h ⊢
 rw[e]at h ⊢
 rw[h2]at h
 rw[← h,List.map_map]
 have:∀ l:List ByteArray,l=l.map ((fun l=>ByteArray.mk l.toArray) ∘ fun b=>b.data.toList):=by
  intro l
  induction l with
  | nil=>rfl
  | cons b l ih=>rw[List.map_cons,← ih];rfl
 exact this _
theorem digit_toNat {k:Nat} (h:k<10):(UInt8.ofNat (48+k)).toNat=48+k:=by
 rw[UInt8.toNat_ofNat'];omega
theorem decDigits_digit {u:Nat}:∀ b∈Lib.decDigits u,48≤b.toNat∧b.toNat≤57:=by
 induction u using Nat.strongRecOn with
 | ind u ih =>
  intro b hb
  rw[Lib.decDigits]at hb
  split at hb
  · next h =>
    simp only[List.mem_singleton]at hb
    subst hb
    rw[digit_toNat h];omega
  · next h =>
    rcases List.mem_append.1 hb with hb | hb
    · exact ih (u / 10) (by omega) b hb
    · simp only[List.mem_singleton]at hb
      subst hb
      rw[digit_toNat (by omega)];omega
theorem decDigits_split {u:Nat} (h:10≤u):Lib.decDigits u=Lib.decDigits (u / 10)++Lib.decDigits (u%10):=by
 conv=>lhs;rw[Lib.decDigits]
 rw[dif_neg (by omega)]
 congr 1
 rw[Lib.decDigits,dif_pos (by omega)]
theorem itoa_byte {n:Int}:∀ b∈Lib.itoa n,b.toNat=45∨(48≤b.toNat∧b.toNat≤57):=by
 intro b hb
 unfold Lib.itoa at hb
 split at hb
 · rcases List.mem_cons.1 hb with rfl | hb
   · exact .inl rfl
   · exact .inr (decDigits_digit b hb)
 · exact .inr (decDigits_digit b hb)
theorem itoa_nat {n:Int} (h:0≤n):Lib.itoa n=Lib.decDigits n.toNat:=by
 unfold Lib.itoa
 rw[if_neg (by omega)]
theorem ba_eq {a b:ByteArray}:a=b↔a.data.toList=b.data.toList:=by
 constructor
 · rintro rfl;rfl
 · intro h
   cases a with | mk a=>cases b with | mk b =>
    simp only at h
    rw[show a=b from by rw[← Array.toArray_toList (xs:=a),h,Array.toArray_toList]]
theorem ba_beq (a b:ByteArray):(a.toList==b.toList)=decide (a=b):=by
 rw[ByteArray.toList_eq,ByteArray.toList_eq]
 by_cases h:a=b
 · subst h;simp
 · have:a.data.toList≠b.data.toList:=fun e=>h (ba_eq.2 e)
   rw[show (a.data.toList==b.data.toList)=false from by simpa using this,show decide (a=b)=false from by simpa using h]
def ba (l:List UInt8):ByteArray:=⟨l.toArray⟩
@[simp] theorem ba_data (l:List UInt8):(ba l).data.toList=l:=rfl
theorem ba_size (l:List UInt8):(ba l).size=l.length:=rfl
theorem ba_append (x y:List UInt8):ba x++ba y=ba (x++y):=by
 rw[ba_eq]
 simp[ba]
theorem ba_inj {x y:List UInt8}:ba x=ba y↔x=y:=by rw[ba_eq];simp
def atoiR (l:List UInt8):List AV:=match Lib.atoiAll l with
 | .ok v=>[.p (.int .i64 v),.p .nilif]
 | .range=>[.p (.int .i64 (Lib.atoiSat l)),.p .ifc]
 | _=>[.p (.int .i64 0),.p .ifc]
section
variable {α β γ:Type}
theorem bindS {o:Option β} {r:β} {f:β→Option γ} {x:Option γ} (h:o=some r) (h2:f r=x):o.bind f=x:=by rw[h];exact h2
theorem condT {c:Bool} {a b x:α} (h:c=true) (h2:a=x):cond c a b=x:=by rw[h];exact h2
theorem condF {c:Bool} {a b x:α} (h:c=false) (h2:b=x):cond c a b=x:=by rw[h];exact h2
theorem condP {p:Prop} {i:Decidable p} {a b x:α} (h:p) (h2:a=x):cond (@decide p i) a b=x:=by rw[decide_eq_true h];exact h2
theorem condNP {p:Prop} {i:Decidable p} {a b x:α} (h:¬ p) (h2:b=x):cond (@decide p i) a b=x:=by rw[decide_eq_false h];exact h2
end
end Go.Skm
