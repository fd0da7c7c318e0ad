/-
  A machine that runs this program's functions on pure values, and the proof that what it returns is true of the program; no condition beside the hypotheses of each.
-/
import Derived.Test.YtipkmkmngcjdbaaGreatDoorSkmE
import Derived.Lib.SplitLaws
import Derived.Lib.AtoiAll
import Derived.Lib.ItoaMem
import Derived.Lib.IndexBytes
import Derived.Laws.Strings
import Derived.Test.YtipkmkmngcjdbaaGreatDoorSkmA
namespace Go.Skm
open Go.ChangeShapes Go.WideShapes
section
variable (P:Program)
def Jf (g:TypeId→Bool):Nat→List Field→Bool
 | _,[]=>true
 | o,f::r=>f.offset==o&&(g f.type&&Jf g (o+P.cellsOf f.type) r)
def Z7:List Field→Nat
 | []=>0
 | f::r=>P.cellsOf f.type+Z7 r
def QW:Nat→TypeId→Bool
 | 0,_=>false
 | n+1,t =>
  match P.underlying t with
  | some (.int _)=>Nat.beq (P.cellsOf t) 1
  | some .bool=>Nat.beq (P.cellsOf t) 1
  | some .string=>Nat.beq (P.cellsOf t) 1
  | some (.slice e)=>QW n e&&(Nat.blt 0 (P.cellsOf e)&&Nat.beq (P.cellsOf t) 1)
  | some (.struct fs)=>Jf P (QW n) 0 fs.toList&&Nat.beq (P.cellsOf t) (Z7 P fs.toList)
  | some (.array m e)=>QW n e&&Nat.beq (P.cellsOf t) (m*P.cellsOf e)
  | _=>false
theorem V6:∀ l:List Field,Z7 P l=kN.sum P l
 | []=>by simp[Z7,kN.sum]
 | f::r=>by simp[Z7,kN.sum,V6 r]
theorem BI:∀ (n:Nat) (t:TypeId),QW P n t=true→kN P n t=true
 | 0,t,h=>by simp[QW]at h
 | n+1,t,h=>by
  unfold QW at h
  unfold kN
  split at h
  · rename_i k hu;rw[hu];exact h
  · rename_i hu;rw[hu];exact h
  · rename_i hu;rw[hu];exact h
  · rename_i e hu
    rw[hu]
    simp only[Bool.and_eq_true]at h ⊢
    exact⟨BI n e h.1,h.2⟩
  · rename_i fs hu
    rw[hu]
    simp only[Bool.and_eq_true]at h ⊢
    rw[← V6]
    refine⟨?_,h.2⟩
    have key:∀ (l:List Field) (o:Nat),Jf P (QW P n) o l=true→kN.go P n o l=true:=by
     intro l
     induction l with
     | nil=>intro o _;simp[kN.go]
     | cons f r ih =>
      intro o hf
      simp only[Jf,Bool.and_eq_true]at hf
      simp only[kN.go,Bool.and_eq_true]
      exact⟨hf.1,BI n _ hf.2.1,ih _ hf.2.2⟩
    exact key _ _ h.1
  · rename_i m e hu
    rw[hu]
    simp only[Bool.and_eq_true]at h ⊢
    exact⟨BI n e h.1,h.2⟩
  · cases h
end
section
variable {H:Type} {enc:TypeId × Value→H} {P:Program}
end
end Go.Skm
namespace Go.Skm
def dF (c:UInt8):List UInt8→List (List UInt8)
 | []=>[[]]
 | b::r=>if b=c then []::dF c r else(match dF c r with
  | p::ps=>(b::p)::ps
  | []=>[[b]])
def rU (c:UInt8):List (List UInt8)→List UInt8
 | []=>[]
 | [p]=>p
 | p::q::r=>p++c::rU c (q::r)
theorem F9 (c:UInt8):∀ l,dF c l≠[]
 | []=>by simp[dF]
 | b::r=>by
  unfold dF
  split
  · simp
  · split<;>simp
theorem Am {c:UInt8}:∀ {l:List UInt8},c ∉ l→dF c l=[l]
 | [],_=>rfl
 | b::r,h=>by
  have h1:b≠c:=fun e=>h (by simp[e])
  have h2:=Am (c:=c) (l:=r) (fun e=>h (List.mem_cons_of_mem _ e))
  rw[dF,if_neg h1,h2]
theorem Dy {c:UInt8} (y:List UInt8):∀ {x:List UInt8},c ∉ x→dF c (x++c::y)=x::dF c y
 | [],_=>by simp[dF]
 | b::r,h=>by
  have h1:b≠c:=fun e=>h (by simp[e])
  have h2:=Dy (c:=c) y (x:=r) (fun e=>h (List.mem_cons_of_mem _ e))
  rw[List.cons_append]
  rw[dF,if_neg h1,h2]
theorem CX (c:UInt8):∀ l,(dF c l).length≤l.length+1
 | []=>by simp[dF]
 | b::r=>by
  have ih:=CX c r
  unfold dF
  split
  · simp only[List.length_cons];omega
  · split
    · next q qs hq=>rw[hq]at ih;simp only[List.length_cons]at ih ⊢;omega
    · simp
theorem EH {c:UInt8}:∀ {l p:List UInt8},p∈dF c l→p.length≤l.length
 | [],p,h=>by
  simp only[dF,List.mem_singleton]at h
  subst h;simp
 | b::r,p,h=>by
  have ih:=fun q=>EH (c:=c) (l:=r) (p:=q)
  unfold dF at h
  split at h
  · rcases List.mem_cons.1 h with rfl | h
    · simp
    · have:=ih p h;simp only[List.length_cons];omega
  · split at h
    · next q qs hq =>
      rw[hq]at ih
      rcases List.mem_cons.1 h with rfl | h
      · have:=ih q (by simp);simp only[List.length_cons];omega
      · have:=ih p (by simp[h]);simp only[List.length_cons];omega
    · next hq=>exact absurd hq (F9 c r)
theorem index_none {s:List UInt8} {c:UInt8} (h:Lib.index s [c]=-1):c ∉ s:=by
 rw[Lib.index_one]at h
 intro hc
 obtain⟨i,hi⟩:=List.mem_iff_getElem?.1 hc
 exact Lib.indexByte_none h i hi
theorem U7 {s:List UInt8} {c:UInt8} {i:Nat} (h:Lib.index s [c]=i):s=s.take i++c::s.drop (i+1)∧c ∉ s.take i:=by
 rw[Lib.index_one]at h
 obtain⟨h1,h2⟩:=Lib.indexByte_some h
 obtain⟨hi,h3⟩:=List.getElem?_eq_some_iff.1 h1
 refine⟨?_,fun hc=>?_⟩
 · have h4:=List.drop_eq_getElem_cons hi
   rw[h3]at h4
   rw[← h4,List.take_append_drop]
 · obtain⟨j,hj⟩:=List.mem_iff_getElem?.1 hc
   rw[List.getElem?_take]at hj
   split at hj
   · next hlt=>exact h2 j hlt hj
   · cases hj
theorem Z8 (c:UInt8):∀ (n:Nat) (s:List UInt8),s.length≤n→Lib.splitK [c] 0 (Lib.count s [c]) s=dF c s:=by
 intro n
 induction n with
 | zero =>
  intro s h
  have:s=[]:=List.eq_nil_of_length_eq_zero (by omega)
  subst this
  have:Lib.index [] [c]=-1:=rfl
  rw[Lib.count_miss this];rfl
 | succ n ih =>
  intro s h
  by_cases hm:Lib.index s [c]=-1
  · rw[Lib.count_miss hm,Am (index_none hm)];rfl
  · have hge:=Lib.index_ge s [c]
    obtain⟨i,hi⟩:=Int.eq_ofNat_of_zero_le (show 0≤Lib.index s [c] by omega)
    obtain⟨h1,h2⟩:=U7 hi
    have hlen:i<s.length:=by
     have:=congrArg List.length h1
     simp only[List.length_append,List.length_take,List.length_cons,List.length_drop]at this
     omega
    rw[Lib.count_hit (by simp) hi,Nat.add_comm,Lib.splitK]
    have hne:¬ ((Lib.index s [c]==-1)=true):=by simpa using hm
    have e:(Lib.index s [c]).toNat=i:=by omega
    rw[if_neg hne,e,Nat.add_zero]
    have hd:(s.drop (i+[c].length)).length≤n:=by simp;omega
    rw[ih _ hd]
    conv=>rhs;rw[h1]
    rw[Dy _ h2];rfl
theorem OB (c:UInt8) (s:ByteArray):Lib.splitB ⟨#[c]⟩ 0 (Lib.countB s ⟨#[c]⟩) s=(dF c s.data.toList).map fun l=>⟨l.toArray⟩:=by
 have h:=Lib.splitB_data ⟨#[c]⟩ 0 (Lib.countB s ⟨#[c]⟩) s
 have h2:=Z8 c _ s.data.toList (Nat.le_refl _)
 have e:(ByteArray.mk #[c]).data.toList=[c]:=rfl
 rw[e]at h
 unfold Lib.countB at h ⊢
 rw[e]at h ⊢
 rw[h2]at h
 rw[← h,List.map_map]
 have:∀ l:List ByteArray,l=l.map ((fun l=>ByteArray.mk l.toArray) ∘ fun b=>b.data.toList):=by
  intro l
  induction l with
  | nil=>rfl
  | cons b l ih=>rw[List.map_cons,← ih];rfl
 exact this _
theorem IJ {k:Nat} (h:k<10):(UInt8.ofNat (48+k)).toNat=48+k:=by
 rw[UInt8.toNat_ofNat'];omega
theorem zO {u:Nat}:∀ b∈Lib.decDigits u,48≤b.toNat∧b.toNat≤57:=by
 induction u using Nat.strongRecOn with
 | ind u ih =>
  intro b hb
  rw[Lib.decDigits]at hb
  split at hb
  · next h =>
    simp only[List.mem_singleton]at hb
    subst hb
    rw[IJ h];omega
  · next h =>
    rcases List.mem_append.1 hb with hb | hb
    · exact ih (u / 10) (by omega) b hb
    · simp only[List.mem_singleton]at hb
      subst hb
      rw[IJ (by omega)];omega
theorem zC {u:Nat} (h:10≤u):Lib.decDigits u=Lib.decDigits (u / 10)++Lib.decDigits (u%10):=by
 conv=>lhs;rw[Lib.decDigits]
 rw[dif_neg (by omega)]
 congr 1
 rw[Lib.decDigits,dif_pos (by omega)]
theorem WY {n:Int}:∀ b∈Lib.itoa n,b.toNat=45∨(48≤b.toNat∧b.toNat≤57):=by
 intro b hb
 unfold Lib.itoa at hb
 split at hb
 · rcases List.mem_cons.1 hb with rfl | hb
   · exact .inl rfl
   · exact .inr (zO b hb)
 · exact .inr (zO b hb)
theorem JL {n:Int} (h:0≤n):Lib.itoa n=Lib.decDigits n.toNat:=by
 unfold Lib.itoa
 rw[if_neg (by omega)]
theorem ba_eq {a b:ByteArray}:a=b↔a.data.toList=b.data.toList:=by
 constructor
 · rintro rfl;rfl
 · intro h
   cases a with | mk a=>cases b with | mk b =>
    simp only at h
    rw[show a=b from by rw[← Array.toArray_toList (xs:=a),h,Array.toArray_toList]]
theorem TV (a b:ByteArray):(a.toList==b.toList)=decide (a=b):=by
 rw[ByteArray.toList_eq,ByteArray.toList_eq]
 by_cases h:a=b
 · subst h;simp
 · have:a.data.toList≠b.data.toList:=fun e=>h (ba_eq.2 e)
   rw[show (a.data.toList==b.data.toList)=false from by simpa using this,show decide (a=b)=false from by simpa using h]
def ba (l:List UInt8):ByteArray:=⟨l.toArray⟩
@[simp] theorem aay (l:List UInt8):(ba l).data.toList=l:=rfl
theorem yP (l:List UInt8):(ba l).size=l.length:=rfl
theorem Nz (x y:List UInt8):ba x++ba y=ba (x++y):=by
 rw[ba_eq]
 simp[ba]
theorem TW {x y:List UInt8}:ba x=ba y↔x=y:=by rw[ba_eq];simp
def Vz (l:List UInt8):List AV:=match Lib.atoiAll l with
 | .ok v=>[.p (.int .i64 v),.p .oO]
 | .range=>[.p (.int .i64 (Lib.atoiSat l)),.p .Xf]
 | _=>[.p (.int .i64 0),.p .Xf]
section
variable {α β γ:Type}
theorem aW {o:Option β} {r:β} {f:β→Option γ} {x:Option γ} (h:o=some r) (h2:f r=x):o.bind f=x:=by rw[h];exact h2
theorem jV {c:Bool} {a b x:α} (h:c=true) (h2:a=x):cond c a b=x:=by rw[h];exact h2
theorem Hl {c:Bool} {a b x:α} (h:c=false) (h2:b=x):cond c a b=x:=by rw[h];exact h2
theorem bT {p:Prop} {i:Decidable p} {a b x:α} (h:p) (h2:a=x):cond (@decide p i) a b=x:=by rw[decide_eq_true h];exact h2
theorem bM {p:Prop} {i:Decidable p} {a b x:α} (h:¬ p) (h2:b=x):cond (@decide p i) a b=x:=by rw[decide_eq_false h];exact h2
end
end Go.Skm
