import Derived.Test.YtfmoopdnamdobaaDoorSkmF
import Derived.Lib.SplitLaws
import Derived.Lib.AtoiAll
import Derived.Lib.ItoaMem
import Derived.Lib.IndexBytes
import Derived.Laws.Strings
import Derived.Test.YtfmoopdnamdobaaDoorSkmA
namespace Go.Skm
open Go.ChangeShapes Go.WideShapes
section
variable (P:Program)
def JM (g:TypeId→Bool):Nat→List Field→Bool
 | _,[]=>true
 | o,f::r=>f.offset==o&&(g f.type&&JM g (o+P.cellsOf f.type) r)
def aaj:List Field→Nat
 | []=>0
 | f::r=>P.cellsOf f.type+aaj r
def Ub:Nat→TypeId→Bool
 | 0,_=>false
 | n+1,t =>
  match P.underlying t with
  | some (.int _)=>Nat.beq (P.cellsOf t) 1
  | some .bool=>Nat.beq (P.cellsOf t) 1
  | some .string=>Nat.beq (P.cellsOf t) 1
  | some (.slice e)=>Ub n e&&(Nat.blt 0 (P.cellsOf e)&&Nat.beq (P.cellsOf t) 1)
  | some (.struct fs)=>JM P (Ub n) 0 fs.toList&&Nat.beq (P.cellsOf t) (aaj P fs.toList)
  | some (.array m e)=>Ub n e&&Nat.beq (P.cellsOf t) (m*P.cellsOf e)
  | _=>false
theorem WT:∀ l:List Field,aaj P l=kJ.sum P l
 | []=>by simp[aaj,kJ.sum]
 | f::r=>by simp[aaj,kJ.sum,WT r]
theorem Dy:∀ (n:Nat) (t:TypeId),Ub P n t=true→kJ P n t=true
 | 0,t,h=>by simp[Ub]at h
 | n+1,t,h=>by
  unfold Ub at h
  unfold kJ
  split at h
  · rename_i k hu;rw[hu];exact h
  · rename_i hu;rw[hu];exact h
  · rename_i hu;rw[hu];exact h
  · rename_i e hu
    rw[hu]
    simp only[qBa]at h ⊢
    exact⟨Dy n e h.1,h.2⟩
  · rename_i fs hu
    rw[hu]
    simp only[qBa]at h ⊢
    rw[← WT]
    refine⟨?_,h.2⟩
    have key:∀ (l:List Field) (o:Nat),JM P (Ub P n) o l=true→kJ.go P n o l=true:=by
     intro l
     induction l with
     | nil=>intro o _;simp[kJ.go]
     | cons f r ih =>
      intro o hf
      simp only[JM,qBa]at hf
      simp only[kJ.go,qBa]
      exact⟨hf.1,Dy n _ hf.2.1,ih _ hf.2.2⟩
    exact key _ _ h.1
  · rename_i m e hu
    rw[hu]
    simp only[qBa]at h ⊢
    exact⟨Dy n e h.1,h.2⟩
  · cases h
end
section
variable {H:Type} {enc:TypeId × Value→H} {P:Program}
end
end Go.Skm
namespace Go.Skm
theorem dn {u:Nat} (h:10≤u):Lib.decDigits u=Lib.decDigits (u / 10)++Lib.decDigits (u%10):=by
 conv=>lhs;rw[Lib.decDigits]
 rw[dif_neg (by omega)]
 congr 1
 rw[Lib.decDigits,dif_pos (by omega)]
theorem yU {n:Int} (h:0≤n):Lib.itoa n=Lib.decDigits n.toNat:=by
 unfold Lib.itoa
 rw[if_neg (by omega)]
theorem ba_eq {a b:ByteArray}:a=b↔a.data.toList=b.data.toList:=by
 constructor
 · rintro rfl;rfl
 · intro h
   cases a with | mk a=>cases b with | mk b =>
    simp only at h
    rw[show a=b from by rw[← Array.toArray_toList (xs:=a),h,Array.toArray_toList]]
theorem Ew (a b:ByteArray):(a.toList==b.toList)=decide (a=b):=by
 rw[ByteArray.toList_eq,ByteArray.toList_eq]
 by_cases h:a=b
 · subst h;simp
 · have:a.data.toList≠b.data.toList:=fun e=>h (ba_eq.2 e)
   rw[show (a.data.toList==b.data.toList)=false from by simpa using this,show decide (a=b)=false from by simpa using h]
def ba (l:List UInt8):ByteArray:=⟨l.toArray⟩
@[simp] theorem ai5 (l:List UInt8):(ba l).data.toList=l:=rfl
theorem oh (l:List UInt8):(ba l).size=l.length:=rfl
theorem Xm (x y:List UInt8):ba x++ba y=ba (x++y):=by
 rw[ba_eq]
 simp[ba]
theorem xq {x y:List UInt8}:ba x=ba y↔x=y:=by rw[ba_eq];simp
section
variable {α β γ:Type}
theorem nG {o:Option β} {r:β} {f:β→Option γ} {x:Option γ} (h:o=some r) (h2:f r=x):o.bind f=x:=by rw[h];exact h2
theorem OD {c:Bool} {a b x:α} (h:c=true) (h2:a=x):cond c a b=x:=by rw[h];exact h2
theorem oN {c:Bool} {a b x:α} (h:c=false) (h2:b=x):cond c a b=x:=by rw[h];exact h2
theorem RZ {p:Prop} {i:Decidable p} {a b x:α} (h:p) (h2:a=x):cond (@decide p i) a b=x:=by rw[decide_eq_true h];exact h2
theorem akm {p:Prop} {i:Decidable p} {a b x:α} (h:p) (h2:a=x):@ite α p i a b=x:=by rw[if_pos h];exact h2
end
end Go.Skm
