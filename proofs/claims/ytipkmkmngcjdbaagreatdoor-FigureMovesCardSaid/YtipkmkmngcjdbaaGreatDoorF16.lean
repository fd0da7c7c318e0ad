/-
  What the program reads in a line: the shape with this text, if there is one; condition: the library's answers, a line that fits.
-/
import Derived.Test.YtipkmkmngcjdbaaGreatDoorF15
import Derived.Test.YtipkmkmngcjdbaaGreatDoorEqu
namespace Go.Skm.Fig
open Go Go.Skm
def aN (w:List UInt8):Int:=((Vz w).headD .undef).pv.toInt
def nx:List (List UInt8)→Int × List (List UInt8)
 | []=>(0,[])
 | x::r=>(aN x,r)
theorem Ai (w:List (List UInt8)):(nx w).2.length≤w.length:=by cases w<;>simp[nx]
theorem Aj {w:List (List UInt8)} {x:List UInt8} (h:x∈(nx w).2):x∈w:=by
 cases w with
 | nil=>simp[nx]at h
 | cons y r=>simp[nx]at h;simp[h]
def zV:Nat→List (List UInt8)→List V3
 | 0,_=>[]
 | _+1,[]=>[]
 | n+1,x::r=>⟨aN x,(nx r).1,(nx (nx r).2).1⟩::zV n (nx (nx r).2).2
def WW (w:List UInt8):Int:=if w=kw 5 then 5 else if w=kw 4 then 4 else if w=kw 3 then 3 else if w=kw 2 then 2 else if w=kw 1 then 1 else 0
def plP (w:List UInt8):Int:=(Lib.index TB w).tdiv 2
def JI (k:Int) (ws:List (List UInt8)):Int × Int × Int × Int × List (List UInt8) :=
 if k=2∨k=3 then((nx ws).1,0,0,0,(nx ws).2)
 else if k=4 then(match ws with
  | []=>(0,0,0,0,[])
  | x::r=>(0,(nx r).1,(nx (nx r).2).1,plP x,(nx (nx r).2).2))
 else if k=5 then(0,(nx ws).1,(nx (nx ws).2).1,0,(nx (nx ws).2).2)
 else(0,0,0,0,ws)
def aef (w0:List UInt8) (ws:List (List UInt8)):Sh :=
 let k:=WW w0
 let h:=JI k ws
 ⟨k,zV h.2.2.2.2.length h.2.2.2.2,h.1,h.2.1,h.2.2.1,h.2.2.2.1⟩
def Ak (l:List UInt8):Sh:=match dF 32 l with
 | []=>default
 | w::ws=>aef w ws
section
variable (X:Ext) (hX:Mine X) (hT:Texts X)
include hX
theorem aiW (k m r s p:Int):run tab X 54 [.p (.agg [.int .i64 k,.nil,.int .i64 m,.int .i64 r,.int .i64 s,.int .i64 p])] []=some ([.p (.bool false)],[]):=by
 refine bK (hX _ rfl) ?_
 rw[aiP]
 refine aW (c73 X hX k) ?_
 simp only[List.headD_cons,List.tail_cons,iP,bF,gu,List.getD_cons_succ,List.getD_cons_zero,toInt_int]
 have h:(bU k).ok=false∨0<(bU k).lo:=by
  unfold bU
  (repeat' split)<;>simp
 rcases h with h | h
 · rw[h];rfl
 · cases (bU k).ok with
   | false=>rfl
   | true =>
    refine bT (show (0:Int)<(bU k).lo from h) rfl
include hT
theorem c80 (w:List (List UInt8)) (h8:∀ x∈w,x.length≤100000000):run tab X 80 [.ptr 100000 0 0] [.box [.p (.list false [.str] (eW w))]]=some ([.p (.int .i64 (nx w).1)],[.box [.p (.list false [.str] (eW (nx w).2))]]):=by
 refine bK (hX _ rfl) ?_
 rw[e80,lY]
 cases w with
 | nil=>rfl
 | cons x r =>
  have h1:((((x::r).length:Nat):Int)==0)=false:=by rw[beq_eq_false_iff_ne];simp only[List.length_cons];omega
  rw[h1]
  simp only[cond_false]
  refine bT (show (0:Int)<(((x::r).length:Nat):Int) by simp only[List.length_cons];omega) ?_
  rw[O1 (l:=x::r) (i:=0) (by simp)]
  refine aW (hT.atoi x (h8 x (by simp))) ?_
  have h2:(leI (1:Int) (((x::r).length:Nat):Int)&&(leI (((x::r).length:Nat):Int) (((x::r).length:Nat):Int)&&leI (((x::r).length:Nat):Int) (((x::r).length:Nat):Int)))=true:=by
   simp only[List.length_cons,leI,Bool.and_eq_true,decide_eq_true_eq];omega
  rw[h2]
  simp only[cond_true]
  have e:((eW (x::r)).drop 1).take ((((x::r).length:Nat):Int)-1).toNat=eW r:=by
   rw[OZ,List.drop_succ_cons,List.drop_zero,List.take_of_length_le]
   simp only[lY,List.length_cons];omega
  rw[e]
  rfl
theorem TU (w:List (List UInt8)) (h8:∀ x∈w,x.length≤100000000) (xs:List PV) (he:xs=eW w):run tab X 80 [.ptr 100000 0 0] [.box [.p (.list false [.str] xs)]]=some ([.p (.int .i64 (nx w).1)],[.box [.p (.list false [.str] (eW (nx w).2))]]):=by
 rw[he];exact c80 X hX hT w h8
theorem l44b (l : List UInt8) (k m r s p : Int) : ∀ (n : Nat) (w : List (List UInt8)) (acc : List V3),w.length ≤ n → (∀ x ∈ w,x.length ≤ 100000000) → acc.length + n ≤ 200000000 →
    L tab (run tab X) 44 [] [.lp [1,1,1,1,1,1,1,1,1,1,0,0]] (jZ (ba l) 0 0 0 0 0 (eW w) k 0 acc.length m r s p (bJ acc))=some ([.p (eS ⟨k,acc++zV n w,m,r,s,p⟩),.p (.bool (FP ⟨k,acc++zV n w,m,r,s,p⟩&&decide (textS ⟨k,acc++zV n w,m,r,s,p⟩=l)))],[]):=by
  intro n
  induction n with
  | zero =>
   intro w acc hn h8 ha
   have hw:w=[]:=List.length_eq_zero_iff.1 (by omega)
   subst hw
   refine dQ ?_
   rw[tC]
   refine bM (show ¬ ((((eW []).length:Nat):Int) > 0) by simp) ?_
   rw[List.drop_zero,List.take_of_length_le (by simp),zV,List.append_nil]
   refine aW (c54 X hX ⟨k,acc,m,r,s,p⟩ (by show acc.length≤_;omega)) ?_
   simp only[List.headD_cons,iP,bF]
   cases hs:FP ⟨k,acc,m,r,s,p⟩ with
   | false=>rfl
   | true =>
    simp only[cond_true]
    refine aW (c40 X hX hT ⟨k,acc,m,r,s,p⟩ (EF.1 hs)) ?_
    simp only[List.headD_cons,iP,nG,TV,Bool.true_and,TW]
  | succ n ih =>
   intro w acc hn h8 ha
   cases w with
   | nil =>
    have:=ih [] acc (by simp) (by simp) (by omega)
    have e1:∀ m,zV m []=[]:=fun m=>by cases m<;>rfl
    rw[e1]at this ⊢
    exact this
   | cons x t =>
    refine dQ ?_
    rw[tC]
    refine bT (show ((((eW (x::t)).length:Nat):Int) > 0) by simp only[lY,List.length_cons];omega) ?_
    have h80:∀ y∈t,y.length≤100000000:=fun y hy=>h8 y (by simp[hy])
    have h81:∀ y∈(nx t).2,y.length≤100000000:=fun y hy=>h80 y (Aj hy)
    have h82:∀ y∈(nx (nx t).2).2,y.length≤100000000:=fun y hy=>h81 y (Aj hy)
    refine aW (c80 X hX hT (x::t) h8) ?_
    refine aW (TU X hX hT t h80 _ rfl) ?_
    refine aW (TU X hX hT (nx t).2 h81 _ rfl) ?_
    refine bT (p:=acc.length+1≤2147483648) (by omega) ?_
    have l1:=Ai t
    have l2:=Ai (nx t).2
    simp only[List.length_cons]at hn
    have:=ih (nx (nx t).2).2 (acc++[⟨aN x,(nx t).1,(nx (nx t).2).1⟩]) (by omega) h82 (by simp only[List.length_append,List.length_cons,List.length_nil];omega)
    rw[zV]
    simp only[List.append_assoc,List.cons_append,List.nil_append,List.length_append,List.length_cons,List.length_nil,Nat.zero_add]at this
    rw[← this]
    congr 2
    show _++[fB ⟨aN x,(nx t).1,(nx (nx t).2).1⟩]=_
    rw[List.drop_zero,List.take_of_length_le (by simp),YL,Hr]
theorem l44a (l : List UInt8) (k m r s p : Int) (w : List (List UInt8)) (hw : w.length ≤ 100000001) (h8 : ∀ x ∈ w,x.length ≤ 100000000) :
    ∃ v,L tab (run tab X) 44 [] [.lp [1,1,1,1,1,1,1,1,1,1,0,0]] (bV (ba l) 0 0 0 0 0 (eW w) k m r s p)=some ([.p v,.p (.bool (FP ⟨k,zV w.length w,m,r,s,p⟩&&decide (textS ⟨k,zV w.length w,m,r,s,p⟩=l)))],[]) ∧
     (FP ⟨k,zV w.length w,m,r,s,p⟩=true→v=eS ⟨k,zV w.length w,m,r,s,p⟩):=by
  cases w with
  | nil =>
   have hno:FP ⟨k,zV ([]:List (List UInt8)).length [],m,r,s,p⟩=false:=by
    cases h:FP ⟨k,zV ([]:List (List UInt8)).length [],m,r,s,p⟩ with
    | false=>rfl
    | true =>
     obtain⟨_,_,hh⟩:=EF.1 h
     simp[zV]at hh
   refine⟨.agg [.int .i64 k,.nil,.int .i64 m,.int .i64 r,.int .i64 s,.int .i64 p],dQ ?_,fun h=>by rw[hno]at h;cases h⟩
   rw[xO]
   refine bM (show ¬ ((((eW []).length:Nat):Int) > 0) by simp) ?_
   refine aW (aiW X hX k m r s p) ?_
   rw[hno]
   rfl
  | cons x t =>
   refine⟨eS ⟨k,zV (x::t).length (x::t),m,r,s,p⟩,dQ ?_,fun _=>rfl⟩
   rw[xO]
   refine bT (show ((((eW (x::t)).length:Nat):Int) > 0) by simp only[lY,List.length_cons];omega) ?_
   have h80:∀ y∈t,y.length≤100000000:=fun y hy=>h8 y (by simp[hy])
   have h81:∀ y∈(nx t).2,y.length≤100000000:=fun y hy=>h80 y (Aj hy)
   have h82:∀ y∈(nx (nx t).2).2,y.length≤100000000:=fun y hy=>h81 y (Aj hy)
   refine aW (c80 X hX hT (x::t) h8) ?_
   refine aW (TU X hX hT t h80 _ rfl) ?_
   refine aW (TU X hX hT (nx t).2 h81 _ rfl) ?_
   have l1:=Ai t
   have l2:=Ai (nx t).2
   simp only[List.length_cons]at hw
   have:=l44b X hX hT l k m r s p t.length (nx (nx t).2).2 [⟨aN x,(nx t).1,(nx (nx t).2).1⟩] (by omega) h82 (by simp only[List.length_cons,List.length_nil];omega)
   rw[List.length_cons,zV]
   exact this
end
end Go.Skm.Fig
