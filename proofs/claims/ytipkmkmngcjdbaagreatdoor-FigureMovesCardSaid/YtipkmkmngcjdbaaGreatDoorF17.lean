/-
  A line is read as the valid shape that has it as its text, by the program; condition: the library's answers, a line that fits.
-/
import Derived.Test.YtipkmkmngcjdbaaGreatDoorF16
namespace Go.Skm.Fig
open Go Go.Skm
theorem WX (x:List UInt8):-10≤plP x∧plP x≤10:=by
 unfold plP
 rcases Lib.index_spec TB x with ⟨e,_⟩ | ⟨i,e,h,_⟩
 · rw[e];decide
 · have hl : i ≤ 6 := by
     have:=h
     simp only[TB,List.length_cons,List.length_nil]at this
     omega
   rw[e]
   have:(i:Int).tdiv 2=((i / 2:Nat):Int):=by rw[Int.tdiv_eq_ediv_of_nonneg (by omega)];rfl
   rw[this];omega
abbrev YM (l w0:List UInt8) (ws:List (List UInt8)) (κ j:Int):St:=rE (ba l) j 0 0 0 0 0 (eW (w0::ws)) κ 0 0 0 0 (bU κ).w (bU κ).lo (bU κ).hi (bU κ).many (bU κ).round (bU κ).xI
theorem QI {j:Int} (h:1≤j∧j≤5):(bU j).w=ba (kw j):=by
 have h:j=1∨j=2∨j=3∨j=4∨j=5:=by omega
 rcases h with rfl | rfl | rfl | rfl | rfl<;>rfl
section
variable (X:Ext) (hX:Mine X) (hT:Texts X)
include hX
theorem YN (l w0 : List UInt8) (ws : List (List UInt8)) (κ : Int) {j : Int} (hj : 1 ≤ j ∧ j ≤ 5) {res : List AV × List aI} (h : L tab (run tab X) 44 [] [.lp [1,1,1,1,0,1,0]] (YM l w0 ws (if w0 = kw j then j else κ) (j + 1)) = some res) :
    L tab (run tab X) 44 [] [.lp [1,1,1,1,0,1,0]] (YM l w0 ws κ j)=some res:=by
  refine dQ ?_
  have w1:IntKind.i64.wrap (j+1)=j+1:=wrap_eq (by omega) (by omega)
  rw[lq,w1]
  refine bT hj.2 ?_
  refine aW (c73 X hX j) ?_
  simp only[List.headD_cons,iP,bF,gu,List.getD_cons_succ,List.getD_cons_zero,toInt_int,nG,lY]
  refine bT (show (0:Int)<(((w0::ws).length:Nat):Int) by simp only[List.length_cons];omega) ?_
  rw[O1 (l:=w0::ws) (i:=0) (by simp),QI hj,TV]
  simp only[l7,TW,List.getElem_cons_zero]
  by_cases hw:kw j=w0
  · rw[if_pos hw]
    rw[if_pos hw.symm]at h
    rw[← QI hj]
    exact h
  · rw[if_neg hw]
    rw[if_neg fun e=>hw e.symm]at h
    exact h
include hT
theorem aiY (l w0 : List UInt8) (ws : List (List UInt8)) (hw : ws.length ≤ 100000000) (h8 : ∀ x ∈ ws,x.length ≤ 100000000) (κ : Int) (hκ : κ = 0 ∨ κ = 1 ∨ κ = 2 ∨ κ = 3 ∨ κ = 4 ∨ κ = 5) {S : Sh}
    (hS:S=⟨κ,zV (JI κ ws).2.2.2.2.length (JI κ ws).2.2.2.2,(JI κ ws).1,(JI κ ws).2.1,(JI κ ws).2.2.1,(JI κ ws).2.2.2.1⟩) :
    ∃ v,L tab (run tab X) 44 [] [.lp [1,1,1,1,0,1,0]] (YM l w0 ws κ 6)=some ([.p v,.p (.bool (FP S&&decide (textS S=l)))],[])∧(FP S=true→v=eS S):=by
  have e:((eW (w0::ws)).drop 1).take ((((eW (w0::ws)).length:Nat):Int)-1).toNat=eW ws:=by
   rw[OZ,List.drop_succ_cons,List.drop_zero,List.take_of_length_le]
   simp only[lY,List.length_cons];omega
  have hlen:(leI (1:Int) (((eW (w0::ws)).length:Nat):Int)&&(leI (((eW (w0::ws)).length:Nat):Int) (((eW (w0::ws)).length:Nat):Int)&&leI (((eW (w0::ws)).length:Nat):Int) (((eW (w0::ws)).length:Nat):Int)))=true:=by
   simp only[lY,List.length_cons,leI,Bool.and_eq_true,decide_eq_true_eq];omega
  have n1:∀ y∈(nx ws).2,y.length≤100000000:=fun y hy=>h8 y (Aj hy)
  have n2:∀ y∈(nx (nx ws).2).2,y.length≤100000000:=fun y hy=>n1 y (Aj hy)
  have m1:=Ai ws
  have m2:=Ai (nx ws).2
  have step:∀ {x:Option (List AV × List aI)} {res:List AV × List aI},R tab (run tab X) 44 [] [.lp [1,1,1,1,0,1,0]] (YM l w0 ws κ 6)=x→x=some res→L tab (run tab X) 44 [] [.lp [1,1,1,1,0,1,0]] (YM l w0 ws κ 6)=some res:=fun h1 h2=>dQ (h1.trans h2)
  rcases hκ with rfl | rfl | rfl | rfl | rfl | rfl
  · obtain⟨v,h1,h2⟩:=l44a X hX hT l 0 0 0 0 0 ws (by omega) h8
    subst hS
    refine⟨v,step (lq ..) ?_,h2⟩
    refine bM (show ¬ ((6:Int)≤5) by decide) ?_
    rw[hlen,e]
    exact h1
  · obtain⟨v,h1,h2⟩:=l44a X hX hT l 1 0 0 0 0 ws (by omega) h8
    subst hS
    refine⟨v,step (lq ..) ?_,h2⟩
    refine bM (show ¬ ((6:Int)≤5) by decide) ?_
    rw[hlen,e]
    exact h1
  · obtain⟨v,h1,h2⟩:=l44a X hX hT l 2 (nx ws).1 0 0 0 (nx ws).2 (by omega) n1
    subst hS
    refine⟨v,step (lq ..) ?_,h2⟩
    refine bM (show ¬ ((6:Int)≤5) by decide) ?_
    rw[hlen,e]
    refine aW (c80 X hX hT ws h8) ?_
    exact h1
  · obtain⟨v,h1,h2⟩:=l44a X hX hT l 3 (nx ws).1 0 0 0 (nx ws).2 (by omega) n1
    subst hS
    refine⟨v,step (lq ..) ?_,h2⟩
    refine bM (show ¬ ((6:Int)≤5) by decide) ?_
    rw[hlen,e]
    refine aW (c80 X hX hT ws h8) ?_
    exact h1
  · cases ws with
    | nil =>
     obtain⟨v,h1,h2⟩:=l44a X hX hT l 4 0 0 0 0 [] (by simp) (by simp)
     subst hS
     refine⟨v,step (lq ..) ?_,h2⟩
     refine bM (show ¬ ((6:Int)≤5) by decide) ?_
     rw[hlen,e]
     refine aW (c80 X hX hT [] (by simp)) ?_
     refine aW (TU X hX hT [] (by simp) _ rfl) ?_
     exact h1
    | cons x t =>
     have t8:∀ y∈t,y.length≤100000000:=fun y hy=>h8 y (by simp[hy])
     have t1:∀ y∈(nx t).2,y.length≤100000000:=fun y hy=>t8 y (Aj hy)
     have t2:∀ y∈(nx (nx t).2).2,y.length≤100000000:=fun y hy=>t1 y (Aj hy)
     have k1:=Ai t
     have k2:=Ai (nx t).2
     simp only[List.length_cons]at hw
     obtain⟨v,h1,h2⟩:=l44a X hX hT l 4 0 (nx t).1 (nx (nx t).2).1 (plP x) (nx (nx t).2).2 (by omega) t2
     subst hS
     refine⟨v,step (lq ..) ?_,h2⟩
     refine bM (show ¬ ((6:Int)≤5) by decide) ?_
     have ex:((eW (x::t)).drop 1).take ((((eW (x::t)).length:Nat):Int)-1).toNat=eW t:=by
      rw[OZ,List.drop_succ_cons,List.drop_zero,List.take_of_length_le]
      simp only[lY,List.length_cons];omega
     have hlx:(leI (1:Int) (((eW (x::t)).length:Nat):Int)&&(leI (((eW (x::t)).length:Nat):Int) (((eW (x::t)).length:Nat):Int)&&leI (((eW (x::t)).length:Nat):Int) (((eW (x::t)).length:Nat):Int)))=true:=by
      simp only[lY,List.length_cons,leI,Bool.and_eq_true,decide_eq_true_eq];omega
     rw[hlen,e,ex,hlx]
     have hgt:(0:Int)<(((eW (x::t)).length:Nat):Int):=by simp only[lY,List.length_cons];omega
     refine(bT (show (((eW (x::t)).length:Nat):Int) > 0 from hgt) ?_:cond _ _ _=_)
     refine bT hgt ?_
     rw[O1 (l:=x::t) (i:=0) (by simp)]
     refine aW (hT.index x (h8 x (by simp))) ?_
     refine aW (c80 X hX hT t t8) ?_
     refine aW (TU X hX hT (nx t).2 t1 _ rfl) ?_
     have wp:IntKind.i64.wrap ((Lib.index TB x).tdiv 2)=plP x:=by
      have:=WX x
      exact wrap_eq (by unfold plP at this;omega) (by unfold plP at this;omega)
     simp only[List.headD_cons,iP,toInt_int]
     rw[wp]
     exact h1
  · obtain⟨v,h1,h2⟩:=l44a X hX hT l 5 0 (nx ws).1 (nx (nx ws).2).1 0 (nx (nx ws).2).2 (by omega) n2
    subst hS
    refine⟨v,step (lq ..) ?_,h2⟩
    refine bM (show ¬ ((6:Int)≤5) by decide) ?_
    rw[hlen,e]
    refine aW (c80 X hX hT ws h8) ?_
    refine aW (TU X hX hT (nx ws).2 n1 _ rfl) ?_
    exact h1
theorem aiZ (l:List UInt8) (hl:l.length≤100000000):∃ v,run tab X 44 [.p (.str (ba l))] []=some ([.p v,.p (.bool (FP (Ak l)&&decide (textS (Ak l)=l)))],[])∧(FP (Ak l)=true→v=eS (Ak l)):=by
 have hlen:=CX 32 l
 have h8:∀ x∈dF 32 l,x.length≤100000000:=fun x hx=>Nat.le_trans (EH hx) hl
 have e:∃ w0 ws,dF 32 l=w0::ws:=by
  cases h:dF 32 l with
  | nil=>exact absurd h (F9 32 l)
  | cons w ws=>exact⟨w,ws,rfl⟩
 obtain⟨w0,ws,e⟩:=e
 have hp:Ak l=aef w0 ws:=by unfold Ak;rw[e]
 rw[e]at h8 hlen
 simp only[List.length_cons]at hlen
 have hk:WW w0=0∨WW w0=1∨WW w0=2∨WW w0=3∨WW w0=4∨WW w0=5:=by
  unfold WW
  (repeat' split)<;>simp
 obtain⟨v,h1,h2⟩:=aiY X hX hT l w0 ws (by omega) (fun x hx=>h8 x (by simp[hx])) (WW w0) hk (S:=Ak l) (by rw[hp];rfl)
 refine⟨v,bK (hX _ rfl) ?_,h2⟩
 rw[e44]
 refine aW (hT.split l hl) ?_
 rw[e]
 refine YN X hX l w0 ws 0 (j:=1) (by omega) ?_
 refine YN X hX l w0 ws _ (j:=1+1) (by omega) ?_
 refine YN X hX l w0 ws _ (j:=1+1+1) (by omega) ?_
 refine YN X hX l w0 ws _ (j:=1+1+1+1) (by omega) ?_
 refine YN X hX l w0 ws _ (j:=1+1+1+1+1) (by omega) ?_
 have ek:(if w0=kw (1+1+1+1+1) then(1+1+1+1+1:Int) else if w0=kw (1+1+1+1) then 1+1+1+1 else if w0=kw (1+1+1) then 1+1+1 else if w0=kw (1+1) then 1+1 else if w0=kw 1 then 1 else 0)=WW w0:=rfl
 rw[ek]
 exact h1
end
end Go.Skm.Fig
