/-
  A line is read as the valid shape that has it as its text, by the program; condition: the library's answers, a line that fits.
-/
import Derived.Test.YtipkmkmngcjdbaaGreatDoorF16
namespace Go.Skm.Fig
open Go Go.Skm
theorem plP_range (x:List UInt8):-10≤plP x∧plP x≤10:=by
 unfold plP
 rcases Lib.index_spec plnB x with ⟨e,_⟩ | ⟨i,e,h,_⟩
 · rw[e];decide
 · have hl : i ≤ 6 := by
     have:=h
     simp only[plnB,List.length_cons,List.length_nil]at this
     omega
   rw[e]
   have:(i:Int).tdiv 2=((i / 2:Nat):Int):=by rw[Int.tdiv_eq_ediv_of_nonneg (by omega)];rfl
   rw[this];omega
abbrev st44 (l w0:List UInt8) (ws:List (List UInt8)) (κ j:Int):St:=S44_1111010 (ba l) j 0 0 0 0 0 (eW (w0::ws)) κ 0 0 0 0 (ruleOf κ).w (ruleOf κ).lo (ruleOf κ).hi (ruleOf κ).many (ruleOf κ).round (ruleOf κ).plane
theorem ruleOf_w {j:Int} (h:1≤j∧j≤5):(ruleOf j).w=ba (kw j):=by
 have h:j=1∨j=2∨j=3∨j=4∨j=5:=by omega
 rcases h with rfl | rfl | rfl | rfl | rfl<;>rfl
section
variable (X:Ext) (hX:Mine X) (hT:Texts X)
include hX
theorem l44k (l w0 : List UInt8) (ws : List (List UInt8)) (κ : Int) {j : Int} (hj : 1 ≤ j ∧ j ≤ 5) {res : List AV × List Blk} (h : L tab (run tab X) 44 [] [.lp [1,1,1,1,0,1,0]] (st44 l w0 ws (if w0 = kw j then j else κ) (j + 1)) = some res) :
    L tab (run tab X) 44 [] [.lp [1,1,1,1,0,1,0]] (st44 l w0 ws κ j)=some res:=by
  refine L_of ?_
  have w1:IntKind.i64.wrap (j+1)=j+1:=wrap_eq (by omega) (by omega)
  rw[e44_1111010,w1]
  refine condP hj.2 ?_
  refine bindS (c73 X hX j) ?_
  simp only[List.headD_cons,pv_p,toBool_bool,cell_agg,List.getD_cons_succ,List.getD_cons_zero,toInt_int,toStr_str,eW_length]
  refine condP (show (0:Int)<(((w0::ws).length:Nat):Int) by simp only[List.length_cons];omega) ?_
  rw[eW_getD (l:=w0::ws) (i:=0) (by simp),ruleOf_w hj,ba_beq]
  simp only[condD,ba_inj,List.getElem_cons_zero]
  by_cases hw:kw j=w0
  · rw[if_pos hw]
    rw[if_pos hw.symm]at h
    rw[← ruleOf_w hj]
    exact h
  · rw[if_neg hw]
    rw[if_neg fun e=>hw e.symm]at h
    exact h
include hT
theorem l44f (l w0 : List UInt8) (ws : List (List UInt8)) (hw : ws.length ≤ 100000000) (h8 : ∀ x ∈ ws,x.length ≤ 100000000) (κ : Int) (hκ : κ = 0 ∨ κ = 1 ∨ κ = 2 ∨ κ = 3 ∨ κ = 4 ∨ κ = 5) {S : Sh}
    (hS:S=⟨κ,cors (headP κ ws).2.2.2.2.length (headP κ ws).2.2.2.2,(headP κ ws).1,(headP κ ws).2.1,(headP κ ws).2.2.1,(headP κ ws).2.2.2.1⟩) :
    ∃ v,L tab (run tab X) 44 [] [.lp [1,1,1,1,0,1,0]] (st44 l w0 ws κ 6)=some ([.p v,.p (.bool (shp S&&decide (textS S=l)))],[])∧(shp S=true→v=eS S):=by
  have e:((eW (w0::ws)).drop 1).take ((((eW (w0::ws)).length:Nat):Int)-1).toNat=eW ws:=by
   rw[eW_drop,List.drop_succ_cons,List.drop_zero,List.take_of_length_le]
   simp only[eW_length,List.length_cons];omega
  have hlen:(leI (1:Int) (((eW (w0::ws)).length:Nat):Int)&&(leI (((eW (w0::ws)).length:Nat):Int) (((eW (w0::ws)).length:Nat):Int)&&leI (((eW (w0::ws)).length:Nat):Int) (((eW (w0::ws)).length:Nat):Int)))=true:=by
   simp only[eW_length,List.length_cons,leI,Bool.and_eq_true,decide_eq_true_eq];omega
  have n1:∀ y∈(nx ws).2,y.length≤100000000:=fun y hy=>h8 y (nx_mem hy)
  have n2:∀ y∈(nx (nx ws).2).2,y.length≤100000000:=fun y hy=>n1 y (nx_mem hy)
  have m1:=nx_len ws
  have m2:=nx_len (nx ws).2
  have step:∀ {x:Option (List AV × List Blk)} {res:List AV × List Blk},R tab (run tab X) 44 [] [.lp [1,1,1,1,0,1,0]] (st44 l w0 ws κ 6)=x→x=some res→L tab (run tab X) 44 [] [.lp [1,1,1,1,0,1,0]] (st44 l w0 ws κ 6)=some res:=fun h1 h2=>L_of (h1.trans h2)
  rcases hκ with rfl | rfl | rfl | rfl | rfl | rfl
  · obtain⟨v,h1,h2⟩:=l44a X hX hT l 0 0 0 0 0 ws (by omega) h8
    subst hS
    refine⟨v,step (e44_1111010 ..) ?_,h2⟩
    refine condNP (show ¬ ((6:Int)≤5) by decide) ?_
    rw[hlen,e]
    exact h1
  · obtain⟨v,h1,h2⟩:=l44a X hX hT l 1 0 0 0 0 ws (by omega) h8
    subst hS
    refine⟨v,step (e44_1111010 ..) ?_,h2⟩
    refine condNP (show ¬ ((6:Int)≤5) by decide) ?_
    rw[hlen,e]
    exact h1
  · obtain⟨v,h1,h2⟩:=l44a X hX hT l 2 (nx ws).1 0 0 0 (nx ws).2 (by omega) n1
    subst hS
    refine⟨v,step (e44_1111010 ..) ?_,h2⟩
    refine condNP (show ¬ ((6:Int)≤5) by decide) ?_
    rw[hlen,e]
    refine bindS (c80 X hX hT ws h8) ?_
    exact h1
  · obtain⟨v,h1,h2⟩:=l44a X hX hT l 3 (nx ws).1 0 0 0 (nx ws).2 (by omega) n1
    subst hS
    refine⟨v,step (e44_1111010 ..) ?_,h2⟩
    refine condNP (show ¬ ((6:Int)≤5) by decide) ?_
    rw[hlen,e]
    refine bindS (c80 X hX hT ws h8) ?_
    exact h1
  · cases ws with
    | nil =>
     obtain⟨v,h1,h2⟩:=l44a X hX hT l 4 0 0 0 0 [] (by simp) (by simp)
     subst hS
     refine⟨v,step (e44_1111010 ..) ?_,h2⟩
     refine condNP (show ¬ ((6:Int)≤5) by decide) ?_
     rw[hlen,e]
     refine bindS (c80 X hX hT [] (by simp)) ?_
     refine bindS (c80' X hX hT [] (by simp) _ rfl) ?_
     exact h1
    | cons x t =>
     have t8:∀ y∈t,y.length≤100000000:=fun y hy=>h8 y (by simp[hy])
     have t1:∀ y∈(nx t).2,y.length≤100000000:=fun y hy=>t8 y (nx_mem hy)
     have t2:∀ y∈(nx (nx t).2).2,y.length≤100000000:=fun y hy=>t1 y (nx_mem hy)
     have k1:=nx_len t
     have k2:=nx_len (nx t).2
     simp only[List.length_cons]at hw
     obtain⟨v,h1,h2⟩:=l44a X hX hT l 4 0 (nx t).1 (nx (nx t).2).1 (plP x) (nx (nx t).2).2 (by omega) t2
     subst hS
     refine⟨v,step (e44_1111010 ..) ?_,h2⟩
     refine condNP (show ¬ ((6:Int)≤5) by decide) ?_
     have ex:((eW (x::t)).drop 1).take ((((eW (x::t)).length:Nat):Int)-1).toNat=eW t:=by
      rw[eW_drop,List.drop_succ_cons,List.drop_zero,List.take_of_length_le]
      simp only[eW_length,List.length_cons];omega
     have hlx:(leI (1:Int) (((eW (x::t)).length:Nat):Int)&&(leI (((eW (x::t)).length:Nat):Int) (((eW (x::t)).length:Nat):Int)&&leI (((eW (x::t)).length:Nat):Int) (((eW (x::t)).length:Nat):Int)))=true:=by
      simp only[eW_length,List.length_cons,leI,Bool.and_eq_true,decide_eq_true_eq];omega
     rw[hlen,e,ex,hlx]
     have hgt:(0:Int)<(((eW (x::t)).length:Nat):Int):=by simp only[eW_length,List.length_cons];omega
     refine(condP (show (((eW (x::t)).length:Nat):Int) > 0 from hgt) ?_:cond _ _ _=_)
     refine condP hgt ?_
     rw[eW_getD (l:=x::t) (i:=0) (by simp)]
     refine bindS (hT.index x (h8 x (by simp))) ?_
     refine bindS (c80 X hX hT t t8) ?_
     refine bindS (c80' X hX hT (nx t).2 t1 _ rfl) ?_
     have wp:IntKind.i64.wrap ((Lib.index plnB x).tdiv 2)=plP x:=by
      have:=plP_range x
      exact wrap_eq (by unfold plP at this;omega) (by unfold plP at this;omega)
     simp only[List.headD_cons,pv_p,toInt_int]
     rw[wp]
     exact h1
  · obtain⟨v,h1,h2⟩:=l44a X hX hT l 5 0 (nx ws).1 (nx (nx ws).2).1 0 (nx (nx ws).2).2 (by omega) n2
    subst hS
    refine⟨v,step (e44_1111010 ..) ?_,h2⟩
    refine condNP (show ¬ ((6:Int)≤5) by decide) ?_
    rw[hlen,e]
    refine bindS (c80 X hX hT ws h8) ?_
    refine bindS (c80' X hX hT (nx ws).2 n1 _ rfl) ?_
    exact h1
theorem c44w (l:List UInt8) (hl:l.length≤100000000):∃ v,run tab X 44 [.p (.str (ba l))] []=some ([.p v,.p (.bool (shp (prsL l)&&decide (textS (prsL l)=l)))],[])∧(shp (prsL l)=true→v=eS (prsL l)):=by
 have hlen:=splitC_length 32 l
 have h8:∀ x∈splitC 32 l,x.length≤100000000:=fun x hx=>Nat.le_trans (splitC_piece hx) hl
 have e:∃ w0 ws,splitC 32 l=w0::ws:=by
  cases h:splitC 32 l with
  | nil=>exact absurd h (splitC_ne 32 l)
  | cons w ws=>exact⟨w,ws,rfl⟩
 obtain⟨w0,ws,e⟩:=e
 have hp:prsL l=prsW w0 ws:=by unfold prsL;rw[e]
 rw[e]at h8 hlen
 simp only[List.length_cons]at hlen
 have hk:kdW w0=0∨kdW w0=1∨kdW w0=2∨kdW w0=3∨kdW w0=4∨kdW w0=5:=by
  unfold kdW
  (repeat' split)<;>simp
 obtain⟨v,h1,h2⟩:=l44f X hX hT l w0 ws (by omega) (fun x hx=>h8 x (by simp[hx])) (kdW w0) hk (S:=prsL l) (by rw[hp];rfl)
 refine⟨v,run_of (hX _ rfl) ?_,h2⟩
 rw[e44]
 refine bindS (hT.split l hl) ?_
 rw[e]
 refine l44k X hX l w0 ws 0 (j:=1) (by omega) ?_
 refine l44k X hX l w0 ws _ (j:=1+1) (by omega) ?_
 refine l44k X hX l w0 ws _ (j:=1+1+1) (by omega) ?_
 refine l44k X hX l w0 ws _ (j:=1+1+1+1) (by omega) ?_
 refine l44k X hX l w0 ws _ (j:=1+1+1+1+1) (by omega) ?_
 have ek:(if w0=kw (1+1+1+1+1) then(1+1+1+1+1:Int) else if w0=kw (1+1+1+1) then 1+1+1+1 else if w0=kw (1+1+1) then 1+1+1 else if w0=kw (1+1) then 1+1 else if w0=kw 1 then 1 else 0)=kdW w0:=rfl
 rw[ek]
 exact h1
end
end Go.Skm.Fig
