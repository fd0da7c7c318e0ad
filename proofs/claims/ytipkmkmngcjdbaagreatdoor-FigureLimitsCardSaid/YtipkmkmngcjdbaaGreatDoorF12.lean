/-
  The document's points of a figure: halves merged; the two answers are one; condition: figures that fit.
-/
import Derived.Test.YtipkmkmngcjdbaaGreatDoorF11
namespace Go.Skm.Fig
open Go Go.Skm
theorem ins_len (v:V3):∀ l,(ins v l).length≤l.length+1
 | []=>by simp[ins]
 | x::l=>by
  have:=ins_len v l
  unfold ins
  split
  · simp
  · split
    · simp
    · simp;omega
theorem sdL_len:∀ l,(sdL l).length≤l.length
 | []=>by simp[sdL]
 | x::l=>by
  have h1:=sdL_len l
  have h2:=ins_len x (sdL l)
  show (ins x (sdL l)).length≤_
  simp;omega
section
variable (X:Ext) (hX:Mine X)
include hX
theorem cons1 (a:V3) (l:List V3):((encL (a::l)).drop 1).take (((((encL (a::l)).length:Nat):Int)-1).toNat)=encL l:=by
 have _ := hX
 show (encL l).take _=_
 rw[List.take_of_length_le]
 simp
theorem len1 (a:V3) (l:List V3):(leI (1:Int) (((encL (a::l)).length:Nat):Int)&&(leI (((encL (a::l)).length:Nat):Int) (((encL (a::l)).length:Nat):Int)&&leI (((encL (a::l)).length:Nat):Int) (((encL (a::l)).length:Nat):Int)))=true:=by
 have _ := hX
 simp only[Bool.and_eq_true,decide_eq_true_eq,encL_length,List.length_cons];omega
theorem len0 (a:V3) (l:List V3):(0:Int)<(((encL (a::l)).length:Nat):Int):=by have _ := hX; simp only[encL_length,List.length_cons];omega
theorem l57 : ∀ n (a b out : List V3),a.length + b.length ≤ n → Up a → Up b → out.length + n ≤ 2147483648 →
    ∃ m,L tab (run tab X) 38 [] [.lp [1,1,1,1,0,0]] (S38_111100 (encL a) (encL b) 0 out.length (encL out))=some ([.p (.list true kV (encL (out++m)))],[])∧Up m∧(∀ v,v∈m↔v∈a∨v∈b):=by
  intro n
  induction n with
  | zero =>
   intro a b out hn ha hb ho
   obtain rfl:a=[]:=List.length_eq_zero_iff.1 (by omega)
   obtain rfl:b=[]:=List.length_eq_zero_iff.1 (by omega)
   refine⟨[],L_of ?_,List.Pairwise.nil,by simp⟩
   rw[e38_111100]
   refine condNP (by simp) (condNP (by simp) ?_)
   rw[List.drop_zero,List.take_of_length_le (by simp),List.append_nil]
  | succ n ih =>
   intro a b out hn ha hb ho
   have snoc:∀ v:V3,((encL out).drop 0).take out.length++[PV.agg [.int .i64 v.x,.int .i64 v.y,.int .i64 v.z]]=encL (out++[v]):=fun v=>by
    rw[List.drop_zero,List.take_of_length_le (by simp),encV_mk,encL_one,encL_append]
   have cell:∀ (v:V3) (l:List V3),PV.agg [.int .i64 ((((encL (v::l)).getD 0 .nil).cell 0).toInt),.int .i64 ((((encL (v::l)).getD 0 .nil).cell 1).toInt),.int .i64 ((((encL (v::l)).getD 0 .nil).cell 2).toInt)]=PV.agg [.int .i64 v.x,.int .i64 v.y,.int .i64 v.z]:=fun v l=>rfl
   have rest : ∀ (a' b' : List V3) (v : V3),a'.length + b'.length ≤ n → Up a' → Up b' → (∀ u,u ∈ a' ∨ u ∈ b' → cmpV v u = -1) →
       ∃ m,L tab (run tab X) 38 [] [.lp [1,1,1,1,0,0]] (S38_111100 (encL a') (encL b') 0 (out.length+1) (encL (out++[v])))=some ([.p (.list true kV (encL (out++m)))],[])∧Up m∧(∀ u,u∈m↔u=v∨u∈a'∨u∈b'):=by
     intro a' b' v h1 h2 h3 h4
     obtain⟨m,m1,m2,m3⟩:=ih a' b' (out++[v]) h1 h2 h3 (by rw[List.length_append];simp;omega)
     refine⟨v::m,?_,List.pairwise_cons.2 ⟨fun u hu=>h4 u ((m3 u).1 hu),m2⟩,fun u=>by rw[List.mem_cons,m3]⟩
     rw[List.length_append]at m1
     simpa using m1
   match a,b with
   | [],[] =>
    refine⟨[],L_of ?_,List.Pairwise.nil,by simp⟩
    rw[e38_111100]
    refine condNP (by simp) (condNP (by simp) ?_)
    rw[List.drop_zero,List.take_of_length_le (by simp),List.append_nil]
   | [],y::b =>
    obtain⟨b1,b2⟩:=List.pairwise_cons.1 hb
    obtain⟨m,m1,m2,m3⟩:=rest [] b y (by simp at hn ⊢;omega) ha b2 (fun u hu=>by
     rcases hu with hu | hu
     · simp at hu
     · exact b1 u hu)
    refine⟨m,L_of ?_,m2,fun u=>by rw[m3];simp⟩
    rw[e38_111100]
    refine condNP (by simp) (condP (len0 X hX y b) (condNes (by have:=len0 X hX y b;omega) (condNP (by simp) (condP (len0 X hX y b) (condP (p:=out.length+1≤2147483648) (by omega) (condT (len1 X hX y b) ?_))))))
    rw[cell,snoc,cons1 X hX]
    exact m1
   | x::a,[] =>
    obtain⟨a1,a2⟩:=List.pairwise_cons.1 ha
    obtain⟨m,m1,m2,m3⟩:=rest a [] x (by simp at hn ⊢;omega) a2 hb (fun u hu=>by
     rcases hu with hu | hu
     · exact a1 u hu
     · simp at hu)
    refine⟨m,L_of ?_,m2,fun u=>by rw[m3];simp⟩
    rw[e38_111100]
    refine condP (len0 X hX x a) (condEqs (by simp) (condNP (by simp) (condP (len0 X hX x a) (condP (p:=out.length+1≤2147483648) (by omega) (condT (len1 X hX x a) ?_)))))
    rw[cell,snoc,cons1 X hX]
    exact m1
   | x::a,y::b =>
    obtain⟨a1,a2⟩:=List.pairwise_cons.1 ha
    obtain⟨b1,b2⟩:=List.pairwise_cons.1 hb
    have hn':a.length+1+(b.length+1)≤n+1:=by simpa using hn
    by_cases hc:cmpV x y≤0
    · by_cases he:x=y
      · subst he
        obtain⟨m,m1,m2,m3⟩:=rest a b x (by omega) a2 b2 (fun u hu=>by
         rcases hu with hu | hu
         · exact a1 u hu
         · exact b1 u hu)
        refine⟨m,L_of ?_,m2,fun u=>by
         rw[m3,List.mem_cons,List.mem_cons]
         constructor
         · rintro (h | h | h)<;>simp[h]
         · rintro ((h | h) | (h | h))<;>simp[h]⟩
        rw[e38_111100]
        refine condP (len0 X hX x a) (condNes (by have:=len0 X hX x b;omega) (condP (len0 X hX x a) (condP (len0 X hX x a) (condP (len0 X hX x b) ?_))))
        rw[cell,cell]
        refine bindS (u38 X hX x x) (condP hc (condP (len0 X hX x b) (condP (len0 X hX x a) (condP (len0 X hX x b) (condT ?_ (condT (len1 X hX x b) (condP (len0 X hX x a) (condP (p:=out.length+1≤2147483648) (by omega) (condT (len1 X hX x a) ?_)))))))))
        · simp[encL_cons,encV]
        rw[snoc,cons1 X hX,cons1 X hX]
        exact m1
      · have hlt : cmpV x y = -1 := by
          rcases cmp_or x y with h | h | h
          · exact h
          · exact absurd (cmp_eq.1 h) he
          · omega
        obtain⟨m,m1,m2,m3⟩:=rest a (y::b) x (by simp;omega) a2 hb (fun u hu=>by
         rcases hu with hu | hu
         · exact a1 u hu
         · rcases List.mem_cons.1 hu with rfl | hu
           · exact hlt
           · exact lt_trans hlt (b1 u hu))
        refine⟨m,L_of ?_,m2,fun u=>by
         rw[m3,List.mem_cons,List.mem_cons]
         constructor
         · rintro (h | h | h | h)<;>simp[h]
         · rintro ((h | h) | (h | h))<;>simp[h]⟩
        rw[e38_111100]
        refine condP (len0 X hX x a) (condNes (by have:=len0 X hX y b;omega) (condP (len0 X hX x a) (condP (len0 X hX x a) (condP (len0 X hX y b) ?_))))
        rw[cell,cell]
        refine bindS (u38 X hX x y) (condP hc (condP (len0 X hX y b) (condP (len0 X hX x a) (condP (len0 X hX y b) (condF ?_ (condP (len0 X hX x a) (condP (p:=out.length+1≤2147483648) (by omega) (condT (len1 X hX x a) ?_))))))))
        · show ((x.x==y.x)&&((x.y==y.y)&&((x.z==y.z)&&true)))=false
          rw[veq];exact decide_eq_false he
        rw[snoc,cons1 X hX]
        exact m1
    · have hgt : cmpV y x = -1 := by
        rcases cmp_or x y with h | h | h
        · omega
        · omega
        · exact cmp_gt.1 h
      obtain⟨m,m1,m2,m3⟩:=rest (x::a) b y (by simp;omega) ha b2 (fun u hu=>by
       rcases hu with hu | hu
       · rcases List.mem_cons.1 hu with rfl | hu
         · exact hgt
         · exact lt_trans hgt (a1 u hu)
       · exact b1 u hu)
      refine⟨m,L_of ?_,m2,fun u=>by
       rw[m3,List.mem_cons,List.mem_cons]
       constructor
       · rintro (h | (h | h) | h)<;>simp[h]
       · rintro ((h | h) | (h | h))<;>simp[h]⟩
      rw[e38_111100]
      refine condP (len0 X hX x a) (condNes (by have:=len0 X hX y b;omega) (condP (len0 X hX x a) (condP (len0 X hX x a) (condP (len0 X hX y b) ?_))))
      rw[cell,cell]
      refine bindS (u38 X hX x y) (condNP hc (condP (len0 X hX y b) (condP (p:=out.length+1≤2147483648) (by omega) (condT (len1 X hX y b) ?_))))
      rw[snoc,cons1 X hX]
      exact m1
theorem c38:∀ n (l:List V3),l.length≤n→n≤1073741824→run tab X 38 [.p (.list true kV (encL l))] []=some ([.p (.list true kV (encL (sdL l)))],[]):=by
 intro n
 induction n with
 | zero =>
  intro l hl _
  obtain rfl:l=[]:=List.length_eq_zero_iff.1 (by omega)
  exact run_of (hX _ rfl) (by rw[e38];exact condP (by simp) rfl)
 | succ n ih =>
  intro l hl hn
  refine run_of (hX _ rfl) ?_
  rw[e38,encL_length]
  by_cases h2:l.length<2
  · refine condP (by omega) ?_
    match l,h2 with
    | [],_=>rfl
    | [v],_=>rfl
  · refine condNP (by omega) ?_
    have ed:((l.length:Nat):Int).tdiv 2=((l.length / 2:Nat):Int):=by
     rw[Int.tdiv_eq_ediv_of_nonneg (by omega)];omega
    have w:IntKind.i64.wrap (((l.length:Nat):Int).tdiv 2)=((l.length / 2:Nat):Int):=by rw[ed,wrap_eq (by omega) (by omega)]
    rw[w]
    have e1:((encL l).drop 0).take ((((l.length / 2:Nat):Int)-0).toNat)=encL (l.take (l.length / 2)):=by
     rw[List.drop_zero,Int.sub_zero,tn,encL_take]
    have e2:((encL l).drop ((((l.length / 2:Nat):Int)).toNat)).take ((((l.length:Nat):Int)-((l.length / 2:Nat):Int)).toNat)=encL (l.drop (l.length / 2)):=by
     rw[tn,encL_drop,List.take_of_length_le]
     simp;omega
    rw[e1,e2]
    have l1:(l.take (l.length / 2)).length=l.length / 2:=by rw[List.length_take];omega
    have l2:(l.drop (l.length / 2)).length=l.length-l.length / 2:=List.length_drop
    refine condT (by simp only[Bool.and_eq_true,decide_eq_true_eq];omega) (bindS (ih (l.take (l.length / 2)) (by omega) (by omega)) (condT (by simp only[Bool.and_eq_true,decide_eq_true_eq];omega) (bindS (ih (l.drop (l.length / 2)) (by omega) (by omega)) ?_)))
    have s1:(sdL (l.take (l.length / 2))).length≤l.length:=by
     have h:=sdL_len (l.take (l.length / 2));omega
    have s2:(sdL (l.drop (l.length / 2))).length≤l.length:=by
     have h:=sdL_len (l.drop (l.length / 2));omega
    obtain⟨m,m1,m2,m3⟩:=l57 X hX _ (sdL (l.take (l.length / 2))) (sdL (l.drop (l.length / 2))) [] (Nat.le_refl _) (sdL_up _) (sdL_up _) (by simp;omega)
    simp only[List.headD_cons,pv_p,toList_list]
    refine m1.trans ?_
    rw[List.nil_append,sdL_eq (l:=l) m2 (fun v=>by
     rw[m3,sdL_mem,sdL_mem]
     conv=>rhs;rw[← List.take_append_drop (l.length / 2) l]
     rw[List.mem_append])]
theorem l37 (f : List Sh) (hf : f.length ≤ 50) (hs : ∀ s ∈ f,Shape s) : ∀ n i (all : List V3),i + n = f.length → all.length ≤ i * 1040000 →
    L tab (run tab X) 15 [] [.lp [1,1,0,1,0]] (S15_11010 (encF f) 0 all.length (i:Int) (encL all))=some ([.fresh true kV (encL (ptsE (all++ptsF (f.drop i))).1),.p (.int .i64 (ptsE (all++ptsF (f.drop i))).2)],[]):=by
  intro n
  induction n with
  | zero =>
   intro i all hi ha
   refine L_of ?_
   rw[e15_11010,List.drop_eq_nil_of_le (show f.length≤i by omega)]
   refine condNP (by rw[encF_length];omega) ?_
   rw[List.drop_zero,List.take_of_length_le (by simp)]
   refine bindS (c37 X hX all (by omega)) ?_
   simp only[List.headD_cons,pv_p,toBool_bool]
   show _=some ([AV.fresh true kV (encL (ptsE (all++[])).1),.p (.int .i64 (ptsE (all++[])).2)],[])
   rw[List.append_nil]
   unfold ptsE
   by_cases hp:allP all=true
   · rw[if_pos (allP_iff.1 hp),hp]
     refine bindS (c38 X hX _ all (Nat.le_refl _) (by omega)) ?_
     simp only[List.headD_cons,pv_p,toList_list,encL_length]
     by_cases h4:(sdL all).length > 4096
     · rw[if_pos h4];exact condP (by omega) rfl
     · rw[if_neg h4]
       refine condNP (by omega) (condP (p:=(sdL all).length≤2147483648) (by omega) ?_)
       rw[List.drop_zero,List.take_of_length_le (by simp)]
   · have hp':allP all=false:=by simpa using hp
     rw[if_neg (fun c=>hp (allP_iff.2 c)),hp'];rfl
  | succ n ih =>
   intro i all hi ha
   have hlt:i<f.length:=by omega
   have hsh:=hs _ (sat_mem hlt)
   have hpl:=ptsS_len hsh
   refine L_of ?_
   rw[e15_11010]
   refine condP (by rw[encF_length];omega) (condT (by rw[encF_length];exact gd hlt) ?_)
   rw[tn,fcell hlt]
   refine bindS (c36 X hX (sat f i) hsh) ?_
   simp only[List.headD_cons,pv_p,toList_list,encL_length]
   refine condP (p:=all.length+(ptsS (sat f i)).length≤2147483648) (by omega) ?_
   rw[List.drop_zero,List.take_of_length_le (by simp),encL_append,wr1 (show i<1099511627776 by omega)]
   have hp:ptsF (f.drop i)=ptsS (sat f i)++ptsF (f.drop (i+1)):=by rw[sdrop hlt];simp[ptsF]
   have h:=ih (i+1) (all++ptsS (sat f i)) (by omega) (by rw[List.length_append];omega)
   rw[List.length_append]at h
   rw[hp,← List.append_assoc]
   exact h
theorem c15 (f:List Sh) (hb:figB f=true):run tab X 15 [.p (.list true kS (encF f))] []=some ([.fresh true kV (encL (ptsR f).1),.p (.int .i64 (ptsR f).2)],[]) :=
 run_of (hX _ rfl) (by
  obtain⟨h1,h2⟩:=fig_shapes hb
  rw[e15]
  unfold ptsR
  rw[if_pos hb]
  exact l37 X hX f h1 h2 f.length 0 [] (by omega) (by simp))
end
end Go.Skm.Fig
