/-
  The law Parses: the document reads a text as the program does; condition: the library's answers.
-/
import Derived.Test.YtipkmkmngcjdbaaGreatDoorF26
namespace Go.Skm.Fig
open Go Go.Skm
theorem cut_nil {c:UInt8}:∀ {l:List UInt8},(cutC c l).1=[]→(cutC c l).2.2=false→l=[]
 | [],_,_=>rfl
 | x::l,h1,h2=>by
  unfold cutC at h1 h2
  cases hb:(x==c) with
  | true=>rw[hb]at h2;simp at h2
  | false=>rw[hb]at h1;simp at h1
theorem pF_len:∀ (n:Nat) (num:Int) (acc:List Sh) (l:List UInt8),acc.length+n≤50→(∀ s∈acc,Shape s)→(pF n num acc l).1.length≤50∧∀ s∈(pF n num acc l).1,Shape s
 | 0,num,acc,l,h,hs=>by
  unfold pF
  split
  · exact⟨by show acc.length≤50;omega,hs⟩
  · exact⟨by simp,by simp⟩
 | n+1,num,acc,l,h,hs=>by
  unfold pF
  split
  · exact⟨by show acc.length≤50;omega,hs⟩
  · split
    · next hh =>
      refine pF_len n (num+1) _ _ (by simp only[List.length_append,List.length_cons,List.length_nil];omega) fun s hm=>?_
      rcases List.mem_append.1 hm with hm | hm
      · exact hs s hm
      · rw[List.mem_singleton]at hm
        rw[hm];exact(acc_some hh.1).1
    · exact⟨by simp,by simp⟩
theorem parsP_ok (l:List UInt8):(parsP l).1.length≤50∧∀ s∈(parsP l).1,Shape s:=pF_len 50 1 [] l (by simp) (by simp)
section
variable (X:Ext) (hX:Mine X)
include hX
theorem l20 (L0 : List (List UInt8)) (hL : L0.length ≤ 1000000) (h8 : ∀ x ∈ L0,x.length ≤ 1000000) : ∀ (n i : Nat) (acc : List Sh) (l : List UInt8),i + n = 50 → acc.length = i → splitC 10 l = L0.drop i →
    L tab (run tab X) 20 [] [.lp [1,1,1,0,1,0]] (S20_111010 0 L0.length 0 acc.length i (eW L0) (encF acc))=some ([.fresh true kS (encF (pF n ((i:Int)+1) acc l).1),.p (.int .i64 (pF n ((i:Int)+1) acc l).2.1),.p (.int .i64 (pF n ((i:Int)+1) acc l).2.2)],[]):=by
  intro n
  induction n with
  | zero =>
   intro i acc l hi ha hs
   have hc:=cut_split 10 l
   rw[hs]at hc
   have hlt:i<L0.length:=by
    by_cases h:i<L0.length
    · exact h
    · rw[List.drop_eq_nil_of_le (by omega)]at hc;cases hc
   rw[List.drop_eq_getElem_cons hlt,List.cons.injEq]at hc
   obtain⟨hp,hr⟩:=hc
   have g0:=eW_getD (l:=L0) (i:=0+i) (by omega)
   have g0:(((eW L0).getD (0+i) .nil).cell 0).toStr=ba (cutC 10 l).1:=by rw[g0,← hp];simp
   have wl:IntKind.i64.wrap (((L0.length:Nat):Int)-1)=((L0.length-1:Nat):Int):=by rw[wrap_eq (by omega) (by omega)];omega
   have w1:IntKind.i64.wrap ((i:Int)+1)=(i:Int)+1:=wrap_eq (by omega) (by omega)
   refine L_of ?_
   rw[e20_111010,wl,w1,Int.toNat_natCast,g0]
   simp only[condA]
   refine condP (by omega) ?_
   rw[show (⟨#[]⟩:ByteArray)=ba [] from rfl,ba_beq]
   simp only[ba_inj]
   unfold pF
   by_cases hlast:i+1=L0.length
   · have hen : (cutC 10 l).2.2 = false := by
       cases h:(cutC 10 l).2.2 with
       | false=>rfl
       | true =>
        rw[h,List.drop_eq_nil_of_le (by omega)]at hr
        exact absurd hr.symm (splitC_ne _ _)
     refine condT (by rw[beq_iff_eq];omega) (condP (by omega) (condP (by omega) ?_))
     by_cases he:l=[]
     · subst he
       rw[if_pos rfl]
       refine condP rfl ?_
       rw[List.drop_zero,List.take_of_length_le (by simp)]
     · rw[if_neg he]
       refine condNP (fun h=>he (cut_nil h hen)) ?_
       refine condT (by rw[beq_iff_eq];omega) ?_
       have:(i:Int)+1=51:=by omega
       rw[this];rfl
   · have he : l ≠ [] := by
       intro h
       subst h
       have hz:L0.drop (i+1)=[]:=hr
       have:=List.drop_eq_nil_iff.1 hz
       omega
     rw[if_neg he]
     refine condF (by rw[beq_eq_false_iff_ne];omega) (condT (by rw[beq_iff_eq];omega) ?_)
     have:(i:Int)+1=51:=by omega
     rw[this];rfl
  | succ n ih =>
   intro i acc l hi ha hs
   have hc:=cut_split 10 l
   rw[hs]at hc
   have hlt:i<L0.length:=by
    by_cases h:i<L0.length
    · exact h
    · rw[List.drop_eq_nil_of_le (by omega)]at hc;cases hc
   rw[List.drop_eq_getElem_cons hlt,List.cons.injEq]at hc
   obtain⟨hp,hr⟩:=hc
   have g0:=eW_getD (l:=L0) (i:=0+i) (by omega)
   have g0:(((eW L0).getD (0+i) .nil).cell 0).toStr=ba (cutC 10 l).1:=by rw[g0,← hp];simp
   have wl:IntKind.i64.wrap (((L0.length:Nat):Int)-1)=((L0.length-1:Nat):Int):=by rw[wrap_eq (by omega) (by omega)];omega
   have w1:IntKind.i64.wrap ((i:Int)+1)=((i+1:Nat):Int):=by rw[wrap_eq (by omega) (by omega)];omega
   obtain⟨v,c1,c2⟩:=c46 X hX (cutC 10 l).1 (by rw[← hp];exact h8 _ (List.getElem_mem hlt))
   refine L_of ?_
   rw[e20_111010,wl,w1,Int.toNat_natCast,g0]
   simp only[condA]
   refine condP (by omega) ?_
   rw[show (⟨#[]⟩:ByteArray)=ba [] from rfl,ba_beq]
   simp only[ba_inj]
   unfold pF
   by_cases hlast:i+1=L0.length
   · have hen : (cutC 10 l).2.2 = false := by
       cases h:(cutC 10 l).2.2 with
       | false=>rfl
       | true =>
        rw[h,List.drop_eq_nil_of_le (by omega)]at hr
        exact absurd hr.symm (splitC_ne _ _)
     refine condT (by rw[beq_iff_eq];omega) (condP (by omega) (condP (by omega) ?_))
     by_cases he:l=[]
     · subst he
       rw[if_pos rfl]
       refine condP rfl ?_
       rw[List.drop_zero,List.take_of_length_le (by simp)]
     · rw[if_neg he,if_neg (by rw[hen];simp)]
       refine condNP (fun h=>he (cut_nil h hen)) ?_
       refine condF (by rw[beq_eq_false_iff_ne];omega) (condP (by omega) (condP (by omega) (bindS c1 ?_)))
       simp only[List.headD_cons,List.tail_cons,pv_p,toBool_bool]
       cases accP (cutC 10 l).1 with
       | false=>rfl
       | true =>
        refine condF rfl ?_
        exact condT (by rw[beq_iff_eq];omega) rfl
   · have he : l ≠ [] := by
       intro h
       subst h
       have hz:L0.drop (i+1)=[]:=hr
       have:=List.drop_eq_nil_iff.1 hz
       omega
     have hen:(cutC 10 l).2.2=true:=by
      cases h:(cutC 10 l).2.2 with
      | true=>rfl
      | false =>
       rw[h]at hr
       have hz:L0.drop (i+1)=[]:=hr
       have:=List.drop_eq_nil_iff.1 hz
       omega
     rw[if_neg he,hen]
     refine condF (by rw[beq_eq_false_iff_ne];omega) ?_
     refine condF (by rw[beq_eq_false_iff_ne];omega) (condP (by omega) (condP (by omega) (bindS c1 ?_)))
     simp only[List.headD_cons,List.tail_cons,pv_p,toBool_bool]
     cases hac:accP (cutC 10 l).1 with
     | false=>rw[if_neg (by simp)];rfl
     | true =>
      have hv:=c2 hac
      rw[if_pos (by simp)]
      refine condF rfl ?_
      refine condF (by rw[beq_eq_false_iff_ne];omega) (condP (p:=acc.length+1≤2147483648) (by omega) ?_)
      rw[hen]at hr
      have:=ih (i+1) (acc++[prsL (cutC 10 l).1]) (cutC 10 l).2.1 (by omega) (by simp only[List.length_append,List.length_cons,List.length_nil];omega) hr.symm
      rw[show (((i+1:Nat):Int)+1)=(i:Int)+1+1 by omega]at this
      rw[← this,hv]
      rw[List.drop_zero,List.take_of_length_le (by simp)]
      simp only[List.length_append,List.length_cons,List.length_nil,Nat.zero_add]
      congr 2
      simp[encF]
theorem c20 (l:List UInt8) (hl:l.length≤900000):run tab X 20 [.p (.str (ba l))] []=some ([.fresh true kS (encF (parsP l).1),.p (.int .i64 (parsP l).2.1),.p (.int .i64 (parsP l).2.2)],[]):=by
 have hlen:=splitC_length 10 l
 refine run_of (hX _ rfl) ?_
 rw[e20]
 refine bindS (c45 X hX 10 l (by omega)) ?_
 have hfr:(([AV.fresh false [.str] ((splitC 10 l).map fun p=>PV.str (ba p))],([]:List Blk)).1.headD .undef).freshList=eW (splitC 10 l):=rfl
 rw[hfr,eW_length]
 exact l20 X hX (splitC 10 l) (by omega) (fun x hx=>Nat.le_trans (splitC_piece hx) (by omega)) 50 0 [] l (by omega) rfl rfl
variable (hT:Texts X)
include hT
theorem mid5 (hN : Known X) (l : List UInt8) (hl : l.length ≤ 900000) : ((run tab X 19 [.p (.str (ba l))] []).bind fun r2 => (run tab X 20 [.p (.str (ba l))] []).bind fun r3 =>
   (run tab X 21 [.p (.list true kSh ((((r2.1.headD .undef).freshList).drop 0).take ((r2.1.headD .undef).freshList.length))),.p (.list true kSh ((((r3.1.headD .undef).freshList).drop 0).take ((r3.1.headD .undef).freshList.length)))] []).bind fun r4 =>
   bif (r4.1.headD .undef).pv.toBool then
    bif ((r2.1.tail.headD .undef).pv.toInt==(r3.1.tail.headD .undef).pv.toInt) then
     bif ((r2.1.tail.tail.headD .undef).pv.toInt==(r3.1.tail.tail.headD .undef).pv.toInt) then
      (run tab X 12 [] []).bind fun r5=>some ([AV.p (.bool ((r5.1.headD .undef).pv.toBool))],([]:List Blk))
     else some ([.p (.bool false)],[])
    else some ([.p (.bool false)],[])
   else some ([.p (.bool false)],[]))=some ([.p (.bool true)],[]):=by
  obtain⟨p1,p2⟩:=parsP_ok l
  have h21:=c21 X hX (parsP l).1 (parsP l).1 ⟨by omega,fun s hs=>by have:=(p2 s hs).1;omega⟩
  rw[decide_eq_true rfl]at h21
  refine bindS (c19 X hX hT l (by omega)) (bindS (c20 X hX l hl) (bindS (r:=([.p (.bool true)],[])) ?_ ?_))
  · have e:∀ z:List PV,(z.drop 0).take z.length=z:=by intro z;simp
    show run tab X 21 [.p (.list true kSh (((encF (parsP l).1).drop 0).take (encF (parsP l).1).length)),.p (.list true kSh (((encF (parsP l).1).drop 0).take (encF (parsP l).1).length))] []=_
    rw[e];exact h21
  · exact condT rfl (condT (by simp) (condT (by simp) (endK X hX hN)))
theorem l5 (hN : Known X) (more : Int) (hm : more ≤ 55) (h0 : 0 ≤ more) : ∀ (n i : Nat) (l : List UInt8),i + n = more.toNat → l.length ≤ 500 + 11 * i →
    L tab (run tab X) 5 [] [.lp [1,1,0,1,0,1,0]] (S5_1101010 (ba l) more i)=some ([.p (.bool true)],[]):=by
  intro n
  induction n with
  | zero =>
   intro i l hi hl
   refine L_of ?_
   rw[e5_1101010]
   refine condNP (show ¬ (i:Int)<more by omega) ?_
   exact mid5 X hX hT hN l (by omega)
  | succ n ih =>
   intro i l hi hl
   have w1:IntKind.i64.wrap ((i:Int)+1)=((i+1:Nat):Int):=by rw[wrap_eq (by omega) (by omega)];omega
   refine L_of ?_
   rw[e5_1101010,w1,show (⟨#[100,111,116,115,32,49,32,50,32,51,10]⟩:ByteArray)=ba [100,111,116,115,32,49,32,50,32,51,10] from rfl,ba_append]
   refine condP (show (i:Int)<more by omega) (condP (by simp only[ba_size,List.length_cons,List.length_nil];omega) ?_)
   exact ih (i+1) _ (by omega) (by simp only[List.length_append,List.length_cons,List.length_nil];omega)
theorem law5 (hN:Known X) (l:List UInt8) (more:Int):run tab X 5 [.p (.str (ba l)),.p (.int .i64 more)] []=some ([.p (.bool true)],[]):=by
 refine run_of (hX _ rfl) ?_
 rw[e5,ba_size]
 by_cases h5:l.length≤500
 · refine condNP (show ¬ (l.length:Int) > 500 by omega) ?_
   by_cases h1:more ≥ 45
   · refine condP h1 ?_
     by_cases h2:more≤55
     · exact condP h2 (l5 X hX hT hN more h2 (by omega) more.toNat 0 l (by omega) (by omega))
     · exact condNP h2 (mid5 X hX hT hN l (by omega))
   · exact condNP h1 (mid5 X hX hT hN l (by omega))
 · exact condP (show (l.length:Int) > 500 by omega) (endK X hX hN)
end
end Go.Skm.Fig
