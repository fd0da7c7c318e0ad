/-
  The document reads a line, and a whole text, just as the program does; condition: a text that fits.
-/
import Derived.Test.YtipkmkmngcjdbaaGreatDoorF25
namespace Go.Skm.Fig
open Go Go.Skm
theorem cut_split (c:UInt8):∀ l:List UInt8,splitC c l=(cutC c l).1::(bif (cutC c l).2.2 then splitC c (cutC c l).2.1 else [])
 | []=>rfl
 | x::l=>by
  by_cases h:x=c
  · subst h
    simp[splitC,cutC]
  · have hb:(x==c)=false:=by simpa using h
    have ih:=cut_split c l
    rw[splitC,if_neg h,ih]
    simp only[cutC,hb,cond_false]
section
variable (X:Ext) (hX:Mine X)
include hX
theorem l46n (w0 : List UInt8) (ws : List (List UInt8)) (hl : ws.length ≤ 10000000) (h8 : ∀ x ∈ w0::ws,x.length ≤ 100000000) {κ : Int} (hκ : κ = 0 ∨ κ = 1 ∨ κ = 2 ∨ κ = 3 ∨ κ = 4 ∨ κ = 5) (h4 : κ ≠ 4) :
    ∃ v,L tab (run tab X) 46 [] [.lp [1,1,1,0,1,0]] (S46_111010 0 (w0::ws).length 6 0 0 0 0 0 (eW (w0::ws)) κ 0 0 0 0)=some ([.p v,.p (.bool (docW κ ws))],[])∧(docW κ ws=true→v=eS (docS κ ws)):=by
  obtain⟨v,h1,h2⟩:=l46i X hX κ 0 hκ (w0::ws) (by simp only[List.length_cons];omega) h8 1 ws.length (by simp only[List.length_cons];omega) ws.length 0 [] (by omega) (by simp)
  have e2:(w0::ws).drop (1+0)=ws:=rfl
  rw[e2,List.nil_append]at h1 h2
  have d1:docW κ ws=(ws.all okN&&okS κ 0 (ws.map numR)):=by unfold docW;rw[if_neg h4]
  have d2:docS κ ws=shN κ 0 (ws.map numR):=by unfold docS;rw[if_neg h4]
  rw[d1,d2]
  have e:((((w0::ws).length:Nat):Int)-1).toNat=ws.length:=by simp only[List.length_cons];omega
  refine⟨v,L_of ?_,h2⟩
  rw[e46_111010,e]
  simp only[condA]
  refine condNP (show ¬ (6:Int)≤5 by decide) (condP (by simp only[List.length_cons];omega) (condP (Int.le_refl _) (condP (Int.le_refl _) ?_)))
  exact condF (by rw[beq_eq_false_iff_ne];exact h4) h1
theorem l46q (w0 : List UInt8) (ws : List (List UInt8)) (hl : ws.length ≤ 10000000) (h8 : ∀ x ∈ w0::ws,x.length ≤ 100000000) :
    ∃ v,L tab (run tab X) 46 [] [.lp [1,1,1,0,1,0]] (S46_111010 0 (w0::ws).length 6 0 0 0 0 0 (eW (w0::ws)) 4 0 0 0 0)=some ([.p v,.p (.bool (docW 4 ws))],[])∧(docW 4 ws=true→v=eS (docS 4 ws)):=by
  have step:∀ {x:Option (List AV × List Blk)} {res:List AV × List Blk},R tab (run tab X) 46 [] [.lp [1,1,1,0,1,0]] (S46_111010 0 (w0::ws).length 6 0 0 0 0 0 (eW (w0::ws)) 4 0 0 0 0)=x→x=some res→L tab (run tab X) 46 [] [.lp [1,1,1,0,1,0]] (S46_111010 0 (w0::ws).length 6 0 0 0 0 0 (eW (w0::ws)) 4 0 0 0 0)=some res:=fun h1 h2=>L_of (h1.trans h2)
  have e:((((w0::ws).length:Nat):Int)-1).toNat=ws.length:=by simp only[List.length_cons];omega
  cases ws with
  | nil =>
   refine⟨z46,step (e46_111010 ..) ?_,fun h=>by simp[docW]at h⟩
   rw[e]
   simp only[condA]
   refine condNP (show ¬ (6:Int)≤5 by decide) (condP (by simp only[List.length_cons,List.length_nil];omega) (condP (Int.le_refl _) (condP (Int.le_refl _) (condT rfl (condT rfl ?_)))))
   rfl
  | cons x r =>
   have hlen:((w0::x::r).length:Nat)=r.length+2:=rfl
   have g0:=eW_getD (l:=w0::x::r) (i:=1) (by simp)
   simp only[List.length_cons]at hl
   cases hp:okPl x with
   | false =>
    have hp0:=hp
    unfold okPl at hp0
    simp only[Bool.or_eq_false_iff,decide_eq_false_iff_not]at hp0
    refine⟨z46,step (e46_111010 ..) ?_,fun h=>by simp[docW,hp]at h⟩
    have hd:docW 4 (x::r)=false:=by simp[docW,hp]
    rw[e,hd]
    simp only[condA,Nat.zero_add,Nat.add_zero,g0]
    refine condNP (show ¬ (6:Int)≤5 by decide) (condP (by simp only[List.length_cons];omega) (condP (Int.le_refl _) (condP (Int.le_refl _) (condT rfl ?_))))
    refine condF (by rw[beq_eq_false_iff_ne];simp only[List.length_cons];omega) (condP (by simp only[List.length_cons];omega) ?_)
    refine condT (by rw[show (⟨#[120,121]⟩:ByteArray)=ba (plB 0) from rfl,ba_beq];simp[ba_inj,hp0.1]) (condP (by simp only[List.length_cons];omega) ?_)
    refine condT (by rw[show (⟨#[120,122]⟩:ByteArray)=ba (plB 1) from rfl,ba_beq];simp[ba_inj,hp0.2.1]) (condP (by simp only[List.length_cons];omega) ?_)
    exact condT (by rw[show (⟨#[121,122]⟩:ByteArray)=ba (plB 2) from rfl,ba_beq];simp[ba_inj,hp0.2.2]) rfl
   | true =>
    obtain⟨v,h1,h2⟩:=l46i X hX 4 (plP x) (by simp) (w0::x::r) (by simp only[List.length_cons];omega) h8 2 r.length (by simp only[List.length_cons];omega) r.length 0 [] (by omega) (by simp)
    have e2:(w0::x::r).drop (2+0)=r:=rfl
    rw[e2,List.nil_append]at h1 h2
    have d1:docW 4 (x::r)=(r.all okN&&okS 4 (plP x) (r.map numR)):=by simp[docW,hp]
    have d2:docS 4 (x::r)=shN 4 (plP x) (r.map numR):=by simp[docS]
    rw[d1,d2]
    have hpl:L tab (run tab X) 46 [] [.lp [1,1,1,1,1,0,1,0,1,0,1,0]] (S46_111110101010 1 (r.length+1) 0 0 0 0 0 0 (eW (w0::x::r)) 4 0 0 0 0)=some ([.p v,.p (.bool (r.all okN&&okS 4 (plP x) (r.map numR)))],[]):=by
     refine l46p X hX x _ 1 _ (by simp) (by omega) rfl 0 (j:=0) (by omega) ?_
     refine l46p X hX x _ 1 _ (by simp) (by omega) rfl _ (j:=0+1) (by omega) ?_
     refine l46p X hX x _ 1 _ (by simp) (by omega) rfl _ (j:=0+1+1) (by omega) ?_
     have ep:(if x=plB (0+1+1) then(0+1+1:Int) else if x=plB (0+1) then 0+1 else if x=plB 0 then 0 else 0)=plP x:=by
      obtain⟨p,hpp,hx,hq⟩:=okPl_eq hp
      rw[hq,hx]
      rcases hpp with rfl | rfl | rfl<;>decide
     rw[ep]
     refine L_of ?_
     rw[e46_111110101010]
     have e3:(((r.length+1:Nat):Int)-1).toNat=r.length:=by omega
     rw[e3]
     simp only[condA]
     refine condNP (show ¬ (0+1+1+1:Int)<3 by decide) (condP (by omega) (condP (Int.le_refl _) (condP (Int.le_refl _) ?_)))
     exact h1
    refine⟨v,step (e46_111010 ..) ?_,h2⟩
    rw[e]
    simp only[condA,Nat.zero_add,Nat.add_zero,g0]
    refine condNP (show ¬ (6:Int)≤5 by decide) (condP (by simp only[List.length_cons];omega) (condP (Int.le_refl _) (condP (Int.le_refl _) (condT rfl ?_))))
    refine condF (by rw[beq_eq_false_iff_ne];simp only[List.length_cons];omega) (condP (by simp only[List.length_cons];omega) ?_)
    have ne:∀ (y:List UInt8),(!((ba x).toList==(ba y).toList))=true→x≠y:=by
     intro y h;rw[ba_beq]at h;simpa [ba_inj] using h
    cases h1:(!((ba ((w0::x::r)[1]'(by simp))).toList==(⟨#[120,121]⟩:ByteArray).toList)) with
    | false=>exact hpl
    | true =>
     refine condT rfl (condP (by simp only[List.length_cons];omega) ?_)
     cases h2:(!((ba ((w0::x::r)[1]'(by simp))).toList==(⟨#[120,122]⟩:ByteArray).toList)) with
     | false=>exact hpl
     | true =>
      refine condT rfl (condP (by simp only[List.length_cons];omega) ?_)
      cases h3:(!((ba ((w0::x::r)[1]'(by simp))).toList==(⟨#[121,122]⟩:ByteArray).toList)) with
      | false=>exact hpl
      | true =>
       obtain⟨p,hpp,hx,_⟩:=okPl_eq hp
       rcases hpp with rfl | rfl | rfl
       · exact absurd hx (ne (plB 0) h1)
       · exact absurd hx (ne (plB 1) h2)
       · exact absurd hx (ne (plB 2) h3)
theorem c46 (l:List UInt8) (hl:l.length≤1000000):∃ v,run tab X 46 [.p (.str (ba l))] []=some ([.p v,.p (.bool (accP l))],[])∧(accP l=true→v=eS (prsL l)):=by
 have e:∃ w ws,splitC 32 l=w::ws:=by
  cases h:splitC 32 l with
  | nil=>exact absurd h (splitC_ne 32 l)
  | cons w ws=>exact⟨w,ws,rfl⟩
 obtain⟨w0,ws,e⟩:=e
 have hlen:=splitC_length 32 l
 have h8:∀ x∈splitC 32 l,x.length≤100000000:=fun x hx=>Nat.le_trans (splitC_piece hx) (by omega)
 rw[e]at hlen h8
 simp only[List.length_cons]at hlen
 obtain⟨a1,a2⟩:=docW_acc e
 have hk:kdW w0=0∨kdW w0=1∨kdW w0=2∨kdW w0=3∨kdW w0=4∨kdW w0=5:=by
  unfold kdW
  (repeat' split)<;>simp
 have key:∃ v,L tab (run tab X) 46 [] [.lp [1,1,1,0,1,0]] (S46_111010 0 (w0::ws).length 6 0 0 0 0 0 (eW (w0::ws)) (kdW w0) 0 0 0 0)=some ([.p v,.p (.bool (docW (kdW w0) ws))],[])∧(docW (kdW w0) ws=true→v=eS (docS (kdW w0) ws)):=by
  by_cases h4:kdW w0=4
  · rw[h4];exact l46q X hX w0 ws (by omega) h8
  · exact l46n X hX w0 ws (by omega) h8 hk h4
 obtain⟨v,h1,h2⟩:=key
 rw[a1]at h1 h2
 refine⟨v,run_of (hX _ rfl) ?_,fun h=>by rw[h2 h,a2 h]⟩
 rw[e46]
 refine bindS (c45 X hX 32 l (by omega)) ?_
 rw[e]
 have hfr:(([AV.fresh false [.str] ((w0::ws).map fun p=>PV.str (ba p))],([]:List Blk)).1.headD .undef).freshList=eW (w0::ws):=rfl
 rw[hfr,eW_length]
 refine l46k X hX w0 ws 0 (j:=1) (by omega) ?_
 refine l46k X hX w0 ws _ (j:=1+1) (by omega) ?_
 refine l46k X hX w0 ws _ (j:=1+1+1) (by omega) ?_
 refine l46k X hX w0 ws _ (j:=1+1+1+1) (by omega) ?_
 refine l46k X hX w0 ws _ (j:=1+1+1+1+1) (by omega) ?_
 have ek:(if w0=kw (1+1+1+1+1) then(1+1+1+1+1:Int) else if w0=kw (1+1+1+1) then 1+1+1+1 else if w0=kw (1+1+1) then 1+1+1 else if w0=kw (1+1) then 1+1 else if w0=kw 1 then 1 else 0)=kdW w0:=rfl
 rw[ek]
 exact h1
end
end Go.Skm.Fig
