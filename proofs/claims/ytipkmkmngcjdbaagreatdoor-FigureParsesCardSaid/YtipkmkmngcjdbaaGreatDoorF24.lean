/-
  What the document reads in a line: the numbers of its words, and that it accepts what the program accepts; no condition.
-/
import Derived.Test.YtipkmkmngcjdbaaGreatDoorF23
namespace Go.Skm.Fig
open Go Go.Skm
def eN (l:List Int):List PV:=l.map fun n=>.int .i64 n
@[simp] theorem eN_length (l:List Int):(eN l).length=l.length:=by simp[eN]
theorem eN_getD {l:List Int} {i:Nat} (h:i<l.length):(((eN l).getD i .nil).cell 0).toInt=l[i]:=by
 rw[List.getD_eq_getElem?_getD];simp[eN,h,PV.cell,PV.toInt]
def okN (w:List UInt8):Bool:=decide (Lib.itoa (numR w)=w)
def trip:List Int→List V3
 | x::y::z::r=>⟨x,y,z⟩::trip r
 | _=>[]
def restN (κ:Int) (ns:List Int):Int × Int × Int × List Int :=
 if κ=2∨κ=3 then(match ns with
  | n::r=>(n,0,0,r)
  | []=>(0,0,0,[]))
 else if 4≤κ then(match ns with
  | a::b::r=>(0,a,b,r)
  | l=>(0,0,0,l))
 else(0,0,0,ns)
def shN (κ p:Int) (ns:List Int):Sh:=⟨κ,trip (restN κ ns).2.2.2,(restN κ ns).1,(restN κ ns).2.1,(restN κ ns).2.2.1,p⟩
def okS (κ p:Int) (ns:List Int):Bool:=decide ((restN κ ns).2.2.2.length%3=0)&&shp (shN κ p ns)
def okPl (x:List UInt8):Bool:=decide (x=plB 0)||(decide (x=plB 1)||decide (x=plB 2))
def docW (κ:Int) (ws:List (List UInt8)):Bool :=
 if κ=4 then(match ws with
  | []=>false
  | x::r=>okPl x&&(r.all okN&&okS 4 (plP x) (r.map numR)))
 else ws.all okN&&okS κ 0 (ws.map numR)
def docS (κ:Int) (ws:List (List UInt8)):Sh :=
 if κ=4 then(match ws with
  | []=>default
  | x::r=>shN 4 (plP x) (r.map numR))
 else shN κ 0 (ws.map numR)
theorem numN_minus (a:Int) (l:List UInt8):numN a (45::l)=numN a l:=by rw[numN,if_neg (by decide)]
theorem numN_digits:∀ (l:List UInt8) (a:Int),(∀ b∈l,48≤b.toNat∧b.toNat≤57)→numN a l=accI a l
 | [],_,_=>rfl
 | x::r,a,h=>by
  have hx:=h x (by simp)
  rw[numN,accI,if_pos (by unfold digB;simp;omega),numN_digits r _ fun b hb=>h b (by simp[hb])]
theorem numR_itoa {n:Int} (h0:-1048576≤n) (h1:n≤1048576):numR (Lib.itoa n)=n:=by
 have hl:=itoa_len8 h0 h1
 unfold numR
 rw[List.take_of_length_le (by omega)]
 unfold Lib.itoa
 split
 · next h =>
   rw[show (45:UInt8)::Lib.decDigits n.natAbs=45::Lib.decDigits n.natAbs from rfl,numN_minus,numN_digits _ _ fun b hb=>decDigits_digit b hb,accI_dec]
   unfold sgnI
   rw[if_pos (show negB (45::Lib.decDigits n.natAbs)=true from rfl)]
   omega
 · next h =>
   rw[numN_digits _ _ fun b hb=>decDigits_digit b hb,accI_dec]
   have hne:=decDigits_ne n.toNat
   cases hd:Lib.decDigits n.toNat with
   | nil=>exact absurd hd hne
   | cons x r =>
    have hx:=decDigits_digit (u:=n.toNat) x (by rw[hd];simp)
    have hb:negB (x::r)=false:=decide_eq_false (by omega)
    unfold sgnI
    rw[if_neg (by rw[hb];simp)]
    omega
theorem okN_itoa {n:Int} (h0:-1048576≤n) (h1:n≤1048576):okN (Lib.itoa n)=true:=by
 unfold okN;rw[numR_itoa h0 h1];simp
theorem okN_eq {w:List UInt8} (h:okN w=true):Lib.itoa (numR w)=w:=by unfold okN at h;simpa using h
theorem all_itoa:∀ {ws:List (List UInt8)},ws.all okN=true→(ws.map numR).map Lib.itoa=ws
 | [],_=>rfl
 | w::ws,h=>by
  simp only[List.all_cons,Bool.and_eq_true]at h
  rw[List.map_cons,List.map_cons,okN_eq h.1,all_itoa h.2]
theorem corW_trip:∀ (ns:List Int),ns.length%3=0→corW (trip ns)=ns.map Lib.itoa
 | [],_=>rfl
 | [a],h=>by simp at h
 | [a,b],h=>by simp at h
 | x::y::z::r,h=>by
  simp only[List.length_cons]at h
  rw[trip,corW,corW_trip r (by omega)];rfl
theorem corW_ok:∀ {c:List V3},allP c=true→(corW c).all okN=true∧trip ((corW c).map numR)=c
 | [],_=>⟨rfl,rfl⟩
 | v::c,h=>by
  have hv:=pnt_in (allP_iff.1 h v (by simp))
  have hc:allP c=true:=allP_iff.2 fun u hu=>allP_iff.1 h u (by simp[hu])
  obtain⟨h1,h2⟩:=corW_ok hc
  constructor
  · simp only[corW,List.all_cons,h1,okN_itoa hv.1.1 hv.1.2,okN_itoa hv.2.1.1 hv.2.1.2,okN_itoa hv.2.2.1 hv.2.2.2];rfl
  · simp only[corW,List.map_cons,trip,h2,numR_itoa hv.1.1 hv.1.2,numR_itoa hv.2.1.1 hv.2.1.2,numR_itoa hv.2.2.1 hv.2.2.2]
theorem kdW_word {w:List UInt8} {k:Int} (h:kdW w=k) (hk:k≠0):w=kw k:=by
 unfold kdW at h
 (repeat' split at h)<;>subst h<;>first | assumption | exact absurd rfl hk
theorem kdW_kw {k:Int} (h:k=1∨k=2∨k=3∨k=4∨k=5):kdW (kw k)=k:=by
 rcases h with rfl | rfl | rfl | rfl | rfl<;>decide
theorem plP_plB {p:Int} (h:0≤p∧p≤2):plP (plB p)=p∧okPl (plB p)=true:=by
 have h:p=0∨p=1∨p=2:=by omega
 rcases h with rfl | rfl | rfl<;>decide
theorem okPl_eq {x:List UInt8} (h:okPl x=true):∃ p,(p=0∨p=1∨p=2)∧x=plB p∧plP x=p:=by
 unfold okPl at h
 simp only[Bool.or_eq_true,decide_eq_true_eq]at h
 rcases h with h | h | h
 · exact⟨0,by simp,h,by rw[h];decide⟩
 · exact⟨1,by simp,h,by rw[h];decide⟩
 · exact⟨2,by simp,h,by rw[h];decide⟩
theorem okS_shape {κ p:Int} {ns:List Int} (h:okS κ p ns=true):(restN κ ns).2.2.2.length%3=0∧Shape (shN κ p ns):=by
 unfold okS at h
 simp only[Bool.and_eq_true,decide_eq_true_eq]at h
 exact⟨h.1,shp_iff.1 h.2⟩
theorem docW_words {w0:List UInt8} {ws:List (List UInt8)} (h:docW (kdW w0) ws=true):Shape (docS (kdW w0) ws)∧wordsS (docS (kdW w0) ws)=w0::ws:=by
 have hk:kdW w0=0∨kdW w0=1∨kdW w0=2∨kdW w0=3∨kdW w0=4∨kdW w0=5:=by
  unfold kdW
  (repeat' split)<;>simp
 rcases hk with e | e | e | e | e | e
 · rw[e]at h
   simp only[docW,show ¬ ((0:Int)=4) by decide,if_false,Bool.and_eq_true]at h
   have:=(okS_shape h.2).2
   obtain⟨_,_,hh⟩:=this
   simp only[shN]at hh
   omega
 · have hw:=kdW_word e (by decide)
   rw[e]at h ⊢
   simp only[docW,docS,show ¬ ((1:Int)=4) by decide,if_false,Bool.and_eq_true]at h ⊢
   obtain⟨h3,hs⟩:=okS_shape h.2
   refine⟨hs,?_⟩
   have hc:=corW_trip _ h3
   show [kw 1]++corW (trip (ws.map numR))=_
   rw[show corW (trip (ws.map numR))=(ws.map numR).map Lib.itoa from hc,all_itoa h.1,hw];rfl
 · have hw:=kdW_word e (by decide)
   rw[e]at h ⊢
   simp only[docW,docS,show ¬ ((2:Int)=4) by decide,if_false,Bool.and_eq_true]at h ⊢
   obtain⟨h3,hs⟩:=okS_shape h.2
   refine⟨hs,?_⟩
   cases ws with
   | nil =>
    obtain⟨_,_,hh⟩:=hs
    simp[shN,restN,trip]at hh
   | cons x r =>
    have ha:=all_itoa h.1
    have hc:=corW_trip _ h3
    simp only[List.map_cons,List.cons.injEq]at ha
    show [kw 2,Lib.itoa (numR x)]++corW (trip (r.map numR))=_
    rw[show corW (trip (r.map numR))=(r.map numR).map Lib.itoa from hc,ha.1,ha.2,hw];rfl
 · have hw:=kdW_word e (by decide)
   rw[e]at h ⊢
   simp only[docW,docS,show ¬ ((3:Int)=4) by decide,if_false,Bool.and_eq_true]at h ⊢
   obtain⟨h3,hs⟩:=okS_shape h.2
   refine⟨hs,?_⟩
   cases ws with
   | nil =>
    obtain⟨_,_,hh⟩:=hs
    simp[shN,restN,trip]at hh
   | cons x r =>
    have ha:=all_itoa h.1
    have hc:=corW_trip _ h3
    simp only[List.map_cons,List.cons.injEq]at ha
    show [kw 3,Lib.itoa (numR x)]++corW (trip (r.map numR))=_
    rw[show corW (trip (r.map numR))=(r.map numR).map Lib.itoa from hc,ha.1,ha.2,hw];rfl
 · have hw:=kdW_word e (by decide)
   rw[e]at h ⊢
   cases ws with
   | nil=>simp[docW]at h
   | cons x r =>
    simp only[docW,docS,if_true,Bool.and_eq_true]at h ⊢
    obtain⟨p,hp,hx,hq⟩:=okPl_eq h.1
    obtain⟨h3,hs⟩:=okS_shape h.2.2
    refine⟨hs,?_⟩
    cases r with
    | nil =>
     obtain⟨_,_,hh⟩:=hs
     simp[shN,restN,trip]at hh
    | cons a r =>
     cases r with
     | nil =>
      obtain⟨_,_,hh⟩:=hs
      simp[shN,restN,trip]at hh
     | cons b r =>
      have ha:=all_itoa h.2.1
      have hc:=corW_trip _ h3
      simp only[List.map_cons,List.cons.injEq]at ha
      show [kw 4,plB (plP x),Lib.itoa (numR a),Lib.itoa (numR b)]++corW (trip (r.map numR))=_
      rw[show corW (trip (r.map numR))=(r.map numR).map Lib.itoa from hc,ha.1,ha.2.1,ha.2.2,hq,← hx,hw];rfl
 · have hw:=kdW_word e (by decide)
   rw[e]at h ⊢
   simp only[docW,docS,show ¬ ((5:Int)=4) by decide,if_false,Bool.and_eq_true]at h ⊢
   obtain⟨h3,hs⟩:=okS_shape h.2
   refine⟨hs,?_⟩
   cases ws with
   | nil =>
    obtain⟨_,_,hh⟩:=hs
    simp[shN,restN,trip]at hh
   | cons a r =>
    cases r with
    | nil =>
     obtain⟨_,_,hh⟩:=hs
     simp[shN,restN,trip]at hh
    | cons b r =>
     have ha:=all_itoa h.1
     have hc:=corW_trip _ h3
     simp only[List.map_cons,List.cons.injEq]at ha
     show [kw 5,Lib.itoa (numR a),Lib.itoa (numR b)]++corW (trip (r.map numR))=_
     rw[show corW (trip (r.map numR))=(r.map numR).map Lib.itoa from hc,ha.1,ha.2.1,ha.2.2,hw];rfl
theorem okS_of {κ p:Int} {ns:List Int} {s:Sh} (h3:(restN κ ns).2.2.2.length%3=0) (h:shN κ p ns=s) (hs:Shape s):okS κ p ns=true:=by
 unfold okS;rw[h,shp_iff.2 hs];simp[h3]
theorem docW_shape {s:Sh} (hs:Shape s) {w0:List UInt8} {ws:List (List UInt8)} (h:wordsS s=w0::ws):docW (kdW w0) ws=true:=by
 obtain⟨hl,hc,hh⟩:=hs
 have hs:Shape s:=⟨hl,hc,hh⟩
 obtain⟨k,c,m,r,st,p⟩:=s
 simp only at hl hc hh
 obtain⟨o1,o2⟩:=corW_ok hc
 have o3:((corW c).map numR).length%3=0:=by rw[List.length_map,corW_len];omega
 rcases hh with ⟨rfl,hh⟩ | ⟨rfl,hh⟩ | ⟨rfl,hh⟩ | ⟨rfl,hh⟩ | ⟨rfl,hh⟩
 · obtain⟨_,rfl,rfl,rfl,rfl⟩:=hh
   have h:kw 1::corW c=w0::ws:=h
   obtain⟨rfl,rfl⟩:=List.cons.inj h
   rw[kdW_kw (by simp)]
   have e:shN 1 0 ((corW c).map numR)=⟨1,c,0,0,0,0⟩:=by show Sh.mk 1 (trip ((corW c).map numR)) 0 0 0 0=_;rw[o2]
   simp only[docW,show ¬ ((1:Int)=4) by decide,if_false,o1,okS_of (κ:=1) o3 e hs,Bool.and_self]
 · obtain⟨_,rfl,rfl,rfl,h1,h2⟩:=hh
   have h:kw 2::Lib.itoa m::corW c=w0::ws:=h
   obtain⟨rfl,rfl⟩:=List.cons.inj h
   rw[kdW_kw (by simp)]
   have e:shN 2 0 ((Lib.itoa m::corW c).map numR)=⟨2,c,m,0,0,0⟩:=by show Sh.mk 2 (trip ((corW c).map numR)) (numR (Lib.itoa m)) 0 0 0=_;rw[o2,numR_itoa (by omega) (by omega)]
   simp only[docW,show ¬ ((2:Int)=4) by decide,if_false,List.all_cons,o1,okN_itoa (n:=m) (by omega) (by omega),okS_of (κ:=2) (ns:=(Lib.itoa m::corW c).map numR) o3 e hs,Bool.and_self]
 · obtain⟨_,rfl,rfl,rfl,h1,h2⟩:=hh
   have h:kw 3::Lib.itoa m::corW c=w0::ws:=h
   obtain⟨rfl,rfl⟩:=List.cons.inj h
   rw[kdW_kw (by simp)]
   have e:shN 3 0 ((Lib.itoa m::corW c).map numR)=⟨3,c,m,0,0,0⟩:=by show Sh.mk 3 (trip ((corW c).map numR)) (numR (Lib.itoa m)) 0 0 0=_;rw[o2,numR_itoa (by omega) (by omega)]
   simp only[docW,show ¬ ((3:Int)=4) by decide,if_false,List.all_cons,o1,okN_itoa (n:=m) (by omega) (by omega),okS_of (κ:=3) (ns:=(Lib.itoa m::corW c).map numR) o3 e hs,Bool.and_self]
 · obtain⟨_,h1,h2,h3,h4,rfl,h5,h6⟩:=hh
   have h:kw 4::plB p::Lib.itoa r::Lib.itoa st::corW c=w0::ws:=h
   obtain⟨rfl,rfl⟩:=List.cons.inj h
   rw[kdW_kw (by simp)]
   obtain⟨q1,q2⟩:=plP_plB ⟨h5,h6⟩
   have e:shN 4 p ((Lib.itoa r::Lib.itoa st::corW c).map numR)=⟨4,c,0,r,st,p⟩:=by show Sh.mk 4 (trip ((corW c).map numR)) 0 (numR (Lib.itoa r)) (numR (Lib.itoa st)) p=_;rw[o2,numR_itoa (by omega) (by omega),numR_itoa (by omega) (by omega)]
   simp only[docW,if_true,List.all_cons,o1,q1,q2,okN_itoa (n:=r) (by omega) (by omega),okN_itoa (n:=st) (by omega) (by omega),okS_of (κ:=4) (ns:=(Lib.itoa r::Lib.itoa st::corW c).map numR) o3 e hs,Bool.and_self]
 · obtain⟨_,h1,h2,h3,h4,rfl,rfl⟩:=hh
   have h:kw 5::Lib.itoa r::Lib.itoa st::corW c=w0::ws:=h
   obtain⟨rfl,rfl⟩:=List.cons.inj h
   rw[kdW_kw (by simp)]
   have e:shN 5 0 ((Lib.itoa r::Lib.itoa st::corW c).map numR)=⟨5,c,0,r,st,0⟩:=by show Sh.mk 5 (trip ((corW c).map numR)) 0 (numR (Lib.itoa r)) (numR (Lib.itoa st)) 0=_;rw[o2,numR_itoa (by omega) (by omega),numR_itoa (by omega) (by omega)]
   simp only[docW,show ¬ ((5:Int)=4) by decide,if_false,List.all_cons,o1,okN_itoa (n:=r) (by omega) (by omega),okN_itoa (n:=st) (by omega) (by omega),okS_of (κ:=5) (ns:=(Lib.itoa r::Lib.itoa st::corW c).map numR) o3 e hs,Bool.and_self]
theorem docW_acc {l:List UInt8} {w0:List UInt8} {ws:List (List UInt8)} (e:splitC 32 l=w0::ws):docW (kdW w0) ws=accP l∧(accP l=true→docS (kdW w0) ws=prsL l):=by
 have h1:docW (kdW w0) ws=true→accP l=true∧docS (kdW w0) ws=prsL l:=by
  intro h
  obtain⟨hs,hw⟩:=docW_words h
  have ht:textS (docS (kdW w0) ws)=l:=text_words (by rw[e,hw])
  rw[← ht,acc_text hs,prs_text hs]
  exact⟨rfl,rfl⟩
 have h2:accP l=true→docW (kdW w0) ws=true:=by
  intro h
  obtain⟨hs,ht⟩:=acc_some h
  have hw:wordsS (prsL l)=w0::ws:=by rw[← split_text,ht,e]
  exact docW_shape hs hw
 constructor
 · cases h:accP l with
   | true=>exact h2 h
   | false =>
    cases h':docW (kdW w0) ws with
    | false=>rfl
    | true=>rw[(h1 h').1]at h;cases h
 · intro h;exact(h1 (h2 h)).2
end Go.Skm.Fig
