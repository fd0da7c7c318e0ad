/-
  Figures moved, joined and turned about their middle; texts read back; no condition but validity.
-/
import Derived.Test.YtipkmkmngcjdbaaGreatDoorF29
namespace Go.Skm.Fig
open Go Go.Skm
theorem cut_text {c:UInt8}:∀ {x:List UInt8} (y:List UInt8),c ∉ x→cutC c (x++c::y)=(x,y,true)
 | [],y,_=>by simp[cutC]
 | b::x,y,h=>by
  have hb:(b==c)=false:=by
   rw[beq_eq_false_iff_ne];exact fun e=>h (by simp[e])
  have ih:=cut_text (x:=x) y fun e=>h (List.mem_cons_of_mem _ e)
  rw[List.cons_append,cutC,ih,hb];rfl
theorem pF_text:∀ (f:List Sh) (n:Nat) (num:Int) (acc:List Sh),f.length≤n→(∀ s∈f,Shape s)→pF n num acc (textF f)=(acc++f,0,0)
 | [],n,num,acc,_,_=>by
  cases n<;>simp[pF,textF]
 | s::f,0,_,_,h,_=>by simp at h
 | s::f,n+1,num,acc,h,hs=>by
  have h1:=hs s (by simp)
  have hc:=cut_text (textF f) (textS_nobr s)
  unfold pF
  rw[textF,hc,if_neg (by simp)]
  simp only
  rw[if_pos ⟨acc_text h1,trivial⟩,prs_text h1,pF_text f n (num+1) (acc++[s]) (by simp only[List.length_cons]at h;omega) fun t ht=>hs t (by simp[ht])]
  simp
theorem pars_text {f:List Sh} (h:figB f=true):parsP (textF f)=(f,0,0):=by
 obtain⟨h1,h2⟩:=fig_shapes h
 unfold parsP
 rw[pF_text f 50 1 [] h1 h2];rfl
theorem cut_join (c:UInt8):∀ l:List UInt8,(cutC c l).2.2=true→(cutC c l).1++c::(cutC c l).2.1=l
 | [],h=>by simp[cutC]at h
 | x::l,h=>by
  unfold cutC at h ⊢
  cases hb:(x==c) with
  | true =>
   have:x=c:=by simpa using hb
   simp[this]
  | false =>
   rw[hb]at h
   simp only[cond_false]at h ⊢
   rw[List.cons_append,cut_join c l h]
theorem pF_back:∀ (n:Nat) (num:Int) (acc:List Sh) (l:List UInt8),(pF n num acc l).2.2=0→textF (pF n num acc l).1=textF acc++l
 | 0,num,acc,l,h=>by
  unfold pF at h ⊢
  by_cases he:l=[]
  · rw[if_pos he]at h ⊢;simp[he]
  · rw[if_neg he]at h;simp at h
 | n+1,num,acc,l,h=>by
  unfold pF at h ⊢
  by_cases he:l=[]
  · rw[if_pos he]at h ⊢;simp[he]
  · rw[if_neg he]at h ⊢
    by_cases hh:accP (cutC 10 l).1=true∧(cutC 10 l).2.2=true
    · rw[if_pos hh]at h ⊢
      rw[pF_back n _ _ _ h,textF_append]
      have:=(acc_some hh.1).2
      simp only[textF,this,List.append_assoc,List.cons_append,List.nil_append]
      rw[cut_join 10 l hh.2]
    · rw[if_neg hh]at h;simp at h
theorem pars_back {l:List UInt8} (h:(parsP l).2.2=0):textF (parsP l).1=l:=by
 have:=pF_back 50 1 [] l h
 unfold parsP
 rw[this];rfl
theorem fig_of {f:List Sh} (h1:f.length≤50) (h2:∀ s∈f,Shape s):figB f=true:=by
 unfold figB
 simp only[Bool.and_eq_true,decide_eq_true_eq,List.all_eq_true]
 exact⟨h1,fun s hs=>shp_iff.2 (h2 s hs)⟩
theorem ptsR_ok {f:List Sh} (h:(ptsR f).2=0):figB f=true∧(∀ v∈ptsF f,pnt v=true)∧(ptsR f).1=sdL (ptsF f)∧(sdL (ptsF f)).length≤4096:=by
 unfold ptsR ptsE at h ⊢
 by_cases hb:figB f=true
 · rw[if_pos hb]at h ⊢
   by_cases hv:∀ v∈ptsF f,pnt v=true
   · rw[if_pos hv]at h ⊢
     by_cases hl:(sdL (ptsF f)).length > 4096
     · rw[if_pos hl]at h;simp at h
     · rw[if_neg hl];exact⟨hb,hv,rfl,by omega⟩
   · rw[if_neg hv]at h;simp at h
 · rw[if_neg hb]at h;simp at h
theorem ptsR_of {f:List Sh} (hb:figB f=true) (hv:∀ v∈ptsF f,pnt v=true):ptsR f=if(sdL (ptsF f)).length > 4096 then([],7) else(sdL (ptsF f),0):=by
 unfold ptsR ptsE
 rw[if_pos hb,if_pos hv]
theorem ptsF_append (a b:List Sh):ptsF (a++b)=ptsF a++ptsF b:=by unfold ptsF;rw[List.flatMap_append]
structure Mg (B L M:List V3):Prop where
 b:Up B
 l:Up L
 m:Up M
 mem:∀ v,v∈B↔v∈L∨v∈M
def hd (L:List V3) (x:V3):Bool:=match L with
 | []=>false
 | y::_=>decide (y=x)
def tl (L:List V3) (x:V3):List V3:=bif hd L x then L.tail else L
theorem tl_spec {L:List V3} {x:V3} {B:List V3} (hL:Up L) (hB:Up (x::B)) (h:∀ v,v∈L→v∈x::B):Up (tl L x)∧(x∈L→hd L x=true)∧(∀ v,v∈tl L x↔v∈L∧v≠x):=by
 cases L with
 | nil=>exact⟨hL,by simp,by simp[tl,hd]⟩
 | cons y L =>
  obtain⟨y1,y2⟩:=List.pairwise_cons.1 hL
  obtain⟨x1,x2⟩:=List.pairwise_cons.1 hB
  by_cases e:y=x
  · subst e
    have ht:tl (y::L) y=L:=by simp[tl,hd]
    rw[ht]
    refine⟨y2,fun _=>by simp[hd],fun v=>?_⟩
    constructor
    · intro hv
      refine⟨List.mem_cons_of_mem _ hv,fun e=>?_⟩
      have:=y1 v hv
      rw[e,cmp_self]at this;omega
    · rintro ⟨hv,hne⟩
      rcases List.mem_cons.1 hv with rfl | hv
      · exact absurd rfl hne
      · exact hv
  · have hx : x ∉ y::L := by
      intro hx
      rcases List.mem_cons.1 hx with hx | hx
      · exact e hx.symm
      · have a1:=y1 x hx
        rcases List.mem_cons.1 (h y (by simp)) with h2 | h2
        · exact e h2
        · exact lt_asymm a1 (x1 y h2)
    have ht:tl (y::L) x=y::L:=by simp[tl,hd,e]
    rw[ht]
    exact⟨hL,fun h=>absurd h hx,fun v=>⟨fun hv=>⟨hv,fun e=>hx (e▸hv)⟩,fun hv=>hv.1⟩⟩
theorem Mg.step {x:V3} {B L M:List V3} (h:Mg (x::B) L M):(hd L x=true∨hd M x=true)∧Mg B (tl L x) (tl M x):=by
 obtain⟨hB,hL,hM,hm⟩:=h
 obtain⟨a1,a2,a3⟩:=tl_spec hL hB fun v hv=>(hm v).2 (.inl hv)
 obtain⟨b1,b2,b3⟩:=tl_spec hM hB fun v hv=>(hm v).2 (.inr hv)
 obtain⟨x1,x2⟩:=List.pairwise_cons.1 hB
 refine⟨?_,x2,a1,b1,fun v=>?_⟩
 · rcases(hm x).1 (by simp) with h | h
   · exact .inl (a2 h)
   · exact .inr (b2 h)
 · rw[a3,b3]
   constructor
   · intro hv
     have hne:v≠x:=fun e=>by
      have:=x1 v hv
      rw[e,cmp_self]at this;omega
     rcases(hm v).1 (List.mem_cons_of_mem _ hv) with h | h
     · exact .inl ⟨h,hne⟩
     · exact .inr ⟨h,hne⟩
   · intro hv
     have hne:v≠x:=by rcases hv with h | h<;>exact h.2
     have:v∈x::B:=(hm v).2 (hv.imp And.left And.left)
     rcases List.mem_cons.1 this with h | h
     · exact absurd h hne
     · exact h
theorem Mg.done {L M:List V3} (h:Mg [] L M):L=[]∧M=[]:=by
 constructor
 · refine List.eq_nil_iff_forall_not_mem.2 fun v hv=>?_
   have:=(h.mem v).2 (.inl hv)
   simp at this
 · refine List.eq_nil_iff_forall_not_mem.2 fun v hv=>?_
   have:=(h.mem v).2 (.inr hv)
   simp at this
theorem mg_of (x y:List V3):Mg (sdL (x++y)) (sdL x) (sdL y):=⟨sdL_up _,sdL_up _,sdL_up _,fun v=>by rw[sdL_mem,sdL_mem,sdL_mem,List.mem_append]⟩
theorem both_len (x y:List V3):(sdL (x++y)).length≤(sdL x).length+(sdL y).length:=by
 rw[← List.length_append]
 refine List.Nodup.length_le_of_subset (sdL_up _).nodup fun v hv=>?_
 rw[sdL_mem,List.mem_append]at hv
 rw[List.mem_append,sdL_mem,sdL_mem]
 exact hv
abbrev mv (b:V3) (l:List V3):List V3:=l.map fun v=>addV v b
theorem mv_app (b:V3) (x y:List V3):mv b (x++y)=mv b x++mv b y:=List.map_append
theorem up_mv {l:List V3} (b:V3) (h:Up l):Up (mv b l):=by
 refine List.pairwise_map.2 (h.imp fun {u v} huv=>?_)
 rw[cmp_lt]at huv ⊢
 simp only[addV]
 omega
theorem sdL_mv (b:V3) (l:List V3):sdL (mv b l)=mv b (sdL l):=by
 refine(sdL_eq (up_mv b (sdL_up l)) fun v=>?_).symm
 simp only[List.mem_map,sdL_mem]
theorem at_mv (b:V3) {l:List V3} {i:Nat} (h:i<l.length):at_ (mv b l) i=addV (at_ l i) b:=by
 rw[at_eq h,at_eq (by simpa using h)]
 simp
theorem btw_mv (b p q:V3) (k m:Int):btw (addV p b) (addV q b) k m=addV (btw p q k m) b:=by
 have e:∀ x y c:Int,btw1 (x+c) (y+c) k m=btw1 x y k m+c:=by
  intro x y c
  unfold btw1
  rw[show y+c-(x+c)=y-x by omega];omega
 unfold btw addV
 simp only[e]
theorem line_mv (b p q:V3) (m:Int):lineP (addV p b) (addV q b) m=mv b (lineP p q m):=by
 unfold lineP seg mv
 rw[List.map_map]
 exact List.map_congr_left fun j _=>btw_mv b p q j m
theorem lf_mv (b:V3) (s:Sh):∀ (n i:Nat),i+n<s.c.length→lf (movS b s) n i=mv b (lf s n i)
 | 0,i,h=>by
  unfold lf
  have e1:at_ (movS b s).c i=addV (at_ s.c i) b:=at_mv b (by omega)
  have e2:at_ (movS b s).c 0=addV (at_ s.c 0) b:=at_mv b (by omega)
  have e3:(movS b s).k=s.k:=rfl
  have e4:(movS b s).m=s.m:=rfl
  rw[e1,e2,e3,e4,line_mv]
  split<;>rfl
 | n+1,i,h=>by
  unfold lf
  have e1:at_ (movS b s).c i=addV (at_ s.c i) b:=at_mv b (by omega)
  have e2:at_ (movS b s).c (i+1)=addV (at_ s.c (i+1)) b:=at_mv b (by omega)
  have e4:(movS b s).m=s.m:=rfl
  rw[e1,e2,e4,line_mv,lf_mv b s n (i+1) (by omega),← List.map_append]
theorem sPt_mv (b:V3) {s:Sh} (h:s.c.length=1) (i j k:Int):sPt (movS b s) i j k=addV (sPt s i j k) b:=by
 have e1:at_ (movS b s).c 0=addV (at_ s.c 0) b:=at_mv b (by omega)
 have e2:(movS b s).s=s.s:=rfl
 have e3:(movS b s).p=s.p:=rfl
 unfold sPt
 rw[e1,e2,e3]
 split
 · simp only[addV];congr 1<;>omega
 · split
   · simp only[addV];congr 1<;>omega
   · simp only[addV];congr 1<;>omega
theorem kF_mv (b:V3) {s:Sh} (h:s.c.length=1) (i j:Int):∀ (n:Nat) (a:Int),kF (movS b s) i j n a=mv b (kF s i j n a)
 | 0,_=>rfl
 | n+1,a=>by
  rw[kF,kF,mv_app,kF_mv b h i j n]
  unfold kC
  rw[sPt_mv b h]
  have e:(movS b s).r=s.r:=rfl
  rw[e]
  split<;>rfl
theorem jF_mv (b:V3) {s:Sh} (h:s.c.length=1) (d i:Int):∀ (n:Nat) (a:Int),jF (movS b s) d i n a=mv b (jF s d i n a)
 | 0,_=>rfl
 | n+1,a=>by rw[jF,jF,mv_app,jF_mv b h d i n,kF_mv b h]
theorem iF_mv (b:V3) {s:Sh} (h:s.c.length=1) (d R:Int):∀ (n:Nat) (a:Int),iF (movS b s) d R n a=mv b (iF s d R n a)
 | 0,_=>rfl
 | n+1,a=>by rw[iF,iF,mv_app,iF_mv b h d R n,jF_mv b h]
theorem pts_mv (b:V3) {s:Sh} (h:Shape s):ptsS (movS b s)=mv b (ptsS s):=by
 have e:(movS b s).k=s.k:=rfl
 have e2:(movS b s).r=s.r:=rfl
 unfold ptsS
 rw[e]
 by_cases h1:s.k=1
 · rw[if_pos h1,if_pos h1];rfl
 · rw[if_neg h1,if_neg h1]
   by_cases h2:s.k=2∨s.k=3
   · rw[if_pos h2,if_pos h2]
     have hl:=(shape_lin h h2).2.2.2.1
     unfold linesP
     have:(movS b s).c.length=s.c.length:=by show (mv b s.c).length=_;simp
     rw[this]
     exact lf_mv b s _ _ (by omega)
   · rw[if_neg h2,if_neg h2]
     have hr:=shape_rou h h1 h2
     unfold shellP shellF
     have:dR (movS b s)=dR s:=rfl
     rw[this,e2]
     exact iF_mv b hr.len _ _ _ _
theorem ptsF_mv (b:V3):∀ {f:List Sh},(∀ s∈f,Shape s)→ptsF (f.map (movS b))=mv b (ptsF f)
 | [],_=>rfl
 | s::f,h=>by
  have ih:=ptsF_mv b (f:=f) fun t ht=>h t (by simp[ht])
  unfold ptsF at ih ⊢
  rw[List.map_cons,List.flatMap_cons,List.flatMap_cons,ih,pts_mv b (h s (by simp)),← List.map_append]
theorem movG_ok (b:V3):∀ {f acc:List Sh},(movG b acc f).2=0→(movG b acc f).1=acc++f.map (movS b)∧∀ s∈f,okM b s.c=true
 | [],acc,_=>by simp[movG]
 | s::f,acc,h=>by
  unfold movG at h ⊢
  by_cases hk:okM b s.c=true
  · rw[if_pos hk]at h ⊢
    obtain⟨h1,h2⟩:=movG_ok b h
    rw[h1]
    refine⟨by simp,fun t ht=>?_⟩
    rcases List.mem_cons.1 ht with rfl | ht
    · exact hk
    · exact h2 t ht
  · rw[if_neg hk]at h;simp at h
theorem shape_mv {b:V3} {s:Sh} (h:Shape s) (hk:okM b s.c=true):Shape (movS b s):=by
 obtain⟨h1,h2,h3⟩:=h
 have hl:(movS b s).c.length=s.c.length:=by show (mv b s.c).length=_;simp
 refine⟨by rw[hl];exact h1,?_,by rw[hl];exact h3⟩
 rw[allP_iff]
 intro v hv
 obtain⟨u,hu,rfl⟩:=List.mem_map.1 hv
 unfold okM at hk
 exact List.all_eq_true.1 hk u hu
theorem movR_ok {f:List Sh} {b:V3} (h:(movR f b).2=0):figB f=true∧figB (movR f b).1=true∧ptsF (movR f b).1=mv b (ptsF f):=by
 unfold movR at h ⊢
 by_cases hh:figB f=true∧inM 16777216 b=true
 · rw[if_pos hh]at h ⊢
   obtain⟨h1,h2⟩:=movG_ok b h
   rw[List.nil_append]at h1
   obtain⟨g1,g2⟩:=fig_shapes hh.1
   rw[h1]
   refine⟨hh.1,fig_of (by simpa using g1) fun s hs=>?_,ptsF_mv b g2⟩
   obtain⟨t,ht,rfl⟩:=List.mem_map.1 hs
   exact shape_mv (g2 t ht) (h2 t ht)
 · rw[if_neg hh]at h;simp at h
theorem mov_pts {f:List Sh} {b:V3} (h:(movR f b).2=0) (hp:(ptsR f).2=0):ptsR (movR f b).1=([],3)∨ptsR (movR f b).1=(mv b (ptsR f).1,0):=by
 obtain⟨h1,h2,h3⟩:=movR_ok h
 obtain⟨_,p1,p2,p3⟩:=ptsR_ok hp
 by_cases hv:∀ v∈ptsF (movR f b).1,pnt v=true
 · right
   rw[ptsR_of h2 hv,h3,sdL_mv,if_neg (by rw[List.length_map];omega),p2]
 · left
   unfold ptsR ptsE
   rw[if_pos h2,if_neg hv]
def subV (o v:V3):V3:=⟨o.x-v.x,o.y-v.y,o.z-v.z⟩
theorem sub_sub' (o v:V3):subV o (subV o v)=v:=by
 cases v
 simp only[subV,V3.mk.injEq];omega
theorem opp_rev {o:V3} {l:List V3} (h:Up l) (hc:∀ v∈l,subV o v∈l):(l.map (subV o)).reverse=l:=by
 refine up_uniq ?_ h fun v=>?_
 · refine List.pairwise_reverse.2 (List.pairwise_map.2 (h.imp fun {u v} huv=>?_))
   rw[cmp_lt]at huv ⊢
   simp only[subV]
   omega
 · rw[List.mem_reverse,List.mem_map]
   constructor
   · rintro ⟨u,hu,rfl⟩;exact hc u hu
   · intro hv;exact⟨subV o v,hc v hv,sub_sub' o v⟩
theorem opp_at {o:V3} {l:List V3} (h:Up l) (hc:∀ v∈l,subV o v∈l) {k:Nat} (hk:k<l.length):at_ l (l.length-1-k)=subV o (at_ l k):=by
 have e:=opp_rev h hc
 have h1:l.length-1-k<(l.map (subV o)).reverse.length:=by rw[List.length_reverse,List.length_map];omega
 have h2:at_ l (l.length-1-k)=at_ (l.map (subV o)).reverse (l.length-1-k):=by rw[e]
 rw[h2,at_eq h1,List.getElem_reverse,List.getElem_map,at_eq hk]
 congr 2
 rw[List.length_map];omega
theorem near_neg (i j k r:Int):nearB (-i*-i+-j*-j+-k*-k) r=nearB (i*i+j*j+k*k) r:=by
 rw[Int.neg_mul_neg,Int.neg_mul_neg,Int.neg_mul_neg]
theorem shell_opp {s:Sh} (hs:Rou s) {v:V3} (h:v∈shellP s):subV (addV (at_ s.c 0) (at_ s.c 0)) v∈shellP s:=by
 rw[mem_shell hs]at h ⊢
 obtain⟨i,j,k,h1,h2,h3,h4,h5,h6,h7,rfl⟩:=h
 refine⟨-i,-j,-k,by omega,by omega,by omega,by omega,by omega,by omega,by rw[near_neg];exact h7,?_⟩
 unfold sPt
 simp only[Int.neg_mul]
 split
 · simp only[subV,addV,V3.mk.injEq];omega
 · split
   · simp only[subV,addV,V3.mk.injEq];omega
   · simp only[subV,addV,V3.mk.injEq];omega
theorem one_pts {f:List Sh} (hp:(ptsR f).2=0) {s:Sh} (hs:s∈f):ptsR [s]=(sdL (ptsS s),0):=by
 obtain⟨h1,h2,h3,h4⟩:=ptsR_ok hp
 obtain⟨g1,g2⟩:=fig_shapes h1
 have hsub:∀ v∈ptsS s,v∈ptsF f:=fun v hv=>by
  unfold ptsF;exact List.mem_flatMap.2 ⟨s,hs,hv⟩
 have hle:(sdL (ptsS s)).length≤(sdL (ptsF f)).length:=List.Nodup.length_le_of_subset (sdL_up _).nodup fun v hv=>by
  rw[sdL_mem]at hv ⊢;exact hsub v hv
 rw[ptsR_of (figB_one (g2 s hs)) (by rw[ptsF_one];exact fun v hv=>h2 v (hsub v hv)),ptsF_one,if_neg (by omega)]
theorem one_opp {s:Sh} (h:Shape s) (hk:s.k=4∨s.k=5) {k:Nat} (hl:k<(sdL (ptsS s)).length):at_ (sdL (ptsS s)) ((sdL (ptsS s)).length-1-k)=subV (addV (at_ s.c 0) (at_ s.c 0)) (at_ (sdL (ptsS s)) k):=by
 have hr:Rou s:=shape_rou h (by omega) (by omega)
 have e:ptsS s=shellP s:=by unfold ptsS;rw[if_neg (by omega),if_neg (by omega)]
 refine opp_at (sdL_up _) (fun v hv=>?_) hl
 rw[sdL_mem,e]at hv ⊢
 exact shell_opp hr hv
end Go.Skm.Fig
