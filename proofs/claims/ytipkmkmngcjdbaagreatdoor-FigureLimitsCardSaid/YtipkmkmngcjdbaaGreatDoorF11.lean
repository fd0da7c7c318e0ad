/-
  The points of a figure, by the program (a set, sorted by the library) and by the document (merged halves); condition: figures that fit, and a library that sorts a set's keys.
-/
import Derived.Test.YtipkmkmngcjdbaaGreatDoorF10
import Derived.Test.YtipkmkmngcjdbaaGreatDoorF4
namespace Go.Skm.Fig
open Go Go.Skm
def Up (l:List V3):Prop:=l.Pairwise fun a b=>cmpV a b=-1
theorem cmp_self (a:V3):cmpV a a=0:=cmp_eq.2 rfl
theorem lt_asymm {a b:V3} (h:cmpV a b=-1):cmpV b a≠-1:=by
 intro h2
 have:=lt_trans h h2
 rw[cmp_self]at this;omega
theorem Up.nodup {l:List V3} (h:Up l):l.Nodup:=h.imp (fun {a b} h e=>by rw[e,cmp_self]at h;omega)
theorem up_uniq:∀ {a b:List V3},Up a→Up b→(∀ v,v∈a↔v∈b)→a=b
 | [],[],_,_,_=>rfl
 | [],y::b,_,_,h=>by have:=(h y).2 (by simp);simp at this
 | x::a,[],_,_,h=>by have:=(h x).1 (by simp);simp at this
 | x::a,y::b,ha,hb,h=>by
  obtain⟨a1,a2⟩:=List.pairwise_cons.1 ha
  obtain⟨b1,b2⟩:=List.pairwise_cons.1 hb
  have e:x=y:=by
   rcases List.mem_cons.1 ((h x).1 (by simp)) with e | h1
   · exact e
   rcases List.mem_cons.1 ((h y).2 (by simp)) with e | h2
   · exact e.symm
   exact absurd (a1 y h2) (lt_asymm (b1 x h1))
  subst e
  have:a=b:=up_uniq a2 b2 fun v=>by
   constructor
   · intro hv
     rcases List.mem_cons.1 ((h v).1 (by simp[hv])) with e | h1
     · have:=a1 v hv;rw[e,cmp_self]at this;omega
     · exact h1
   · intro hv
     rcases List.mem_cons.1 ((h v).2 (by simp[hv])) with e | h1
     · have:=b1 v hv;rw[e,cmp_self]at this;omega
     · exact h1
  rw[this]
def ins (v:V3):List V3→List V3
 | []=>[v]
 | x::l=>if cmpV v x=-1 then v::x::l else if v=x then x::l else x::ins v l
theorem ins_mem (v u:V3):∀ l,u∈ins v l↔u=v∨u∈l
 | []=>by simp[ins]
 | x::l=>by
  unfold ins
  split
  · simp
  · split
    · next e=>subst e;simp
    · simp only[List.mem_cons,ins_mem v u l]
      constructor<;>rintro (h | h | h)<;>simp[h]
theorem gt_of {v x:V3} (h1:¬ cmpV v x=-1) (h2:¬ v=x):cmpV x v=-1:=by
 rcases cmp_or v x with h | h | h
 · exact absurd h h1
 · exact absurd (cmp_eq.1 h) h2
 · exact cmp_gt.1 h
theorem ins_up (v:V3):∀ {l},Up l→Up (ins v l)
 | [],_=>by simp[ins,Up]
 | x::l,h=>by
  obtain⟨h1,h2⟩:=List.pairwise_cons.1 h
  unfold ins
  split
  · next hv => exact List.pairwise_cons.2 ⟨fun y hy => by
      rcases List.mem_cons.1 hy with rfl | hy
      · exact hv
      · exact lt_trans hv (h1 y hy),h⟩
  · split
    · exact h
    · next e1 e2 => exact List.pairwise_cons.2 ⟨fun y hy => by
        rcases(ins_mem v y l).1 hy with rfl | hy
        · exact gt_of e1 e2
        · exact h1 y hy,ins_up v h2⟩
def sdL (l:List V3):List V3:=l.foldr ins []
theorem sdL_mem (v:V3):∀ l,v∈sdL l↔v∈l
 | []=>by simp[sdL]
 | x::l=>by
  show v∈ins x (sdL l)↔_
  rw[ins_mem,sdL_mem v l,List.mem_cons]
theorem sdL_up:∀ l,Up (sdL l)
 | []=>List.Pairwise.nil
 | x::l=>ins_up x (sdL_up l)
theorem sdL_eq {l m:List V3} (h:Up m) (h2:∀ v,v∈m↔v∈l):m=sdL l:=up_uniq h (sdL_up l) fun v=>by rw[h2,sdL_mem]
def eM (l:List V3):List (PV × PV):=l.map fun v=>(eV v,.bool true)
@[simp] theorem eM_length (l:List V3):(eM l).length=l.length:=by simp[eM]
theorem eq43 (a b:V3):eqT tab 4 43 [.int .i64 a.x,.int .i64 a.y,.int .i64 a.z] [.int .i64 b.x,.int .i64 b.y,.int .i64 b.z]=some ((a.x==b.x)&&((a.y==b.y)&&((a.z==b.z)&&true))):=by kernel_rfl
def addv (l:List V3) (v:V3):List V3:=if v∈l then l else l++[v]
theorem find_eM (v:V3):∀ l,∃ o,mapFind tab 43 [.int .i64 v.x,.int .i64 v.y,.int .i64 v.z] (eM l)=some o∧((v∈l∧∃ i,o=some i∧i<l.length∧at_ l i=v)∨(v ∉ l∧o=none))
 | []=>⟨none,rfl,.inr ⟨by simp,rfl⟩⟩
 | x::l=>by
  have h0:mapFind tab 43 [.int .i64 v.x,.int .i64 v.y,.int .i64 v.z] (eM (x::l))=match eqT tab 4 43 [.int .i64 v.x,.int .i64 v.y,.int .i64 v.z] [.int .i64 x.x,.int .i64 x.y,.int .i64 x.z] with
   | some true=>some (some 0)
   | some false=>(mapFind tab 43 [.int .i64 v.x,.int .i64 v.y,.int .i64 v.z] (eM l)).map fun i=>i.map (·+1)
   | none=>none:=rfl
  rw[h0,eq43,veq]
  by_cases e:v=x
  · rw[decide_eq_true e]
    exact⟨some 0,rfl,.inl ⟨by simp[e],0,rfl,by simp,by rw[e];rfl⟩⟩
  · rw[decide_eq_false e]
    obtain⟨o,h1,h2⟩:=find_eM v l
    refine⟨o.map (·+1),by rw[h1];rfl,?_⟩
    rcases h2 with ⟨h2,i,rfl,h3,h4⟩ | ⟨h2,rfl⟩
    · exact .inl ⟨by simp[h2],i+1,rfl,by simpa using h3,by rw[at_cons];exact h4⟩
    · exact .inr ⟨by simp[e,h2],rfl⟩
theorem put_eM (v:V3) (l:List V3):∃ o,mapFind tab 43 [.int .i64 v.x,.int .i64 v.y,.int .i64 v.z] (eM l)=some o∧mapPut (eM l) (PV.agg [.int .i64 v.x,.int .i64 v.y,.int .i64 v.z]) (.bool true) o=eM (addv l v):=by
 obtain⟨o,h1,h2⟩:=find_eM v l
 refine⟨o,h1,?_⟩
 unfold addv
 rcases h2 with ⟨h2,i,rfl,h3,h4⟩ | ⟨h2,rfl⟩
 · rw[if_pos h2]
   show (eM l).set i (((eM l).getD i (.nil,.nil)).1,.bool true)=eM l
   have h5:i<(eM l).length:=by simpa using h3
   have e:(eM l).getD i (.nil,.nil)=(eM l)[i]:=by rw[List.getD_eq_getElem?_getD];simp[h3]
   rw[e]
   have e2:(((eM l)[i]).1,PV.bool true)=(eM l)[i]:=by simp[eM]
   rw[e2]
   exact List.set_getElem_self h5
 · rw[if_neg h2]
   show eM l++_=_
   simp[eM]
def dset (l ps:List V3):List V3:=ps.foldl addv l
theorem addv_mem (l:List V3) (v u:V3):u∈addv l v↔u∈l∨u=v:=by
 unfold addv
 split
 · next h =>
   constructor
   · exact .inl
   · intro h2
     rcases h2 with h2 | rfl
     · exact h2
     · exact h
 · simp
theorem dset_mem (u:V3):∀ (ps l:List V3),u∈dset l ps↔u∈l∨u∈ps
 | [],l=>by simp[dset]
 | v::ps,l=>by
  show u∈dset (addv l v) ps↔_
  rw[dset_mem u ps,addv_mem,List.mem_cons,or_assoc]
theorem addv_nodup {l:List V3} (h:l.Nodup) (v:V3):(addv l v).Nodup:=by
 unfold addv
 split
 · exact h
 · next h2 =>
   rw[List.nodup_append]
   exact⟨h,by simp,fun a ha b hb=>by simp at hb;subst hb;intro e;exact h2 (e▸ha)⟩
theorem dset_nodup:∀ (ps:List V3) {l:List V3},l.Nodup→(dset l ps).Nodup
 | [],_,h=>h
 | v::ps,_,h=>dset_nodup ps (addv_nodup h v)
theorem dset_append (l ps qs:List V3):dset l (ps++qs)=dset (dset l ps) qs:=by unfold dset;rw[List.foldl_append]
def ptsS (s:Sh):List V3:=if s.k=1 then s.c else if s.k=2∨s.k=3 then linesP s else shellP s
def ptsF (f:List Sh):List V3:=f.flatMap ptsS
theorem shp_iff {s:Sh}:shp s=true↔Shape s:=decide_eq_true_iff
theorem shape_lin {s:Sh} (h:Shape s) (hk:s.k=2∨s.k=3):Lin s:=by
 obtain⟨h1,h2,h3⟩:=h
 exact⟨h1,allP_iff.1 h2,hk,by omega,by omega,by omega⟩
theorem shape_rou {s:Sh} (h:Shape s) (h1:¬ s.k=1) (hk:¬ (s.k=2∨s.k=3)):Rou s:=by
 obtain⟨h1,h2,h3⟩:=h
 exact⟨by omega,allP_iff.1 h2 _ (at_mem (by omega)),by omega,by omega,by omega,by omega,by omega⟩
theorem lf_len (s:Sh) (hm:s.m≤500):∀ n i,(lf s n i).length≤(n+1)*501
 | 0,i=>by
  show (if s.k=3 then lineP (at_ s.c i) (at_ s.c 0) s.m else []).length≤_
  split
  · unfold lineP;rw[seg_length];omega
  · simp
 | n+1,i=>by
  show (lineP (at_ s.c i) (at_ s.c (i+1)) s.m++lf s n (i+1)).length≤_
  have:=lf_len s hm n (i+1)
  rw[List.length_append];unfold lineP;rw[seg_length];omega
theorem iF_len (s:Sh) (d R:Int) (hd:d≤50) (hR:R≤50):∀ n a,(iF s d R n a).length≤n*10201
 | 0,_=>by simp[iF]
 | n+1,a=>by
  show (jF s d a _ _++iF s d R n (a+1)).length≤_
  have h1:=jF_len s d a (2*R+1).toNat (-R)
  have h2:(2*R+1).toNat*(2*d+1).toNat≤101*101:=Nat.mul_le_mul (by omega) (by omega)
  have h3:=iF_len s d R hd hR n (a+1)
  rw[List.length_append];omega
theorem ptsS_len {s:Sh} (h:Shape s):(ptsS s).length≤1040000:=by
 have h':=h
 obtain⟨h1,h2,h3⟩:=h
 unfold ptsS
 split
 · omega
 · split
   · have:=lf_len s (by omega) (s.c.length-1) 0
     unfold linesP;omega
   · next k1 k2 =>
     have hr:=(shape_rou h' k1 k2).r
     have hd:dR s≤50:=by unfold dR;split<;>omega
     have:=iF_len s (dR s) s.r hd (by omega) (2*s.r+1).toNat (-s.r)
     unfold shellP shellF;omega
section
variable (X:Ext) (hX:Mine X)
include hX
theorem c36 (s:Sh) (h:Shape s):run tab X 36 [.p (eS s)] []=some ([.p (.list true kV (encL (ptsS s)))],[]):=by
 unfold ptsS
 by_cases k1:s.k=1
 · rw[if_pos k1]
   exact run_of (hX _ rfl) (by rw[e36];exact condEqs k1 rfl)
 · rw[if_neg k1]
   by_cases k2:s.k=2∨s.k=3
   · rw[if_pos k2];exact c36a X hX s (shape_lin h k2)
   · rw[if_neg k2];exact c36b X hX s (shape_rou h k1 k2)
def srcS (s:Sh):PV:=if s.k=1 then .fn 92 [.ref [.list true kV (encL s.c)]] else if s.k=2∨s.k=3 then .fn 93 [.ref [.int .i64 s.k,.list true kV (encL s.c),.int .i64 s.m,.int .i64 s.r,.int .i64 s.s,.int .i64 s.p]] else .fn 95 [.ref [.int .i64 s.k,.list true kV (encL s.c),.int .i64 s.m,.int .i64 s.r,.int .i64 s.s,.int .i64 s.p]]
theorem c30 (s:Sh):run tab X 30 [.p (eS s)] []=some ([.p (srcS s)],[]):=by
 have h73:run tab X 58 [.p (.list true kV (encL s.c))] []=some ([.p (.fn 92 [.ref [.list true kV (encL s.c)]])],[]):=run_of (hX _ rfl) (by rw[e58])
 have h74:run tab X 59 [.p (eS s)] []=some ([.p (.fn 93 [.ref [.int .i64 s.k,.list true kV (encL s.c),.int .i64 s.m,.int .i64 s.r,.int .i64 s.s,.int .i64 s.p]])],[]):=run_of (hX _ rfl) (by rw[e59])
 have h75:run tab X 60 [.p (eS s)] []=some ([.p (.fn 95 [.ref [.int .i64 s.k,.list true kV (encL s.c),.int .i64 s.m,.int .i64 s.r,.int .i64 s.s,.int .i64 s.p]])],[]):=run_of (hX _ rfl) (by rw[e60])
 refine run_of (hX _ rfl) ?_
 rw[e30]
 unfold srcS
 by_cases k1:s.k=1
 · rw[if_pos k1];exact condEqs k1 (bindS h73 rfl)
 · rw[if_neg k1]
   refine condNes k1 ?_
   by_cases k2:s.k=2
   · rw[if_pos (.inl k2)];exact condEqs k2 (condEqs k2 (bindS h74 rfl))
   · refine condNes k2 ?_
     by_cases k3:s.k=3
     · rw[if_pos (.inr k3)];exact condEqs k3 (bindS h74 rfl)
     · rw[if_neg (by omega)];exact condNes k3 (bindS h75 rfl)
theorem l33r (t12 : List PV) (t13 t14 b3 : Int) (t19 : PV) (r : List AV × List Blk) : ∀ (ps l : List V3),
    (if(∀ v∈ps,pnt v=true) then L tab (run tab X) 13 [] [.lp [1,1,1,0,1,0]] (S13_111010 t12 t13 (IntKind.i64.wrap (t14+1)) b3 (eM (dset l ps))) else some ([.fresh true kV [],.p (.int .i64 3)],[]))=some r →
    L tab (run tab X) 13 [] [.lp [1,1,1,0,1,0],.rg [1,1,0,0,1,1,0] [(true,[.int .i64,.int .i64,.int .i64])] (encG ps)] (S13_111010_1100110 t12 t13 t14 t19 b3 (eM l))=some r
  | [],l,h=>by
   rw[if_pos (by simp)]at h
   show L tab (run tab X) 13 [] [.lp [1,1,1,0,1,0],.rg [1,1,0,0,1,1,0] [(true,[.int .i64,.int .i64,.int .i64])] []] _=_
   rw[e13_111010_1100110_nil];exact h
  | v::ps,l,h=>by
   show L tab (run tab X) 13 [] [.lp [1,1,1,0,1,0],.rg [1,1,0,0,1,1,0] [(true,[.int .i64,.int .i64,.int .i64])] (.agg [.agg [.int .i64 v.x,.int .i64 v.y,.int .i64 v.z]]::encG ps)] _=_
   rw[e13_111010_1100110_cons]
   refine bindS (u45 X hX v) ?_
   simp only[List.headD_cons,pv_p,toBool_bool]
   cases hp:pnt v
   · rw[if_neg (by simp[hp])]at h
     exact h
   · obtain⟨o,h1,h2⟩:=put_eM v l
     rw[h1,Option.getD_some,h2]
     refine l33r t12 t13 t14 b3 t19 r ps (addv l v) ?_
     have:(∀ u∈v::ps,pnt u=true)↔∀ u∈ps,pnt u=true:=by simp[hp]
     rw[show dset l (v::ps)=dset (addv l v) ps from rfl]at h
     by_cases hq:∀ u∈ps,pnt u=true
     · rw[if_pos (this.2 hq)]at h;rw[if_pos hq];exact h
     · rw[if_neg (fun c=>hq (this.1 c))]at h;rw[if_neg hq];exact h
def Keys49 (X:Ext):Prop:=∀ l:List V3,l.length≤4096→l.Nodup→∃ m,run tab X 32 [.p (.fn 64 [.ref [.mapv (encL l) (l.map fun _=>.bool true)]]),.p (.fn 34 [])] []=some ([.fresh true kV (encL m)],[])∧Up m∧∀ v,v∈m↔v∈l
def ptsE (all:List V3):List V3 × Int:=if(∀ v∈all,pnt v=true) then(if(sdL all).length > 4096 then([],7) else(sdL all,0)) else([],3)
def ptsR (f:List Sh):List V3 × Int:=if figB f=true then ptsE (ptsF f) else([],2)
omit hX in
theorem nodup_len {a b:List V3} (ha:a.Nodup) (hb:b.Nodup) (h:∀ v,v∈a↔v∈b):a.length=b.length :=
 (List.perm_ext_iff_of_nodup ha hb |>.2 h).length_eq
theorem l33 (hK : Keys49 X) (f : List Sh) (hf : f.length ≤ 50) (hs : ∀ s ∈ f,Shape s) : ∀ n i (all : List V3),i + n = f.length → (∀ v ∈ all,pnt v = true) →
    L tab (run tab X) 13 [] [.lp [1,1,1,0,1,0]] (S13_111010 (encF f) ((f.length:Nat):Int) (i:Int) 0 (eM (dset [] all)))=some ([.fresh true kV (encL (ptsE (all++ptsF (f.drop i))).1),.p (.int .i64 (ptsE (all++ptsF (f.drop i))).2)],[]):=by
  intro n
  induction n with
  | zero =>
   intro i all hi ha
   have hnd:(dset [] all).Nodup:=dset_nodup all List.nodup_nil
   have hm:∀ v,v∈dset [] all↔v∈all:=fun v=>by rw[dset_mem];simp
   have hlen:(sdL all).length=(dset [] all).length:=nodup_len (sdL_up all).nodup hnd fun v=>by rw[sdL_mem,hm]
   refine L_of ?_
   rw[e13_111010,List.drop_eq_nil_of_le (by omega)]
   refine condNP (by omega) ?_
   show _=some ([AV.fresh true kV (encL (ptsE (all++[])).1),.p (.int .i64 (ptsE (all++[])).2)],[])
   rw[List.append_nil]
   unfold ptsE
   rw[if_pos ha,hlen,eM_length]
   by_cases h4:(dset [] all).length > 4096
   · rw[if_pos h4];exact condP (by omega) rfl
   · rw[if_neg h4]
     refine condNP (by omega) ?_
     obtain⟨m,h1,h2,h3⟩:=hK (dset [] all) (by omega) hnd
     have e1:(eM (dset [] all)).map (fun x=>x.1)=encL (dset [] all):=by simp[eM,encL,encV]
     have e2:(eM (dset [] all)).map (fun x=>x.2)=(dset [] all).map fun _=>PV.bool true:=by simp[eM]
     have h50:run tab X 33 [.p (.mapv (encL (dset [] all)) ((dset [] all).map fun _=>PV.bool true))] []=some ([.p (.fn 64 [.ref [.mapv (encL (dset [] all)) ((dset [] all).map fun _=>PV.bool true)]])],[]):=run_of (hX _ rfl) (by rw[e33])
     rw[e1,e2]
     refine bindS h50 (bindS h1 ?_)
     simp only[List.headD_cons,freshList_fresh,List.drop_zero]
     rw[List.take_of_length_le (Nat.le_refl _),sdL_eq (l:=all) h2 (fun v=>by rw[h3,hm])]
  | succ n ih =>
   intro i all hi ha
   have hlt:i<f.length:=by omega
   have hsh:=hs _ (sat_mem hlt)
   refine L_of ?_
   rw[e13_111010]
   refine condP (by omega) (condT (by rw[encF_length];exact gd hlt) ?_)
   rw[tn,fcell hlt]
   refine bindS (c30 X hX (sat f i)) ?_
   have hp:ptsF (f.drop i)=ptsS (sat f i)++ptsF (f.drop (i+1)):=by rw[sdrop hlt];simp[ptsF]
   have key:∀ t19,L tab (run tab X) 13 [] [.lp [1,1,1,0,1,0],.rg [1,1,0,0,1,1,0] [(true,[.int .i64,.int .i64,.int .i64])] (encG (ptsS (sat f i)))] (S13_111010_1100110 (encF f) ((f.length:Nat):Int) (i:Int) t19 0 (eM (dset [] all)))=some ([.fresh true kV (encL (ptsE (all++ptsF (f.drop i))).1),.p (.int .i64 (ptsE (all++ptsF (f.drop i))).2)],[]):=by
    intro t19
    refine l33r X hX _ _ _ _ _ _ _ _ ?_
    rw[hp]
    by_cases hq:∀ v∈ptsS (sat f i),pnt v=true
    · rw [if_pos hq,wr1 (show i < 1099511627776 by omega),← dset_append,ih (i + 1) (all ++ ptsS (sat f i)) (by omega) (by
        intro v hv
        rcases List.mem_append.1 hv with h | h
        · exact ha v h
        · exact hq v h),List.append_assoc]
    · rw[if_neg hq]
      unfold ptsE
      rw[if_neg (fun c=>hq fun v hv=>c v (by simp[hv]))];rfl
   simp only[List.headD_cons,pv_p]
   unfold srcS
   by_cases k1:(sat f i).k=1
   · rw[if_pos k1]
     have hc:run tab X 92 [.yld,.p (.ref [.list true kV (encL (sat f i).c)])] [.log true []]=some ([],[.log true (encG (ptsS (sat f i)))]):=by
      have:=c92 X hX (sat f i).c (by have:=hsh.1;omega)
      unfold ptsS;rw[if_pos k1];exact this
     exact condT rfl (bindS hc (key _))
   · rw[if_neg k1]
     by_cases k2:(sat f i).k=2∨(sat f i).k=3
     · rw[if_pos k2]
       have hc:=c93 X hX (sat f i) (shape_lin hsh k2)
       rw[show linesP (sat f i)=ptsS (sat f i) by unfold ptsS;rw[if_neg k1,if_pos k2]]at hc
       exact condF rfl (condT rfl (bindS hc (key _)))
     · rw[if_neg k2]
       have hc:=c95 X hX (sat f i) (shape_rou hsh k1 k2)
       rw[show shellP (sat f i)=ptsS (sat f i) by unfold ptsS;rw[if_neg k1,if_neg k2]]at hc
       exact condF rfl (condF rfl (condT rfl (bindS hc (key _))))
omit hX in
theorem fig_shapes {f:List Sh} (h:figB f=true):f.length≤50∧∀ s∈f,Shape s:=by
 unfold figB at h
 simp only[Bool.and_eq_true,decide_eq_true_eq,List.all_eq_true]at h
 exact⟨h.1,fun s hs=>shp_iff.1 (h.2 s hs)⟩
theorem c13 (hK:Keys49 X) (f:List Sh) (hf:Fits f):run tab X 13 [.p (.list true kS (encF f))] []=some ([.fresh true kV (encL (ptsR f).1),.p (.int .i64 (ptsR f).2)],[]) :=
 run_of (hX _ rfl) (by
  rw[e13]
  refine bindS (c28 X hX f hf) ?_
  simp only[List.headD_cons,pv_p,toBool_bool]
  unfold ptsR
  cases hb:figB f
  · rfl
  · obtain⟨h1,h2⟩:=fig_shapes hb
    have h:=l33 X hX hK f h1 h2 f.length 0 [] (by omega) (by simp)
    rw[encF_length]
    exact h)
end
end Go.Skm.Fig
