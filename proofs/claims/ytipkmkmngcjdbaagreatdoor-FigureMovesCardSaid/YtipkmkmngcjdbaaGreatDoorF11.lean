/-
  The points of a figure, by the program (a set, sorted by the library) and by the document (merged halves); condition: figures that fit, and a library that sorts a set's keys.
-/
import Derived.Test.YtipkmkmngcjdbaaGreatDoorF10
import Derived.Test.YtipkmkmngcjdbaaGreatDoorF4
namespace Go.Skm.Fig
open Go Go.Skm
def Up (l:List V3):Prop:=l.Pairwise fun a b=>mF a b=-1
theorem Af (a:V3):mF a a=0:=cmp_eq.2 rfl
theorem lt_asymm {a b:V3} (h:mF a b=-1):mF b a≠-1:=by
 intro h2
 have:=lt_trans h h2
 rw[Af]at this;omega
theorem Up.nodup {l:List V3} (h:Up l):l.Nodup:=h.imp (fun {a b} h e=>by rw[e,Af]at h;omega)
theorem Vx:∀ {a b:List V3},Up a→Up b→(∀ v,v∈a↔v∈b)→a=b
 | [],[],_,_,_=>rfl
 | [],y::b,_,_,h=>by have:=(h y).2 (by simp);simp at this
 | x::a,[],_,_,h=>by have:=(h x).1 (by simp);simp at this
 | x::a,y::b,ha,hb,h=>by
  obtain⟨a1,a2⟩:=List.pairwise_cons.1 ha
  obtain⟨b1,b2⟩:=List.pairwise_cons.1 hb
  have e:x=y:=by
   rcases List.mem_cons.1 ((h x).1 (by simp)) with e | h1
   · exact e
   rcases List.mem_cons.1 ((h y).2 (by simp)) with e | h2
   · exact e.symm
   exact absurd (a1 y h2) (lt_asymm (b1 x h1))
  subst e
  have:a=b:=Vx a2 b2 fun v=>by
   constructor
   · intro hv
     rcases List.mem_cons.1 ((h v).1 (by simp[hv])) with e | h1
     · have:=a1 v hv;rw[e,Af]at this;omega
     · exact h1
   · intro hv
     rcases List.mem_cons.1 ((h v).2 (by simp[hv])) with e | h1
     · have:=b1 v hv;rw[e,Af]at this;omega
     · exact h1
  rw[this]
def ins (v:V3):List V3→List V3
 | []=>[v]
 | x::l=>if mF v x=-1 then v::x::l else if v=x then x::l else x::ins v l
theorem OW (v u:V3):∀ l,u∈ins v l↔u=v∨u∈l
 | []=>by simp[ins]
 | x::l=>by
  unfold ins
  split
  · simp
  · split
    · next e=>subst e;simp
    · simp only[List.mem_cons,OW v u l]
      constructor<;>rintro (h | h | h)<;>simp[h]
theorem aec {v x:V3} (h1:¬ mF v x=-1) (h2:¬ v=x):mF x v=-1:=by
 rcases OL v x with h | h | h
 · exact absurd h h1
 · exact absurd (cmp_eq.1 h) h2
 · exact Tt.1 h
theorem YJ (v:V3):∀ {l},Up l→Up (ins v l)
 | [],_=>by simp[ins,Up]
 | x::l,h=>by
  obtain⟨h1,h2⟩:=List.pairwise_cons.1 h
  unfold ins
  split
  · next hv => exact List.pairwise_cons.2 ⟨fun y hy => by
      rcases List.mem_cons.1 hy with rfl | hy
      · exact hv
      · exact lt_trans hv (h1 y hy),h⟩
  · split
    · exact h
    · next e1 e2 => exact List.pairwise_cons.2 ⟨fun y hy => by
        rcases(OW v y l).1 hy with rfl | hy
        · exact aec e1 e2
        · exact h1 y hy,YJ v h2⟩
def X4 (l:List V3):List V3:=l.foldr ins []
theorem I5 (v:V3):∀ l,v∈X4 l↔v∈l
 | []=>by simp[X4]
 | x::l=>by
  show v∈ins x (X4 l)↔_
  rw[OW,I5 v l,List.mem_cons]
theorem OT:∀ l,Up (X4 l)
 | []=>List.Pairwise.nil
 | x::l=>YJ x (OT l)
theorem Yx {l m:List V3} (h:Up m) (h2:∀ v,v∈m↔v∈l):m=X4 l:=Vx h (OT l) fun v=>by rw[h2,I5]
def eM (l:List V3):List (PV × PV):=l.map fun v=>(eV v,.bool true)
@[simp] theorem WO (l:List V3):(eM l).length=l.length:=by simp[eM]
theorem aiU (a b:V3):OX tab 4 43 [.int .i64 a.x,.int .i64 a.y,.int .i64 a.z] [.int .i64 b.x,.int .i64 b.y,.int .i64 b.z]=some ((a.x==b.x)&&((a.y==b.y)&&((a.z==b.z)&&true))):=by kernel_rfl
def MI (l:List V3) (v:V3):List V3:=if v∈l then l else l++[v]
theorem Vy (v:V3):∀ l,∃ o,oq tab 43 [.int .i64 v.x,.int .i64 v.y,.int .i64 v.z] (eM l)=some o∧((v∈l∧∃ i,o=some i∧i<l.length∧at_ l i=v)∨(v ∉ l∧o=none))
 | []=>⟨none,rfl,.inr ⟨by simp,rfl⟩⟩
 | x::l=>by
  have h0:oq tab 43 [.int .i64 v.x,.int .i64 v.y,.int .i64 v.z] (eM (x::l))=match OX tab 4 43 [.int .i64 v.x,.int .i64 v.y,.int .i64 v.z] [.int .i64 x.x,.int .i64 x.y,.int .i64 x.z] with
   | some true=>some (some 0)
   | some false=>(oq tab 43 [.int .i64 v.x,.int .i64 v.y,.int .i64 v.z] (eM l)).map fun i=>i.map (·+1)
   | none=>none:=rfl
  rw[h0,aiU,veq]
  by_cases e:v=x
  · rw[decide_eq_true e]
    exact⟨some 0,rfl,.inl ⟨by simp[e],0,rfl,by simp,by rw[e];rfl⟩⟩
  · rw[decide_eq_false e]
    obtain⟨o,h1,h2⟩:=Vy v l
    refine⟨o.map (·+1),by rw[h1];rfl,?_⟩
    rcases h2 with ⟨h2,i,rfl,h3,h4⟩ | ⟨h2,rfl⟩
    · exact .inl ⟨by simp[h2],i+1,rfl,by simpa using h3,by rw[aaF];exact h4⟩
    · exact .inr ⟨by simp[e,h2],rfl⟩
theorem acn (v:V3) (l:List V3):∃ o,oq tab 43 [.int .i64 v.x,.int .i64 v.y,.int .i64 v.z] (eM l)=some o∧yK (eM l) (PV.agg [.int .i64 v.x,.int .i64 v.y,.int .i64 v.z]) (.bool true) o=eM (MI l v):=by
 obtain⟨o,h1,h2⟩:=Vy v l
 refine⟨o,h1,?_⟩
 unfold MI
 rcases h2 with ⟨h2,i,rfl,h3,h4⟩ | ⟨h2,rfl⟩
 · rw[if_pos h2]
   show (eM l).set i (((eM l).getD i (.nil,.nil)).1,.bool true)=eM l
   have h5:i<(eM l).length:=by simpa using h3
   have e:(eM l).getD i (.nil,.nil)=(eM l)[i]:=by rw[List.getD_eq_getElem?_getD];simp[h3]
   rw[e]
   have e2:(((eM l)[i]).1,PV.bool true)=(eM l)[i]:=by simp[eM]
   rw[e2]
   exact List.set_getElem_self h5
 · rw[if_neg h2]
   show eM l++_=_
   simp[eM]
def rV (l ps:List V3):List V3:=ps.foldl MI l
theorem YK (l:List V3) (v u:V3):u∈MI l v↔u∈l∨u=v:=by
 unfold MI
 split
 · next h =>
   constructor
   · exact .inl
   · intro h2
     rcases h2 with h2 | rfl
     · exact h2
     · exact h
 · simp
theorem QF (u:V3):∀ (ps l:List V3),u∈rV l ps↔u∈l∨u∈ps
 | [],l=>by simp[rV]
 | v::ps,l=>by
  show u∈rV (MI l v) ps↔_
  rw[QF u ps,YK,List.mem_cons,or_assoc]
theorem TM {l:List V3} (h:l.Nodup) (v:V3):(MI l v).Nodup:=by
 unfold MI
 split
 · exact h
 · next h2 =>
   rw[List.nodup_append]
   exact⟨h,by simp,fun a ha b hb=>by simp at hb;subst hb;intro e;exact h2 (e▸ha)⟩
theorem JE:∀ (ps:List V3) {l:List V3},l.Nodup→(rV l ps).Nodup
 | [],_,h=>h
 | v::ps,_,h=>JE ps (TM h v)
theorem QG (l ps qs:List V3):rV l (ps++qs)=rV (rV l ps) qs:=by unfold rV;rw[List.foldl_append]
def JF (s:Sh):List V3:=if s.k=1 then s.c else if s.k=2∨s.k=3 then TN s else JD s
def QH (f:List Sh):List V3:=f.flatMap JF
theorem EF {s:Sh}:FP s=true↔Shape s:=decide_eq_true_iff
theorem WQ {s:Sh} (h:Shape s) (hk:s.k=2∨s.k=3):Lin s:=by
 obtain⟨h1,h2,h3⟩:=h
 exact⟨h1,lS.1 h2,hk,by omega,by omega,by omega⟩
theorem WR {s:Sh} (h:Shape s) (h1:¬ s.k=1) (hk:¬ (s.k=2∨s.k=3)):WM s:=by
 obtain⟨h1,h2,h3⟩:=h
 exact⟨by omega,lS.1 h2 _ (at_mem (by omega)),by omega,by omega,by omega,by omega,by omega⟩
section
variable (X:Ext) (hX:Mine X)
include hX
def aco (s:Sh):PV:=if s.k=1 then .fn 92 [.ref [.list true kV (bJ s.c)]] else if s.k=2∨s.k=3 then .fn 93 [.ref [.int .i64 s.k,.list true kV (bJ s.c),.int .i64 s.m,.int .i64 s.r,.int .i64 s.s,.int .i64 s.p]] else .fn 95 [.ref [.int .i64 s.k,.list true kV (bJ s.c),.int .i64 s.m,.int .i64 s.r,.int .i64 s.s,.int .i64 s.p]]
theorem c30 (s:Sh):run tab X 30 [.p (eS s)] []=some ([.p (aco s)],[]):=by
 have h73:run tab X 58 [.p (.list true kV (bJ s.c))] []=some ([.p (.fn 92 [.ref [.list true kV (bJ s.c)]])],[]):=bK (hX _ rfl) (by rw[e58])
 have X5:run tab X 59 [.p (eS s)] []=some ([.p (.fn 93 [.ref [.int .i64 s.k,.list true kV (bJ s.c),.int .i64 s.m,.int .i64 s.r,.int .i64 s.s,.int .i64 s.p]])],[]):=bK (hX _ rfl) (by rw[e59])
 have h75:run tab X 60 [.p (eS s)] []=some ([.p (.fn 95 [.ref [.int .i64 s.k,.list true kV (bJ s.c),.int .i64 s.m,.int .i64 s.r,.int .i64 s.s,.int .i64 s.p]])],[]):=bK (hX _ rfl) (by rw[e60])
 refine bK (hX _ rfl) ?_
 rw[e30]
 unfold aco
 by_cases k1:s.k=1
 · rw[if_pos k1];exact ou k1 (aW h73 rfl)
 · rw[if_neg k1]
   refine pU k1 ?_
   by_cases k2:s.k=2
   · rw[if_pos (.inl k2)];exact ou k2 (ou k2 (aW X5 rfl))
   · refine pU k2 ?_
     by_cases k3:s.k=3
     · rw[if_pos (.inr k3)];exact ou k3 (aW X5 rfl)
     · rw[if_neg (by omega)];exact pU k3 (aW h75 rfl)
theorem aed (t12 : List PV) (t13 t14 b3 : Int) (t19 : PV) (r : List AV × List aI) : ∀ (ps l : List V3),
    (if(∀ v∈ps,vU v=true) then L tab (run tab X) 13 [] [.lp [1,1,1,0,1,0]] (uN t12 t13 (IntKind.i64.wrap (t14+1)) b3 (eM (rV l ps))) else some ([.fresh true kV [],.p (.int .i64 3)],[]))=some r →
    L tab (run tab X) 13 [] [.lp [1,1,1,0,1,0],.rg [1,1,0,0,1,1,0] [(true,[.int .i64,.int .i64,.int .i64])] (lg ps)] (eG t12 t13 t14 t19 b3 (eM l))=some r
  | [],l,h=>by
   rw[if_pos (by simp)]at h
   show L tab (run tab X) 13 [] [.lp [1,1,1,0,1,0],.rg [1,1,0,0,1,1,0] [(true,[.int .i64,.int .i64,.int .i64])] []] _=_
   rw[yJ];exact h
  | v::ps,l,h=>by
   show L tab (run tab X) 13 [] [.lp [1,1,1,0,1,0],.rg [1,1,0,0,1,1,0] [(true,[.int .i64,.int .i64,.int .i64])] (.agg [.agg [.int .i64 v.x,.int .i64 v.y,.int .i64 v.z]]::lg ps)] _=_
   rw[xK]
   refine aW (u45 X hX v) ?_
   simp only[List.headD_cons,iP,bF]
   cases hp:vU v
   · rw[if_neg (by simp[hp])]at h
     exact h
   · obtain⟨o,h1,h2⟩:=acn v l
     rw[h1,Option.getD_some,h2]
     refine aed t12 t13 t14 b3 t19 r ps (MI l v) ?_
     have:(∀ u∈v::ps,vU u=true)↔∀ u∈ps,vU u=true:=by simp[hp]
     rw[show rV l (v::ps)=rV (MI l v) ps from rfl]at h
     by_cases hq:∀ u∈ps,vU u=true
     · rw[if_pos (this.2 hq)]at h;rw[if_pos hq];exact h
     · rw[if_neg (fun c=>hq (this.1 c))]at h;rw[if_neg hq];exact h
def OQ (X:Ext):Prop:=∀ l:List V3,l.length≤4096→l.Nodup→∃ m,run tab X 32 [.p (.fn 64 [.ref [.zX (bJ l) (l.map fun _=>.bool true)]]),.p (.fn 34 [])] []=some ([.fresh true kV (bJ m)],[])∧Up m∧∀ v,v∈m↔v∈l
def OY (all:List V3):List V3 × Int:=if(∀ v∈all,vU v=true) then(if(X4 all).length > 4096 then([],7) else(X4 all,0)) else([],3)
def TP (f:List Sh):List V3 × Int:=if uV f=true then OY (QH f) else([],2)
omit hX in
theorem WS {a b:List V3} (ha:a.Nodup) (hb:b.Nodup) (h:∀ v,v∈a↔v∈b):a.length=b.length :=
 (List.perm_ext_iff_of_nodup ha hb |>.2 h).length_eq
theorem l33 (hK : OQ X) (f : List Sh) (hf : f.length ≤ 50) (hs : ∀ s ∈ f,Shape s) : ∀ n i (all : List V3),i + n = f.length → (∀ v ∈ all,vU v = true) →
    L tab (run tab X) 13 [] [.lp [1,1,1,0,1,0]] (uN (dh f) ((f.length:Nat):Int) (i:Int) 0 (eM (rV [] all)))=some ([.fresh true kV (bJ (OY (all++QH (f.drop i))).1),.p (.int .i64 (OY (all++QH (f.drop i))).2)],[]):=by
  intro n
  induction n with
  | zero =>
   intro i all hi ha
   have hnd:(rV [] all).Nodup:=JE all List.nodup_nil
   have hm:∀ v,v∈rV [] all↔v∈all:=fun v=>by rw[QF];simp
   have hlen:(X4 all).length=(rV [] all).length:=WS (OT all).nodup hnd fun v=>by rw[I5,hm]
   refine dQ ?_
   rw[Jk,List.drop_eq_nil_of_le (by omega)]
   refine bM (by omega) ?_
   show _=some ([AV.fresh true kV (bJ (OY (all++[])).1),.p (.int .i64 (OY (all++[])).2)],[])
   rw[List.append_nil]
   unfold OY
   rw[if_pos ha,hlen,WO]
   by_cases h4:(rV [] all).length > 4096
   · rw[if_pos h4];exact bT (by omega) rfl
   · rw[if_neg h4]
     refine bM (by omega) ?_
     obtain⟨m,h1,h2,h3⟩:=hK (rV [] all) (by omega) hnd
     have e1:(eM (rV [] all)).map (fun x=>x.1)=bJ (rV [] all):=by simp[eM,bJ,fB]
     have e2:(eM (rV [] all)).map (fun x=>x.2)=(rV [] all).map fun _=>PV.bool true:=by simp[eM]
     have h50:run tab X 33 [.p (.zX (bJ (rV [] all)) ((rV [] all).map fun _=>PV.bool true))] []=some ([.p (.fn 64 [.ref [.zX (bJ (rV [] all)) ((rV [] all).map fun _=>PV.bool true)]])],[]):=bK (hX _ rfl) (by rw[e33])
     rw[e1,e2]
     refine aW h50 (aW h1 ?_)
     simp only[List.headD_cons,sN,List.drop_zero]
     rw[List.take_of_length_le (Nat.le_refl _),Yx (l:=all) h2 (fun v=>by rw[h3,hm])]
  | succ n ih =>
   intro i all hi ha
   have hlt:i<f.length:=by omega
   have hsh:=hs _ (qV hlt)
   refine dQ ?_
   rw[Jk]
   refine bT (by omega) (jV (by rw[bg];exact gd hlt) ?_)
   rw[tn,Nv hlt]
   refine aW (c30 X hX (sat f i)) ?_
   have hp:QH (f.drop i)=JF (sat f i)++QH (f.drop (i+1)):=by rw[EG hlt];simp[QH]
   have key:∀ t19,L tab (run tab X) 13 [] [.lp [1,1,1,0,1,0],.rg [1,1,0,0,1,1,0] [(true,[.int .i64,.int .i64,.int .i64])] (lg (JF (sat f i)))] (eG (dh f) ((f.length:Nat):Int) (i:Int) t19 0 (eM (rV [] all)))=some ([.fresh true kV (bJ (OY (all++QH (f.drop i))).1),.p (.int .i64 (OY (all++QH (f.drop i))).2)],[]):=by
    intro t19
    refine aed X hX _ _ _ _ _ _ _ _ ?_
    rw[hp]
    by_cases hq:∀ v∈JF (sat f i),vU v=true
    · rw [if_pos hq,X6 (show i < 1099511627776 by omega),← QG,ih (i + 1) (all ++ JF (sat f i)) (by omega) (by
        intro v hv
        rcases List.mem_append.1 hv with h | h
        · exact ha v h
        · exact hq v h),List.append_assoc]
    · rw[if_neg hq]
      unfold OY
      rw[if_neg (fun c=>hq fun v hv=>c v (by simp[hv]))];rfl
   simp only[List.headD_cons,iP]
   unfold aco
   by_cases k1:(sat f i).k=1
   · rw[if_pos k1]
     have hc:run tab X 92 [.sJ,.p (.ref [.list true kV (bJ (sat f i).c)])] [.log true []]=some ([],[.log true (lg (JF (sat f i)))]):=by
      have:=c92 X hX (sat f i).c (by have:=hsh.1;omega)
      unfold JF;rw[if_pos k1];exact this
     exact jV rfl (aW hc (key _))
   · rw[if_neg k1]
     by_cases k2:(sat f i).k=2∨(sat f i).k=3
     · rw[if_pos k2]
       have hc:=c93 X hX (sat f i) (WQ hsh k2)
       rw[show TN (sat f i)=JF (sat f i) by unfold JF;rw[if_neg k1,if_pos k2]]at hc
       exact Hl rfl (jV rfl (aW hc (key _)))
     · rw[if_neg k2]
       have hc:=c95 X hX (sat f i) (WR hsh k1 k2)
       rw[show JD (sat f i)=JF (sat f i) by unfold JF;rw[if_neg k1,if_neg k2]]at hc
       exact Hl rfl (Hl rfl (jV rfl (aW hc (key _))))
omit hX in
theorem uX {f:List Sh} (h:uV f=true):f.length≤50∧∀ s∈f,Shape s:=by
 unfold uV at h
 simp only[Bool.and_eq_true,decide_eq_true_eq,List.all_eq_true]at h
 exact⟨h.1,fun s hs=>EF.1 (h.2 s hs)⟩
theorem c13 (hK:OQ X) (f:List Sh) (hf:Fits f):run tab X 13 [.p (.list true kS (dh f))] []=some ([.fresh true kV (bJ (TP f).1),.p (.int .i64 (TP f).2)],[]) :=
 bK (hX _ rfl) (by
  rw[e13]
  refine aW (c28 X hX f hf) ?_
  simp only[List.headD_cons,iP,bF]
  unfold TP
  cases hb:uV f
  · rfl
  · obtain⟨h1,h2⟩:=uX hb
    have h:=l33 X hX hK f h1 h2 f.length 0 [] (by omega) (by simp)
    rw[bg]
    exact h)
end
end Go.Skm.Fig
