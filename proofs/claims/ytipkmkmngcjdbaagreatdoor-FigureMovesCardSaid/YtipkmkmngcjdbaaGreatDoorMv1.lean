/-
  Calls by what they answer, and rows of shapes of one's own; condition: the machine's calls are true ones.
-/
import Derived.Test.YtipkmkmngcjdbaaGreatDoorF33
import Derived.Test.YtipkmkmngcjdbaaGreatDoorIter3
import Derived.Test.YtipkmkmngcjdbaaGreatDoorSkmH
import Derived.Maps.AppendAt
import Derived.OwnWalkIn
import Derived.RangeFuncLeaves
import Derived.Deep.OwnRows
namespace Go.Skm.Fig
open Go Go.Skm Go.Proofs Go.RowKit Go.Shelf Go.Sort
section
variable {P:Program} {T:Tab} {gl:Option (List (Nat × Obj))} {C:aF}
theorem Gf (hC : gX P T gl C) {f : Nat} {fi : FI} (hf : bG T.funcs f = some fi) {xs : List PV} {rs : List AV} (h : C f (xs.map .p) [] = some (rs,[]))
    {W:World} {M:Nat→Prop} {args:Array Value} (hgl:∀ p∈gl.getD [],M p.1∧W.heap[p.1]?=some p.2) (hM:∀ b,M b→b<W.heap.size) (hn:args.size=xs.length) (hv:∀ (i:Nat) x,xs[i]?=some x→VR W M x (args.getD i undef)) :
    Calls P f args W fun e W'=>∃ cs ps M',e=.returned (rP cs)∧qA T W' M' (fun _=>none) (look (dN 0 [])) fi.cfg.rets fi.fn.resultTypes.toList rs cs ps∧(∀ b o,some (b,o)∈ps→¬ M' b∧b<W'.heap.size∧W.heap.size≤b)∧(∀ b,M b→M' b)∧(∀ b,M' b→b<W'.heap.size)∧Below W.heap.size W W':=by
  refine((hC.plain f fi (xs.map .p) [] _ [] hf (by simp) h).2 W M (fun _=>none) args hgl ⟨by simp[hn],fun i v hi=>?_,fun i b0 hi=>by simp at hi,fun i b o hi=>by simp at hi,fun i j b o o' hi=>by simp at hi,hM⟩).mono ?_
  · simp only[List.getElem?_map,Option.map_eq_some_iff]at hi
    obtain⟨x,hx,rfl⟩:=hi
    exact .p _ _ (hv i x hx)
  · rintro e W' ⟨cs,ps,M',rfl,post⟩
    exact⟨cs,ps,M',rfl,post.res,post.own,post.fJ,post.mlt,post.os,post.tape,post.output,post.size,fun x hx=>post.keep x hx fun i o hi=>by simp at hi⟩
theorem xY (hC : gX P T gl C) {f : Nat} {fi : FI} (hf : bG T.funcs f = some fi) {t : TypeId} (ht : fi.fn.resultTypes.toList = [t]) (hr : fi.cfg.rets = []) {xs : List PV} {b : Bool} (h : C f (xs.map .p) [] = some ([.p (.bool b)],[]))
    {W:World} {M:Nat→Prop} {args:Array Value} (hgl:∀ p∈gl.getD [],M p.1∧W.heap[p.1]?=some p.2) (hM:∀ b,M b→b<W.heap.size) (hn:args.size=xs.length) (hv:∀ (i:Nat) x,xs[i]?=some x→VR W M x (args.getD i undef)) :
    Calls P f args W fun e W'=>e=.returned (.bool b)∧Below W.heap.size W W':=by
  refine(Gf hC hf h hgl hM hn hv).mono ?_
  rintro e W' ⟨cs,ps,M',rfl,hres,_,_,_,hb⟩
  rw[hr,ht]at hres
  cases hres with
  | cons _ _ _ _ _ c cs' p ps' h1 h2 _ =>
   cases h2
   cases h1 with
   | deep _ x _ _ hv=>cases hv;exact⟨rfl,hb⟩
theorem QT (hC : gX P T gl C) {f : Nat} {fi : FI} (hf : bG T.funcs f = some fi) {t u : TypeId} (ht : fi.fn.resultTypes.toList = [t,u]) (hr : fi.cfg.rets = []) {xs : List PV} {x y : PV} (h : C f (xs.map .p) [] = some ([.p x,.p y],[]))
    {W:World} {M:Nat→Prop} {args:Array Value} (hgl:∀ p∈gl.getD [],M p.1∧W.heap[p.1]?=some p.2) (hM:∀ b,M b→b<W.heap.size) (hn:args.size=xs.length) (hv:∀ (i:Nat) x,xs[i]?=some x→VR W M x (args.getD i undef)) :
    Calls P f args W fun e W'=>∃ c d M',e=.returned (.tuple #[c,d])∧VR W' M' x c∧VR W' M' y d∧Below W.heap.size W W':=by
  refine(Gf hC hf h hgl hM hn hv).mono ?_
  rintro e W' ⟨cs,ps,M',rfl,hres,_,_,_,hb⟩
  rw[hr,ht]at hres
  cases hres with
  | cons _ _ _ _ _ c cs' p ps' h1 h2 _ =>
   cases h2 with
   | cons _ _ _ _ _ d cs2 p2 ps2 h3 h4 _ =>
    cases h4
    cases h1 with
    | deep _ x _ _ hv=>cases h3 with
     | deep _ y _ _ hv2=>exact⟨c,d,M',rfl,hv,hv2,hb⟩
theorem YX {w : World} {M : Nat → Prop} {a : Bool} {ks : List Kd} {xs : List PV} {c : Value} {p : Option (Nat × Nat)} (hb : BR w M (fun _ => p) (fun _ => some (.arr a ks xs)) 0 (.arr a ks xs))
    (hv:AR w M (fun _=>p) (fun _=>some (.arr a ks xs)) (.slice 0 ks.length 0 xs.length) c):VR w (fun b=>M b∨∃ o,p=some (b,o)) (.list a ks xs) c:=by
  generalize hW:ks.length=W at hv
  generalize hl:xs.length=n at hv
  have empty:∀ base cap,n=0→VR w (fun b=>M b∨∃ o,p=some (b,o)) (.list a ks xs) (.slice base n cap):=fun base cap h0=>by
   have:xs=[]:=List.length_eq_zero_iff.1 (by omega)
   subst h0 this
   exact .kD _ _ _ _
  cases hv with
  | slice _ _ _ a2 ks2 xs2 b o cap hs hl2 hb2 hcap hr =>
   cases hs
   subst hl
   rw[Nat.zero_mul,Nat.add_zero]
   generalize hy:xs=ys at *
   cases hb with
   | fM=>exact .kD _ _ _ _
   | arr _ _ _ b' o' Cs e fr hb' hw hn ho hs hc =>
    rw[hb2]at hb'
    cases hb'
    refine .list a ks ys b o cap (fun i j=>Cs.getD (o+i*ks.length+j) undef) (.inr ⟨o,hb2⟩) hcap (fun i x j c hx hj=>?_) (fun i x j c hx hj=>(hc i x j c hx hj).mono fun b hb=>⟨.inl hb,rfl⟩) hs
    have hi:i<ys.length:=(List.getElem?_eq_some_iff.1 hx).1
    have hxm:ys[i]=x:=(List.getElem?_eq_some_iff.1 hx).2
    have hj:j<ks.length:=by
     rw[← bY (hs x (hxm▸List.getElem_mem hi))];exact(List.getElem?_eq_some_iff.1 hj).1
    have hq:o+i*ks.length+j<Cs.size:=by
     have:(i+1)*ks.length≤ys.length*ks.length:=Nat.mul_le_mul_right _ hi
     rw[Nat.succ_mul]at this;omega
    simp[World.cell?,hw,Array.getD_eq_getD_getElem?,hq]
  | sliceE _ _ a2 ks2 xs2 base hs hl2=>exact empty _ _ rfl
theorem Xc (hC : gX P T gl C) {f : Nat} {fi : FI} (hf : bG T.funcs f = some fi) {t u : TypeId} (ht : fi.fn.resultTypes.toList = [t,u]) (hr : fi.cfg.rets = [.fresh,.deep]) {xs : List PV} {a : Bool} {ks : List Kd} {zs : List PV} {y : PV} (h : C f (xs.map .p) [] = some ([.fresh a ks zs,.p y],[]))
    {W:World} {M:Nat→Prop} {args:Array Value} (hgl:∀ p∈gl.getD [],M p.1∧W.heap[p.1]?=some p.2) (hM:∀ b,M b→b<W.heap.size) (hn:args.size=xs.length) (hv:∀ (i:Nat) x,xs[i]?=some x→VR W M x (args.getD i undef)) :
    Calls P f args W fun e W'=>∃ (c d:Value) (M':Nat→Prop),e=.returned (.tuple #[c,d])∧VR W' M' (.list a ks zs) c∧VR W' M' y d∧(∀ b,M b→M' b)∧(∀ b,M' b→b<W'.heap.size)∧Below W.heap.size W W':=by
  refine(Gf hC hf h hgl hM hn hv).mono ?_
  rintro e W' ⟨cs,ps,M',rfl,hres,hown,hsub,hlt,hb⟩
  rw[hr,ht]at hres
  cases hres with
  | cons _ _ _ _ _ c cs' p ps' h1 h2 _ =>
   cases h2 with
   | cons _ _ _ _ _ d cs2 p2 ps2 h3 h4 _ =>
    cases h4
    cases h3 with
    | deep _ y _ _ hv2 =>
     cases h1 with
     | fresh _ e xs2 _ _ hu hb1 hv1 =>
      refine⟨c,d,fun b=>M' b∨∃ o,p=some (b,o),rfl,YX hb1 hv1,hv2.mono fun b hb=>⟨.inl hb,rfl⟩,fun b hb=>.inl (hsub b hb),?_,hb⟩
      rintro b (hb | ⟨o,rfl⟩)
      · exact hlt b hb
      · exact(hown b o (by simp)).2.1
end
def Xd (s:Sh) (u:Value):List Value:=[.int .i64 s.k,u,.int .i64 s.m,.int .i64 s.r,.int .i64 s.s,.int .i64 s.p]
def VB:List Sh→List Value→List Value
 | s::g,u::vs=>Xd s u++VB g vs
 | _,_=>[]
theorem JM:∀ (g:List Sh) (vs:List Value) (s:Sh) (u:Value),vs.length=g.length→VB (g++[s]) (vs++[u])=VB g vs++Xd s u
 | [],[],s,u,_=>by simp[VB]
 | [],_::_,_,_,h=>by simp at h
 | s::g,[],_,_,h=>by simp at h
 | s::g,u::vs,s',u',h=>by
  rw[List.cons_append,List.cons_append,VB,VB,JM g vs s' u' (by simpa using h),List.append_assoc]
theorem Pm:∀ (g:List Sh) (vs:List Value) (i j:Nat) (s:Sh) (u:Value),g[i]?=some s→vs[i]?=some u→j<6→(VB g vs)[i*6+j]?=(Xd s u)[j]?
 | [],vs,i,j,s,u,h,_,_=>by simp at h
 | s::g,[],i,j,_,_,_,h,_=>by simp at h
 | s::g,u::vs,0,j,s',u',h1,h2,hj=>by
  cases h1;cases h2
  rw[VB,Nat.zero_mul,Nat.zero_add,List.getElem?_append_left (by show j<6;exact hj)]
 | s::g,u::vs,i+1,j,s',u',h1,h2,hj=>by
  rw[VB,List.getElem?_append_right (by show 6≤_;omega)]
  have:(i+1)*6+j-(Xd s u).length=i*6+j:=by show (i+1)*6+j-6=_;omega
  rw[this]
  exact Pm g vs i j s' u' h1 h2 hj
def nN (w:World) (B:Nat) (v:Value) (g:List Sh) (φ:Sh→Value→Prop):Prop:=∃ vs:List Value,w.ownsRow B 47 6 v g.length (VB g vs)∧vs.length=g.length∧∀ (i:Nat) s u,g[i]?=some s→vs[i]?=some u→φ s u
theorem nN.nil (w:World) (B:Nat) (φ:Sh→Value→Prop):nN w B (.slice none 0 0) [] φ:=⟨[],World.ownsRow_nil _ _ _ _,rfl,fun i s u h=>by simp at h⟩
theorem nN.slice {w:World} {B:Nat} {v:Value} {g:List Sh} {φ:Sh→Value→Prop} (h:nN w B v g φ):∃ ao cap,v=.slice ao g.length cap:=by
 obtain⟨vs,ho,_⟩:=h
 rcases ho.2 with ⟨rfl,h⟩ | ⟨b,cap,cur,rfl,_⟩
 · exact⟨none,0,by rw[h]⟩
 · exact⟨_,_,rfl⟩
theorem xZ {w w':World} {B:Nat} {e:TypeId} {sz n:Nat} {v:Value} {xs:List Value} (h:w.ownsRow B e sz v n xs) (hb:Below w.heap.size w w'):w'.ownsRow B e sz v n xs :=
 h.kept (row:=none) ⟨hb.os,hb.tape,hb.output,hb.size,fun k hk _=>hb.block k hk⟩ (by cases v.ownBlock<;>simp)
theorem nN.kept {w w':World} {B:Nat} {v:Value} {g:List Sh} {φ φ':Sh→Value→Prop} (h:nN w B v g φ) (hb:Below w.heap.size w w') (hφ:∀ s u,φ s u→φ' s u):nN w' B v g φ':=by
 obtain⟨vs,ho,hl,hp⟩:=h
 exact⟨vs,xZ ho hb,hl,fun i s u h1 h2=>hφ s u (hp i s u h1 h2)⟩
theorem nN.other {w w':World} {B b:Nat} {o:Obj} {v:Value} {g:List Sh} {φ φ':Sh→Value→Prop} (h:nN w B v g φ) (hg:w.grownBy w' (some b)) (hb:w.heap[b]?=some o) (ho:∀ cur,o≠.cells cur 47 (0,0)) (hφ:∀ s u,φ s u→φ' s u):nN w' B v g φ':=by
 obtain⟨vs,hr,hl,hp⟩:=h
 exact⟨vs,hr.kept hg (ownsRow_ne_a hr hb ho),hl,fun i s u h1 h2=>hφ s u (hp i s u h1 h2)⟩
theorem YZ {w:World} {M:Nat→Prop} {v:V3} {c:Value} (h:VR w M (fB v) c):c=.agg #[.int .i64 v.x,.int .i64 v.y,.int .i64 v.z]:=by
 cases h with
 | agg _ vs hn hl hc =>
  have hn:vs.size=3:=hn
  have h0:=fZ (hc 0 _ rfl)
  have h1:=fZ (hc 1 _ rfl)
  have h2:=fZ (hc 2 _ rfl)
  congr 1
  apply Array.ext
  · simpa using hn
  · intro i hi hj
    have hi3:i<3:=by omega
    have e:vs.getD i undef=vs[i]:=by simp[Array.getD_eq_getD_getElem?,hi]
    rcases(show i=0∨i=1∨i=2 by omega) with rfl | rfl | rfl
    · rw[← e,h0];rfl
    · rw[← e,h1];rfl
    · rw[← e,h2];rfl
theorem DC (w:World) (M:Nat→Prop) (v:V3):VR w M (fB v) (.agg #[.int .i64 v.x,.int .i64 v.y,.int .i64 v.z]):=by
 refine .agg _ _ rfl (by intro c hc;simp at hc;rcases hc with rfl | rfl | rfl<;>rfl) fun i c hc=>?_
 match i,hc with
 | 0,hc=>cases hc;exact .int _ _
 | 1,hc=>cases hc;exact .int _ _
 | 2,hc=>cases hc;exact .int _ _
 | i+3,hc=>simp at hc
theorem Hw {w : World} {M : Nat → Prop} {f : List Sh} {ao : Option Addr} {n cap : Nat} (h : VR w M (.list true kS (dh f)) (.slice ao n cap)) {i : Nat} (hi : i < f.length) : ∃ b o sv,ao = some ⟨b,o,none⟩ ∧ M b ∧ n ≤ cap ∧ VR w M (.list true kV (bJ (sat f i).c)) sv ∧ w.cell? ⟨b,o + i * 6 + 0,none⟩ = some (.int .i64 (sat f i).k) ∧
    w.cell? ⟨b,o+i*6+1,none⟩=some sv∧w.cell? ⟨b,o+i*6+2,none⟩=some (.int .i64 (sat f i).m)∧w.cell? ⟨b,o+i*6+3,none⟩=some (.int .i64 (sat f i).r)∧w.cell? ⟨b,o+i*6+4,none⟩=some (.int .i64 (sat f i).s)∧w.cell? ⟨b,o+i*6+5,none⟩=some (.int .i64 (sat f i).p):=by
  generalize hy:dh f=ys at h
  cases h with
  | list _ _ _ b o cap g hM hcap hc hv hs =>
   subst hy
   have hx:(dh f)[i]?=some (eS (sat f i)):=by rw[dh,List.getElem?_map,List.getElem?_eq_getElem hi,wM hi];rfl
   have c0:=hc i _ 0 _ hx rfl
   have c1:=hc i _ 1 _ hx rfl
   have c2:=hc i _ 2 _ hx rfl
   have c3:=hc i _ 3 _ hx rfl
   have c4:=hc i _ 4 _ hx rfl
   have c5:=hc i _ 5 _ hx rfl
   rw[fZ (hv i _ 0 _ hx rfl)]at c0
   rw[fZ (hv i _ 2 _ hx rfl)]at c2
   rw[fZ (hv i _ 3 _ hx rfl)]at c3
   rw[fZ (hv i _ 4 _ hx rfl)]at c4
   rw[fZ (hv i _ 5 _ hx rfl)]at c5
   exact⟨b,o,_,rfl,hM,hcap,hv i _ 1 _ hx rfl,c0,c1,c2,c3,c4,c5⟩
  | kD _ _ base cap =>
   have:f.length=0:=by rw[← bg,hy];rfl
   omega
theorem yQ {w:World} {M:Nat→Prop} {a:Bool} {ks:List Kd} {xs:List PV} {v:Value} (h:VR w M (.list a ks xs) v):∃ ao cap,v=.slice ao xs.length cap:=by
 cases h with
 | list _ _ _ b o cap g hM hcap hc hv hs=>exact⟨_,_,rfl⟩
 | kD _ _ base cap=>exact⟨_,_,rfl⟩
theorem x9:∀ (l:List V3) (i j:Nat) (_:j<3) (hi:i<l.length),(cells l)[i*3+j]?=(cVal l[i])[j]?
 | [],i,j,_,hi=>by simp at hi
 | v::l,0,j,hj,hi=>by
  show (cVal v++cells l)[0*3+j]?=_
  rw[List.getElem?_append_left (by show 0*3+j<3;omega)]
  simp
 | v::l,i+1,j,hj,hi=>by
  show (cVal v++cells l)[(i+1)*3+j]?=_
  rw[List.getElem?_append_right (by show 3≤(i+1)*3+j;omega)]
  have:(i+1)*3+j-(cVal v).length=i*3+j:=by show (i+1)*3+j-3=_;omega
  rw[this,x9 l i j hj (by simpa using hi)]
  rfl
theorem Y0 {w : World} {M : Nat → Prop} {B : Nat} {e : TypeId} {a : Bool} {ks : List Kd} {xs : List PV} {v : Value} {cs : List Value} (h : w.ownsRow B e ks.length v xs.length cs) (hM : ∀ b,B ≤ b → b < w.heap.size → M b) (hs : ∀ x ∈ xs,aA a ks x = true)
    (hc:∀ (i j:Nat) (x c:PV) (u:Value),xs[i]?=some x→x.cells[j]?=some c→cs[i*ks.length+j]?=some u→VR w M c u):VR w M (.list a ks xs) v:=by
  rcases h.2 with ⟨rfl,h0⟩ | ⟨g,cap,cur,rfl,hB,hg,hcap,_,hsz,htk⟩
  · rw[List.length_eq_zero_iff.1 h0];exact .kD _ _ _ _
  · have hlt:=(Array.getElem?_eq_some_iff.1 hg).1
    have key:∀ (i:Nat) (x:PV) (j:Nat) (c:PV),xs[i]?=some x→x.cells[j]?=some c→i*ks.length+j<xs.length*ks.length:=fun i x j c hx hj=>by
     have hi:i<xs.length:=(List.getElem?_eq_some_iff.1 hx).1
     have hxm:xs[i]=x:=(List.getElem?_eq_some_iff.1 hx).2
     have hj:j<ks.length:=by
      rw[← bY (hs x (hxm▸List.getElem_mem hi))];exact(List.getElem?_eq_some_iff.1 hj).1
     have:(i+1)*ks.length≤xs.length*ks.length:=Nat.mul_le_mul_right _ hi
     rw[Nat.succ_mul]at this;omega
    refine .list a ks xs g 0 cap (fun i j=>cs.getD (i*ks.length+j) undef) (hM g hB hlt) hcap (fun i x j c hx hj=>?_) (fun i x j c hx hj=>?_) hs
    all_goals have hq:=key i x j c hx hj
    all_goals have hq2:i*ks.length+j<cs.length:=by rw[h.1];exact hq
    · rw[Nat.zero_add,h.cellAt _ hq,List.getD_eq_getElem?_getD,List.getElem?_eq_getElem hq2];rfl
    · refine hc i j x c _ hx hj ?_
      rw[List.getD_eq_getElem?_getD,List.getElem?_eq_getElem hq2];rfl
theorem VD {w:World} {M:Nat→Prop} {B:Nat} {v:Value} {l:List V3} (h:w.ownsRow B 43 3 v l.length (cells l)) (hM:∀ b,B≤b→b<w.heap.size→M b):VR w M (.list true kV (bJ l)) v:=by
 refine Y0 (ks:=kV) (xs:=bJ l) (by rw[aQ];exact h) hM (fun x hx=>?_) fun i j x c u hx hj hu=>?_
 · obtain⟨y,_,rfl⟩:=List.mem_map.1 hx;rfl
 · rw[nT,Option.map_eq_some_iff]at hx
   obtain⟨y,hy,rfl⟩:=hx
   obtain⟨hi,rfl⟩:=List.getElem?_eq_some_iff.1 hy
   have hj3:j<3:=(List.getElem?_eq_some_iff.1 hj).1
   have hu':(cells l)[i*3+j]?=some u:=hu
   rw[x9 l i j hj3 hi]at hu'
   rcases(show j=0∨j=1∨j=2 by omega) with rfl | rfl | rfl<;>cases hj<;>cases hu'<;>exact .int _ _
theorem nN.vr {w:World} {M:Nat→Prop} {B:Nat} {v:Value} {g:List Sh} {φ:Sh→Value→Prop} (h:nN w B v g φ) (hM:∀ b,B≤b→b<w.heap.size→M b) (hφ:∀ s u,φ s u→VR w M (.list true kV (bJ s.c)) u):VR w M (.list true kS (dh g)) v:=by
 obtain⟨vs,ho,hl,hp⟩:=h
 refine Y0 (ks:=kS) (xs:=dh g) (by rw[bg];exact ho) hM (fun x hx=>?_) fun i j x c u hx hj hu=>?_
 · obtain⟨y,_,rfl⟩:=List.mem_map.1 hx
   simp[aA,bH,kindOk,Kd.oN]
 · rw[dh,List.getElem?_map,Option.map_eq_some_iff]at hx
   obtain⟨s,hs,rfl⟩:=hx
   have hi:=(List.getElem?_eq_some_iff.1 hs).1
   have hj6:j<6:=(List.getElem?_eq_some_iff.1 hj).1
   have hv:vs[i]?=some (vs[i]'(by omega)):=List.getElem?_eq_getElem _
   have hu':(VB g vs)[i*6+j]?=some u:=hu
   rw[Pm g vs i j s _ hs hv hj6]at hu'
   rcases(show j=0∨j=1∨j=2∨j=3∨j=4∨j=5 by omega) with rfl | rfl | rfl | rfl | rfl | rfl<;>cases hj<;>cases hu'<;>first | exact .int _ _ | exact hφ s _ (hp i s _ hs hv)
end Go.Skm.Fig
