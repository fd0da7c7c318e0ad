/-
  Move, walked, where it is not refused; condition: the calls answer as said.
-/
import Derived.Test.YtipkmkmngcjdbaaGreatDoorMv2
namespace Go.Skm.Fig
open Go Go.Skm Go.Proofs Go.RowKit Go.Shelf Go.Sort
attribute [local go_sem] Oper.semAt_some BH
theorem acH (t:Array Value) {n:Nat} (h:t.size=n):t=((List.range n).map fun i=>t.getD i undef).toArray:=by
 subst h
 apply Array.ext
 · simp
 · intro i h1 h2
   simp[Array.getD,h1]
theorem EK (a:Act) {n:Nat} (h:a.tmps.size=n) (hd:a.defers=[]):∃ u:Nat→Value,(∀ i,a.tmps.getD i undef=u i)∧a={ tmps:=((List.range n).map u).toArray,defers:=[] }:=by
 refine⟨fun i=>a.tmps.getD i undef,fun _=>rfl,?_⟩
 have:=acH a.tmps h
 cases a with
 | mk t d =>
  simp only at hd this
  subst hd
  rw[Act.mk.injEq]
  exact⟨this,rfl⟩
theorem aen:List.range 64=[0,1,2,3,4,5,6,7,8,9,10,11,12,13,14,15,16,17,18,19,20,21,22,23,24,25,26,27,28,29,30,31,32,33,34,35,36,37,38,39,40,41,42,43,44,45,46,47,48,49,50,51,52,53,54,55,56,57,58,59,60,61,62,63]:=rfl
theorem own_base {w:World} {B B':Nat} {e:TypeId} {sz n:Nat} {v:Value} {xs:List Value} (h:w.ownsRow B e sz v n xs) (hB:B'≤B):w.ownsRow B' e sz v n xs:=by
 refine⟨h.1,?_⟩
 rcases h.2 with h | ⟨g,cap,cur,rfl,h1,h2⟩
 · exact .inl h
 · exact .inr ⟨g,cap,cur,rfl,by omega,h2⟩
theorem JO {w:World} {B:Nat} {e:TypeId} {sz n:Nat} {v:Value} {xs:List Value} (h:w.ownsRow B e sz v n xs) (hn:0<n):∃ g cap cur,v=.slice (some ⟨g,0,none⟩) n cap∧B≤g∧n≤cap∧w.heap[g]?=some (.cells cur e (0,0))∧cur.size=cap*sz:=by
 rcases h.2 with ⟨_,h⟩ | ⟨g,cap,cur,h1,h2,h3,h4,_,h5,_⟩
 · omega
 · exact⟨g,cap,cur,h1,h2,h4,h3,h5⟩
theorem Gg {w:World} {B:Nat} {e:TypeId} {sz n:Nat} {v:Value} {xs:List Value} (h:w.ownsRow B e sz v n xs):∃ ao cap,v=.slice ao n cap:=by
 rcases h.2 with ⟨rfl,rfl⟩ | ⟨g,cap,cur,h1,_⟩
 · exact⟨_,_,rfl⟩
 · exact⟨_,_,h1⟩
theorem grown_setCell (W:World) (b k:Nat) (v:Value):W.grownBy (W.setCell ⟨b,k,none⟩ v) (some b) :=
 ⟨rfl,rfl,rfl,by simp[World.setCell],fun j _ hk=>Below.heap_setCell _ _ _ j (fun e=>hk (by rw[e]))⟩
def uY (w:World) (B E:Nat) (v:Value) (g:List Sh):Prop:=nN w B v g fun s u=>w.ownsRow B 43 3 u s.c.length (cells s.c)∧∀ k,u.ownBlock=some k→k<E
def Y1 (w:World) (B:Nat) (v:Value) (g:List Sh):Prop:=uY w B w.heap.size v g
theorem uY.kept {w w':World} {B E:Nat} {v:Value} {g:List Sh} (h:uY w B E v g) (hb:Below w.heap.size w w'):uY w' B E v g:=nN.kept h hb fun _ _ h=>⟨xZ h.1 hb,h.2⟩
theorem uY.base {w:World} {B B' E:Nat} {v:Value} {g:List Sh} (h:uY w B E v g) (hB:B'≤B):uY w B' E v g:=by
 obtain⟨vs,ho,hl,hp⟩:=h
 exact⟨vs,own_base ho hB,hl,fun i s u h1 h2=>⟨own_base (hp i s u h1 h2).1 hB,(hp i s u h1 h2).2⟩⟩
theorem uY.other {w w':World} {B E b:Nat} {o:Obj} {v:Value} {g:List Sh} (h:uY w B E v g) (hg:w.grownBy w' (some b)) (hb:w.heap[b]?=some o) (ho:∀ cur,o≠.cells cur 47 (0,0)) (hE:E≤b):uY w' B E v g :=
 nN.other h hg hb ho fun s u ⟨h1,h2⟩=>⟨h1.kept hg (.inr fun e=>by have:=h2 b e;omega),h2⟩
theorem uY.append {w w' : World} {B E : Nat} {v v' : Value} {g : List Sh} {s : Sh} {u : Value} {vs : List Value} (ho : w.ownsRow B 47 6 v g.length (VB g vs)) (hl : vs.length = g.length) (hp : ∀ (i : Nat) s u,g[i]? = some s → vs[i]? = some u → w.ownsRow B 43 3 u s.c.length (cells s.c) ∧ ∀ k,u.ownBlock = some k → k < E)
    (ho':w'.ownsRow B 47 6 v' (g.length+1) (VB g vs++Xd s u)) (hg:w.grownBy w' v.ownBlock) (hu:w.ownsRow B 43 3 u s.c.length (cells s.c)):Y1 w' B v' (g++[s]):=by
  have key:∀ (s:Sh) (u:Value),w.ownsRow B 43 3 u s.c.length (cells s.c)→w'.ownsRow B 43 3 u s.c.length (cells s.c):=fun s u h=>by
   refine h.kept hg ?_
   cases hx:u.ownBlock with
   | none=>exact .inl rfl
   | some k =>
    refine .inr fun e=>?_
    rcases ho.2 with ⟨rfl,_⟩ | ⟨q,cap,cur,rfl,_,hq,_⟩
    · cases e
    · cases e
      rcases h.2 with ⟨rfl,_⟩ | ⟨q2,cap2,aeo,rfl,_,hq2,_⟩
      · cases hx
      · cases hx
        rw[hq]at hq2
        have:=(Obj.cells.inj (Option.some.inj hq2)).2.1
        exact absurd this (by decide)
  refine⟨vs++[u],by rw[List.length_append,JM _ _ _ _ hl];exact ho',by simp[hl],fun i s1 u1 h1 h2=>?_⟩
  have fin:w'.ownsRow B 43 3 u1 s1.c.length (cells s1.c):=by
   by_cases hi:i<g.length
   · rw[List.getElem?_append_left hi]at h1
     rw[List.getElem?_append_left (by omega)]at h2
     exact key _ _ (hp i s1 u1 h1 h2).1
   · rw[List.getElem?_append_right (by omega)]at h1
     rw[List.getElem?_append_right (by omega),hl]at h2
     cases hk:i-g.length with
     | zero=>rw[hk]at h1 h2;cases h1;cases h2;exact key _ _ hu
     | succ k=>rw[hk]at h1;simp at h1
  exact⟨fin,fun k hk=>(fin.lt k hk).2⟩
theorem NK:∀ (l:List V3) (j:Nat) (m:V3),j<l.length→(((cells l).set (j*3) (.int .i64 m.x)).set (j*3+1) (.int .i64 m.y)).set (j*3+2) (.int .i64 m.z)=cells (l.set j m)
 | [],j,m,h=>by simp at h
 | v::l,0,m,_=>rfl
 | v::l,j+1,m,h=>by
  have ih:=NK l j m (by simpa using h)
  show (((cVal v++cells l).set ((j+1)*3) _).set ((j+1)*3+1) _).set ((j+1)*3+2) _=cVal v++cells (l.set j m)
  rw[← ih]
  have e0:(j+1)*3=j*3+3:=by omega
  rw[e0]
  rfl
structure acI (w:World) (b:V3) (ao:Option Addr) (cap:Nat) (f:List Sh) (i:Nat) (v:Value) (wr:World):Prop where
 le:i≤f.length
 below:Below w.heap.size w wr
 hb:wr.heap[w.heap.size]?=some (.cells #[.int .i64 b.x,.int .i64 b.y,.int .i64 b.z] 43 (0,0))
 row:Y1 wr (w.heap.size+1) v ((f.take i).map (xW b))
 res:sO b ((f.take i).map (xW b)) (f.drop i)=sO b [] f
def aje (w:World) (b:V3) (ao:Option Addr) (cap:Nat) (f:List Sh) (a:Act) (wr:World):Prop :=
 ∃ (i:Nat) (v:Value),(a.tmps.size=64∧a.defers=[]∧a.tmps.getD 3 undef=.pointer (some ⟨w.heap.size,0,none⟩)∧a.tmps.getD 6 undef=v∧a.tmps.getD 21 undef=.slice ao f.length cap∧a.tmps.getD 22 undef=.int .i64 f.length∧a.tmps.getD 23 undef=.int .i64 i)∧acI w b ao cap f i v wr
theorem sInfo:(Tryz.prog.info? 47).map (fun i=>(i.zero,i.size,i.bytes))=some (some (.agg #[.int .i64 0,.slice none 0 0,.int .i64 0,.int .i64 0,.int .i64 0,.int .i64 0]),6,64):=by kernel_rfl
theorem VE (W:World) (cs:List Value) (e:TypeId):∀ (j:Nat) u,cs[j]?=some u→(W.alloc (.cells cs.toArray e)).cell? ((⟨W.heap.size,0,none⟩:Addr).add j)=some u:=fun j u h=>by
 have:=World.alloc_heap_new W (.cells cs.toArray e)
 rw[Addr.add_lit]
 unfold World.cell?
 simp only[Nat.zero_add]
 rw[this]
 simpa using h
structure IV (w:World) (b:V3) (f:List Sh) (i S:Nat) (v cv:Value) (j:Nat) (wr:World):Prop where
 le:j≤(sat f i).c.length
 below:Below w.heap.size w wr
 hb:wr.heap[w.heap.size]?=some (.cells #[.int .i64 b.x,.int .i64 b.y,.int .i64 b.z] 43 (0,0))
 hS:w.heap.size+1≤S
 box:wr.heap[S]?=some (.cells #[.int .i64 (sat f i).k,cv,.int .i64 (sat f i).m,.int .i64 (sat f i).r,.int .i64 (sat f i).s,.int .i64 (sat f i).p] 47 (0,0))
 row:uY wr (w.heap.size+1) S v ((f.take i).map (xW b))
 own:wr.ownsRow (S+1) 43 3 cv (sat f i).c.length (cells (((sat f i).c.take j).map (fun v=>gV v b)++(sat f i).c.drop j))
 ok:YQ b ((sat f i).c.take j)=true
theorem IV.kept {w:World} {b:V3} {f:List Sh} {i S:Nat} {v cv:Value} {j:Nat} {wr W:World} (h:IV w b f i S v cv j wr) (hb:Below wr.heap.size wr W):IV w b f i S v cv j W :=
 ⟨h.le,h.below.trans (hb.mono h.below.size),(hb.block _ (Array.getElem?_eq_some_iff.1 h.hb).1).trans h.hb,h.hS,(hb.block _ (Array.getElem?_eq_some_iff.1 h.box).1).trans h.box,h.row.kept hb,xZ h.own hb,h.ok⟩
theorem IV.next {w : World} {b : V3} {f : List Sh} {i S g n cap : Nat} {v : Value} {j : Nat} {wr : World} {cur : Array Value} (h : IV w b f i S v (.slice (some ⟨g,0,none⟩) n cap) j wr) (hn : n = (sat f i).c.length) (hj : j < (sat f i).c.length) (hgS : S + 1 ≤ g) (hg : wr.heap[g]? = some (.cells cur 43 (0,0))) (hp : vU (gV (sat f i).c[j] b) = true) :
    IV w b f i S v (.slice (some ⟨g,0,none⟩) n cap) (j+1) (((wr.setCell ⟨g,j*3,none⟩ (.int .i64 (gV (sat f i).c[j] b).x)).setCell ⟨g,j*3+1,none⟩ (.int .i64 (gV (sat f i).c[j] b).y)).setCell ⟨g,j*3+2,none⟩ (.int .i64 (gV (sat f i).c[j] b).z)):=by
  subst hn
  have hgt:=h.hS
  have o1:=h.own.stored (j*3) (.int .i64 (gV (sat f i).c[j] b).x)
  have o2:=o1.1.stored (j*3+1) (.int .i64 (gV (sat f i).c[j] b).y)
  have o3:=o2.1.stored (j*3+2) (.int .i64 (gV (sat f i).c[j] b).z)
  have hgg:wr.grownBy (((wr.setCell ⟨g,j*3,none⟩ (.int .i64 (gV (sat f i).c[j] b).x)).setCell ⟨g,j*3+1,none⟩ (.int .i64 (gV (sat f i).c[j] b).y)).setCell ⟨g,j*3+2,none⟩ (.int .i64 (gV (sat f i).c[j] b).z)) (some g) :=
   ⟨rfl,rfl,rfl,by simp[World.setCell],fun k hk hne=>(o3.2.block k (by simp[World.setCell];exact hk) hne).trans ((o2.2.block k (by simp[World.setCell];exact hk) hne).trans (o1.2.block k hk hne))⟩
  have hlj:(((sat f i).c.take j).map (fun v=>gV v b)++(sat f i).c.drop j).length=(sat f i).c.length:=by simp;omega
  refine⟨hj,h.below.grown hgg h.below.size (fun k e=>by cases e;omega),(hgg.block _ (Array.getElem?_eq_some_iff.1 h.hb).1 (fun e=>by cases e;omega)).trans h.hb,h.hS,(hgg.block _ (Array.getElem?_eq_some_iff.1 h.box).1 (fun e=>by cases e;omega)).trans h.box,h.row.other hgg hg (fun cur e=>by have:=(Obj.cells.inj e).2.1;exact absurd this (by decide)) (by omega),?_,?_⟩
  · have:=o3.1
    rw[NK _ j _ (by omega)]at this
    refine Eq.mp (congrArg _ (congrArg cells ?_)) this
    rw[List.take_succ_eq_append_getElem hj,List.map_append,List.map_cons,List.map_nil,List.append_assoc]
    have h1:(((sat f i).c.take j).map fun v=>gV v b).length=j:=by simp;omega
    rw[List.set_append,if_neg (by rw[h1];omega),h1,Nat.sub_self,List.drop_eq_getElem_cons hj,List.set_cons_zero]
    rfl
  · rw[List.take_succ_eq_append_getElem hj]
    have h1:=h.ok
    unfold YQ at h1 ⊢
    rw[List.all_append,h1,List.all_cons,List.all_nil,hp]
    rfl
def ajg (w:World) (b:V3) (ao:Option Addr) (cap:Nat) (f:List Sh) (i S:Nat) (v cv:Value) (a:Act) (wr:World):Prop :=
 ∃ j:Nat,(a.tmps.size=64∧a.defers=[]∧a.tmps.getD 3 undef=.pointer (some ⟨w.heap.size,0,none⟩)∧a.tmps.getD 6 undef=v∧a.tmps.getD 8 undef=.pointer (some ⟨S,0,none⟩)∧a.tmps.getD 21 undef=.slice ao f.length cap∧a.tmps.getD 22 undef=.int .i64 f.length∧a.tmps.getD 23 undef=.int .i64 i ∧
  a.tmps.getD 32 undef=cv∧a.tmps.getD 33 undef=.int .i64 (sat f i).c.length∧a.tmps.getD 34 undef=.int .i64 j)∧IV w b f i S v cv j wr
def Y2:Prop:=∀ (W:World) (M:Nat→Prop) (l:List V3) (c:Value),VR W M (.list true kV (bJ l)) c→l.length≤100000→Calls Tryz.prog 48 #[c] W fun e w'=>∃ v',e=.returned v'∧w'.ownsRow W.heap.size 43 3 v' l.length (cells l)∧Below W.heap.size W w'
def acJ (w:World):Prop:=∀ (W:World) (c b:V3),Below w.heap.size w W→oM 16777216 c=true→oM 16777216 b=true→Calls Tryz.prog 49 #[vV c,vV b] W fun e W'=>∃ m z,e=.returned (.tuple #[vV m,.int .i64 z])∧Below W.heap.size W W'∧((oM 16777216 (gV c b)=true∧m=gV c b∧z=0)∨(oM 16777216 (gV c b)=false∧z=3))
def Y3 (w:World):Prop:=∀ (W:World) (c:V3),Below w.heap.size w W→Calls Tryz.prog 31 #[vV c] W fun e W'=>e=.returned (.bool (vU c))∧Below W.heap.size W W'
set_option maxRecDepth 100000 in
set_option maxHeartbeats 4000000 in
theorem Y4 {w : World} {M : Nat → Prop} {f : List Sh} {ao : Option Addr} {cap : Nat} {tK : V3} (hM : ∀ b,M b → b < w.heap.size) (hvf : VR w M (.list true kS (dh f)) (.slice ao f.length cap)) (hf : f.length ≤ 50) (hs : ∀ s ∈ f,Shape s)
    (k28:tJ w 28 #[.slice ao f.length cap] true) (k47:tJ w 47 #[vV tK] true) (k48:Y2) (k49:acJ w) (k31:Y3 w) (hby:oM 16777216 tK=true) (R:Ending→World→Prop)
    (hR:∀ v W,Below w.heap.size w W→Y1 W w.heap.size v (sO tK [] f).1→R (.returned (.tuple #[v,.int .i64 (sO tK [] f).2])) W):Calls Tryz.prog 22 #[.slice ao f.length cap,vV tK] w R:=by
  have h28:(FW none).fn 28:=trivial
  have h47:(FW none).fn 47:=trivial
  have h48:(FW none).fn 48:=trivial
  have h49:(FW none).fn 49:=trivial
  have h31:(FW none).fn 31:=trivial
  refine mM (rd:=none) (n:=0) (callsIn_of_wp_marks Tryz.func22 rfl trivial ?_)
  simp only[Tryz.ntmps22,List.size_toArray,List.length_cons,List.length_nil,Nat.reduceAdd,Nat.reduceSub,Array.replicate_succ,Array.replicate_zero,List.push_toArray,List.append_toArray,List.nil_append,List.cons_append]
  gi_wp2
  refine⟨rfl,(bW none (k28 _ ((Below.refl _ w).alloc (Nat.le_refl _) _))).mono ?_⟩
  rintro e W1 ⟨rfl,hb1⟩
  obtain⟨hP,hB1⟩:=box1 w _ hb1
  obtain⟨y0,y1,y2⟩:=cells3 hP
  clear hb1
  dsimp only
  have hres:Tryz.f22.results=#[.tmp 4,.tmp 5]:=rfl
  gi_wp2
  refine⟨rfl,(bW none (k47 _ hB1)).mono ?_⟩
  rintro e W2 ⟨rfl,hb2⟩
  have hP2:=(hb2.block _ (Array.getElem?_eq_some_iff.1 hP).1).trans hP
  have hB2:=hB1.trans (hb2.mono hB1.size)
  clear y0 y1 y2 hP hB1 hb2
  dsimp only
  gi_wp2
  have H0:Hid (acI w tK ao cap f 0 (.slice none 0 0) W2):=⟨Nat.zero_le _,hB2,hP2,nN.nil _ _ _,rfl⟩
  clear hB2 hP2
  refine wpIn_loop (aje w tK ao cap f) (fun a _=>f.length-(intOf (a.tmps.getD 23 undef)).toNat) ?_ ?_
  · exact⟨0,_,⟨rfl,rfl,rfl,rfl,rfl,rfl,rfl⟩,H0.out⟩
  clear H0
  rintro a wr ⟨i,v,⟨e1,e2,e3,e4,e5,e6,e7⟩,hI⟩
  have HI:Hid (acI w tK ao cap f i v wr):=hI
  obtain⟨u,hu,rfl⟩:=EK a e1 e2
  rw[hu]at e3 e4 e5 e6 e7
  rw[aen]
  simp only[List.map_cons,List.map_nil,e3,e4,e5,e6,e7]
  clear e1 e2 e3 e4 e5 e6 e7 hu hI
  by_cases hi:i<f.length
  · obtain⟨bf,of,sv,rfl,hbf,aep,hsv,y0,y1,y2,y3,y4,y5⟩:=Hw hvf hi
    obtain⟨asv,Hy,rfl⟩:=yQ hsv
    rw[aQ]at *
    have hbl:bf<w.heap.size:=hM _ hbf
    have up:∀ k x,w.cell? ⟨bf,k,none⟩=some x→wr.cell? ⟨bf,k,none⟩=some x:=fun k x h=>(HI.out.below.cell (p:=⟨bf,k,none⟩) hbl).trans h
    replace y0:=up _ _ y0
    replace y1:=up _ _ y1
    replace y2:=up _ _ y2
    replace y3:=up _ _ y3
    replace y4:=up _ _ y4
    replace y5:=up _ _ y5
    rw[Nat.add_zero]at y0
    clear up
    gi_wp2
    have hsh:=hs _ (qV hi)
    have aer:VR (wr.alloc (Obj.cells #[Value.int IntKind.i64 (sat f i).k,Value.slice asv (sat f i).c.length Hy,Value.int IntKind.i64 (sat f i).m,Value.int IntKind.i64 (sat f i).r,Value.int IntKind.i64 (sat f i).s,Value.int IntKind.i64 (sat f i).p] 47)) M (.list true kV (bJ (sat f i).c)) (.slice asv (sat f i).c.length Hy) :=
     hsv.mono fun b hb=>⟨hb,(Below.heap_alloc _ _ _ (Nat.lt_of_lt_of_le (hM b hb) HI.out.below.size)).trans (HI.out.below.block b (hM b hb))⟩
    refine⟨rfl,(bW none (k48 _ _ _ _ aer (by have:=hsh.1;omega))).mono ?_⟩
    rintro e W3 ⟨cv,rfl,hcv,hb3⟩
    obtain⟨hS3,hB3⟩:=box1 wr _ hb3
    have hS:w.heap.size+1≤wr.heap.size:=(Array.getElem?_eq_some_iff.1 HI.out.hb).1
    rw[World.size_alloc]at hcv
    obtain⟨FQ,gK,rfl⟩:=Gg hcv
    have q1:W3.cell? ⟨wr.heap.size,1,none⟩=some (.slice asv (sat f i).c.length Hy):=by simp[World.cell?,hS3]
    have q2:W3.frozen? ⟨wr.heap.size,1,none⟩=false:=by simp[World.frozen?,hS3]
    clear y0 y1 y2 y3 y4 y5 aer
    dsimp only
    gi_wp2
    obtain⟨W4,hW4⟩:∃ W4,W3.setCell ⟨wr.heap.size,1,none⟩ (.slice FQ (sat f i).c.length gK)=W4:=⟨_,rfl⟩
    have hg4:W3.grownBy W4 (some wr.heap.size):=by rw[← hW4];exact grown_setCell _ _ _ _
    have hS4:W4.heap[wr.heap.size]?=some (.cells #[.int .i64 (sat f i).k,.slice FQ (sat f i).c.length gK,.int .i64 (sat f i).m,.int .i64 (sat f i).r,.int .i64 (sat f i).s,.int .i64 (sat f i).p] 47 (0,0)):=by
     rw[← hW4,setCell_eq hS3]
     have:=(Array.getElem?_eq_some_iff.1 hS3).1
     simp[dM,this]
    have hb4:Below wr.heap.size wr W4:=hB3.grown hg4 hB3.size (fun k e=>by cases e;exact Nat.le_refl _)
    have H1:Hid (IV w tK f i wr.heap.size v (.slice FQ (sat f i).c.length gK) 0 W4):=by
     refine⟨Nat.zero_le _,HI.out.below.trans (hb4.mono HI.out.below.size),(hb4.block _ (by omega)).trans HI.out.hb,hS,hS4,?_,?_,rfl⟩
     · exact nN.kept HI.out.row hb4 fun s u ⟨h1,h2⟩=>⟨xZ h1 hb4,fun k hk=>h2 k hk⟩
     · rw[List.take_zero,List.drop_zero,List.map_nil,List.nil_append]
       exact hcv.kept hg4 (ownsRow_ne_a hcv hS3 (fun cur e=>by have:=(Obj.cells.inj e).2.1;exact absurd this (by decide)))
    rw[hW4]
    have HO:=HI
    clear HI hW4 hg4 hb4 hS4 hS3 hB3 hcv q1 q2 hb3 hS
    refine wpIn_loop (ajg w tK (some ⟨bf,of,none⟩) cap f i wr.heap.size v (.slice FQ (sat f i).c.length gK)) (fun a _=>(sat f i).c.length-(intOf (a.tmps.getD 34 undef)).toNat) ?_ ?_
    · exact⟨0,⟨rfl,rfl,rfl,rfl,rfl,rfl,rfl,rfl,rfl,rfl,rfl⟩,H1.out⟩
    clear H1
    rintro a wi ⟨j,⟨e1,e2,e3,e4,e5,e6,e7,e8,e9,e10,e11⟩,hI⟩
    have HI:Hid (IV w tK f i wr.heap.size v (.slice FQ (sat f i).c.length gK) j wi):=hI
    obtain⟨u2,hu,rfl⟩:=EK a e1 e2
    rw[hu]at e3 e4 e5 e6 e7 e8 e9 e10 e11
    rw[aen]
    simp only[List.map_cons,List.map_nil,e3,e4,e5,e6,e7,e8,e9,e10,e11]
    clear e1 e2 e3 e4 e5 e6 e7 e8 e9 e10 e11 hu hI
    by_cases hj:j<(sat f i).c.length
    · obtain⟨g,ame,cur,eg,hgS,hgc,hg,hgs⟩:=JO HI.out.own (by omega)
      cases eg
      have hpj:=lS.1 hsh.2.1 (sat f i).c[j] (List.getElem_mem hj)
      have hlj:(((sat f i).c.take j).map (fun v=>gV v tK)++(sat f i).c.drop j).length=(sat f i).c.length:=by simp;omega
      have hgj:∀ t,t<3→wi.cell? ⟨g,j*3+t,none⟩=(cVal (sat f i).c[j])[t]?:=fun t ht=>by
       rw[HI.out.own.cellAt (j*3+t) (by omega),x9 _ j t ht (by omega)]
       congr 2
       rw[List.getElem_append_right (by simp;omega)]
       simp[Nat.min_eq_left (Nat.le_of_lt hj)]
      have x0:wi.cell? ⟨g,j*3,none⟩=some (.int .i64 (sat f i).c[j].x):=hgj 0 (by omega)
      have x1:wi.cell? ⟨g,j*3+1,none⟩=some (.int .i64 (sat f i).c[j].y):=hgj 1 (by omega)
      have x2:wi.cell? ⟨g,j*3+2,none⟩=some (.int .i64 (sat f i).c[j].z):=hgj 2 (by omega)
      obtain⟨y0,y1,y2⟩:=cells3 HI.out.hb
      have l0:w.heap.size<wi.heap.size:=(Array.getElem?_eq_some_iff.1 HI.out.hb).1
      have HG:Hid (wr.heap.size+1≤g∧wi.heap[g]?=some (.cells cur 43 (0,0))∧(sat f i).c.length≤gK∧cur.size=gK*3∧vU (sat f i).c[j]=true):=⟨hgS,hg,hgc,hgs,hpj⟩
      clear hgS hg hgc hgs hpj hgj hlj
      gi_wp2
      have hC0:Below wi.heap.size wi (wi.alloc (Obj.cells #[Value.int IntKind.i64 (sat f i).c[j].x,Value.int IntKind.i64 (sat f i).c[j].y,Value.int IntKind.i64 (sat f i).c[j].z] 43)):=(Below.refl _ wi).alloc (Nat.le_refl _) _
      refine⟨rfl,(bW none (k49 _ (sat f i).c[j] tK (HI.out.below.trans (hC0.mono HI.out.below.size)) (xX (fun _=>none) (fun _ _=>rfl) HG.out.2.2.2.2) hby)).mono ?_⟩
      rintro e W5 ⟨m,z,rfl,hb5,hz⟩
      have hI5:=HI.out.kept (hC0.trans (hb5.mono hC0.size))
      have HI5:Hid (IV w tK f i wr.heap.size v (.slice (some ⟨g,0,none⟩) (sat f i).c.length gK) j W5):=hI5
      have hg5:W5.heap[g]?=some (.cells cur 43 (0,0)):=((hC0.trans (hb5.mono hC0.size)).block g (Array.getElem?_eq_some_iff.1 HG.out.2.1).1).trans HG.out.2.1
      have HG5:Hid (wr.heap.size+1≤g∧W5.heap[g]?=some (.cells cur 43 (0,0))∧(sat f i).c.length≤gK∧cur.size=gK*3∧vU (sat f i).c[j]=true):=⟨HG.out.1,hg5,HG.out.2.2⟩
      clear hg5 hI5 x0 x1 x2 y0 y1 y2 l0 HG HI hb5 hC0
      have bad:vU (gV (sat f i).c[j] tK)=false→sO tK [] f=([],3):=fun hp=>by
       rw[← HO.out.res,EG hi,sO,if_neg]
       intro hok
       have:=List.all_eq_true.1 hok (sat f i).c[j] (List.getElem_mem hj)
       simp only[hp]at this
       cases this
      rcases hz with ⟨hm,rfl,rfl⟩ | ⟨hm,rfl⟩
      · dsimp only
        gi_wp2
        have hC1:Below W5.heap.size W5 (W5.alloc (Obj.cells #[Value.int IntKind.i64 (gV (sat f i).c[j] tK).x,Value.int IntKind.i64 (gV (sat f i).c[j] tK).y,Value.int IntKind.i64 (gV (sat f i).c[j] tK).z] 43)):=(Below.refl _ W5).alloc (Nat.le_refl _) _
        refine⟨rfl,(bW none (k31 _ (gV (sat f i).c[j] tK) (HI5.out.below.trans (hC1.mono HI5.out.below.size)))).mono ?_⟩
        rintro e W6 ⟨rfl,hb6⟩
        have acK:=hC1.trans (hb6.mono hC1.size)
        have HI6:Hid (IV w tK f i wr.heap.size v (.slice (some ⟨g,0,none⟩) (sat f i).c.length gK) j W6):=HI5.out.kept acK
        have hg6:W6.heap[g]?=some (.cells cur 43 (0,0)):=(acK.block g (Array.getElem?_eq_some_iff.1 HG5.out.2.1).1).trans HG5.out.2.1
        have hm6:W6.heap[W5.heap.size]?=some (.cells #[.int .i64 (gV (sat f i).c[j] tK).x,.int .i64 (gV (sat f i).c[j] tK).y,.int .i64 (gV (sat f i).c[j] tK).z] 43 (0,0)):=(hb6.block _ (by simp)).trans (World.alloc_heap_new W5 _)
        clear hb6 hC1 acK
        dsimp only
        cases hp:vU (gV (sat f i).c[j] tK) with
        | false =>
         have hfin:=HI6.out.below
         have hbad:=bad hp
         clear hg6 hm6 bad
         gi_wp2
         show LeavesInM (FW none) 0 Tryz.prog Tryz.f22 _ R [] .returning W6
         refine⟨.tuple #[.slice none 0 0,.int .i64 3],by simp[results],?_⟩
         have:=hR (.slice none 0 0) W6 hfin
         rw[hbad]at this
         exact this (nN.nil _ _ _)
        | true =>
         obtain⟨x0,x1,x2⟩:=cells3 hm6
         have hbox:=HI6.out.box
         have s1:W6.cell? ⟨wr.heap.size,1,none⟩=some (.slice (some ⟨g,0,none⟩) (sat f i).c.length gK):=by simp[World.cell?,hbox]
         have hsz:cur.size=gK*3∧(sat f i).c.length≤gK:=⟨HG5.out.2.2.2.1,HG5.out.2.2.1⟩
         have fz:∀ k,W6.frozen? ⟨g,k,none⟩=false:=fun k=>by simp[World.frozen?,hg6]
         have gz:∀ k,k<3→W6.cell? ⟨g,j*3+k,none⟩=some (cur.getD (j*3+k) undef):=fun k hk=>by
          have:j*3+k<cur.size:=by omega
          simp[World.cell?,hg6,Array.getD_eq_getD_getElem?,this]
         have f0:=fz (j*3)
         have f1:=fz (j*3+1)
         have f2:=fz (j*3+2)
         have g0:=gz 0 (by omega)
         have g1:=gz 1 (by omega)
         have g2:=gz 2 (by omega)
         rw[Nat.add_zero]at g0
         have HN:Hid (IV w tK f i wr.heap.size v (.slice (some ⟨g,0,none⟩) (sat f i).c.length gK) (j+1) (((W6.setCell ⟨g,j*3,none⟩ (.int .i64 (gV (sat f i).c[j] tK).x)).setCell ⟨g,j*3+1,none⟩ (.int .i64 (gV (sat f i).c[j] tK).y)).setCell ⟨g,j*3+2,none⟩ (.int .i64 (gV (sat f i).c[j] tK).z))) :=
          HI6.out.next rfl hj HG5.out.1 hg6 hp
         have hj1:IntKind.i64.wrap ((j:Int)+1)=((j+1:Nat):Int):=by
          have:=hsh.1
          rw[wrap_eq (by omega) (by omega)];omega
         clear hg6 hm6 bad hbox hsz fz gz HI6 HI5 HG5
         gi_wp2
         refine⟨⟨j+1,⟨rfl,rfl,rfl,rfl,rfl,rfl,rfl,rfl,rfl,rfl,rfl⟩,HN.out⟩,?_⟩
         show (sat f i).c.length-((j:Int)+1).toNat<(sat f i).c.length-(j:Int).toNat
         omega
      · have hp : vU (gV (sat f i).c[j] tK) = false := by
          cases h:vU (gV (sat f i).c[j] tK) with
          | false=>rfl
          | true=>rw[xX (fun _=>none) (fun _ _=>rfl) h]at hm;cases hm
        have hfin:Below w.heap.size w (W5.alloc (Obj.cells #[.int .i64 m.x,.int .i64 m.y,.int .i64 m.z] 43)):=HI5.out.below.alloc HI5.out.below.size _
        have hbad:=bad hp
        clear bad
        dsimp only
        gi_wp2
        show LeavesInM (FW none) 0 Tryz.prog Tryz.f22 _ R [] .returning _
        refine⟨.tuple #[.slice none 0 0,.int .i64 3],by simp[results],?_⟩
        have:=hR (.slice none 0 0) _ hfin
        rw[hbad]at this
        exact this (nN.nil _ _ _)
    · have hje:j=(sat f i).c.length:=by have:=HI.out.le;omega
      subst hje
      have hbox:=HI.out.box
      have s0:wi.cell? ⟨wr.heap.size,0,none⟩=some (.int .i64 (sat f i).k):=by simp[World.cell?,hbox]
      have s1:wi.cell? ⟨wr.heap.size,1,none⟩=some (.slice FQ (sat f i).c.length gK):=by simp[World.cell?,hbox]
      have s2:wi.cell? ⟨wr.heap.size,2,none⟩=some (.int .i64 (sat f i).m):=by simp[World.cell?,hbox]
      have s3:wi.cell? ⟨wr.heap.size,3,none⟩=some (.int .i64 (sat f i).r):=by simp[World.cell?,hbox]
      have s4:wi.cell? ⟨wr.heap.size,4,none⟩=some (.int .i64 (sat f i).s):=by simp[World.cell?,hbox]
      have s5:wi.cell? ⟨wr.heap.size,5,none⟩=some (.int .i64 (sat f i).p):=by simp[World.cell?,hbox]
      obtain⟨vs,hrow,hvl,hvp⟩:=HI.out.row
      have hil:((f.take i).map (xW tK)).length=i:=by simp;omega
      rw[hil]at hrow hvl
      have amf:w.heap.size+1≤wi.heap.size:=(Array.getElem?_eq_some_iff.1 HI.out.hb).1
      obtain⟨i0,hi0,hz0,hz1,hz2⟩:=info_parts sInfo
      have amg:i<50:=by omega
      have hi1:IntKind.i64.wrap ((i:Int)+1)=((i+1:Nat):Int):=by rw[wrap_eq (by omega) (by omega)];omega
      have b1 : i + 1 ≤ maxLen := by have : maxLen = 9223372036854775807 := by decide
                                     omega
      have b2:(i+1)*64≤140737488355328:=by omega
      have b3:∀ o,w.heap.size+1≤(wi.alloc o).heap.size:=fun o=>by simp;omega
      clear hbox
      gi_wp2_with (first
       | (gi_at_builtin; refine wpListIn_append_own _ rfl _ _ 23 rfl (w.heap.size + 1) 47 i0 (.agg #[.int .i64 0,.slice none 0 0,.int .i64 0,.int .i64 0,.int .i64 0,.int .i64 0]) 6 64 Tryz.underlying23 hi0 hz0 hz1 hz2 rfl (by decide) _ _ _ rfl (hrow.alloc _) ⟨wi.heap.size,0,none⟩ 1 1 (Xd (sat f i) (.slice FQ (sat f i).c.length gK)) rfl rfl (VE _ _ _) (by simp [Value.oneCell',Xd]) b1 b2 (b3 _) ?_; intro v' w3 hown' hg3 hnil3
          go_frame))
      refine⟨⟨i+1,v',⟨rfl,rfl,rfl,rfl,rfl,rfl,rfl⟩,?_⟩,?_⟩
      · replace hg3:(wi.alloc (Obj.cells #[Value.int IntKind.i64 (sat f i).k,Value.slice FQ (sat f i).c.length gK,Value.int IntKind.i64 (sat f i).m,Value.int IntKind.i64 (sat f i).r,Value.int IntKind.i64 (sat f i).s,Value.int IntKind.i64 (sat f i).p] 47)).grownBy w3 v.ownBlock:=hg3
        have hbw:=(HI.out.below.alloc HI.out.below.size (Obj.cells #[Value.int IntKind.i64 (sat f i).k,Value.slice FQ (sat f i).c.length gK,Value.int IntKind.i64 (sat f i).m,Value.int IntKind.i64 (sat f i).r,Value.int IntKind.i64 (sat f i).s,Value.int IntKind.i64 (sat f i).p] 47)).grown hg3 (by have:=b3 (Obj.cells #[Value.int IntKind.i64 (sat f i).k,Value.slice FQ (sat f i).c.length gK,Value.int IntKind.i64 (sat f i).m,Value.int IntKind.i64 (sat f i).r,Value.int IntKind.i64 (sat f i).s,Value.int IntKind.i64 (sat f i).p] 47);omega) (fun k e=>by have:=(hrow.lt k e).1;omega)
        have VF:(f.take (i+1)).map (xW tK)=(f.take i).map (xW tK)++[xW tK (sat f i)]:=by
         rw[List.take_succ_eq_append_getElem hi,List.map_append,wM hi];rfl
        have hcs:((sat f i).c.take (sat f i).c.length).map (fun v=>gV v tK)++(sat f i).c.drop (sat f i).c.length=(xW tK (sat f i)).c:=by
         rw[List.take_length,List.drop_length,List.append_nil];rfl
        have hown:=HI.out.own
        rw[hcs]at hown
        have hln:(xW tK (sat f i)).c.length=(sat f i).c.length:=by show ((sat f i).c.map _).length=_;simp
        refine⟨hi,hbw,?_,?_,?_⟩
        · refine(hg3.block _ (by simp;omega) (fun e=>by have:=(hrow.lt _ e.symm).1;omega)).trans ((Below.heap_alloc _ _ _ (by omega)).trans HI.out.hb)
        · rw[VF]
          refine uY.append (vs:=vs) (u:=.slice FQ (sat f i).c.length gK) (E:=wr.heap.size) (by rw[hil];exact hrow.alloc _) (by rw[hil];exact hvl) (fun k s u h1 h2=>⟨((hvp k s u h1 h2).1).alloc _,(hvp k s u h1 h2).2⟩) (by rw[hil];exact hown') hg3 ?_
          rw[hln]
          have hS:=HO.out.below.size
          exact(own_base hown (by have:=HI.out.hS;omega)).alloc _
        · rw[← HO.out.res,EG hi,sO,if_pos,VF]
          have:=HI.out.ok
          rw[List.take_length]at this
          exact this
      · show f.length-((i:Int)+1).toNat<f.length-(i:Int).toNat
        omega
  · have hie:i=f.length:=by have:=HI.out.le;omega
    subst hie
    gi_wp2
    show LeavesInM (FW none) 0 Tryz.prog Tryz.f22 _ R [] .returning wr
    have hr:=HI.out.res
    rw[List.take_length,List.drop_length,sO]at hr
    refine⟨.tuple #[v,.int .i64 0],by simp[results],?_⟩
    have hrow:=HI.out.row
    rw[List.take_length]at hrow
    have:=hR v wr HI.out.below
    rw[← hr]at this
    exact this (uY.base hrow (Nat.le_succ _))
end Go.Skm.Fig
