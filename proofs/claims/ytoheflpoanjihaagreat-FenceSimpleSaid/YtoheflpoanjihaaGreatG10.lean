import Derived.Test.YtoheflpoanjihaaGreatG8
import Derived.Test.YtoheflpoanjihaaGreatEqv1
namespace Go.Skm.Fen
open Go Go.Skm
abbrev AX:=V3 × V3
def DC (l:List V3) (n:Nat):List AX:=(List.range n).map fun i=>(flat (ca l i),flat (cb l i))
abbrev nC (l:List V3):List AX:=DC l l.length
def eY (e:AX):PV:=.agg [dn e.1,dn e.2]
theorem P7 (l:List V3) (n:Nat):DC l (n+1)=DC l n++[(flat (ca l n),flat (cb l n))]:=by rw[DC,DC,List.range_succ,List.map_append];rfl
theorem uJ (l:List V3) (n:Nat):(DC l n).length=n:=by simp[DC]
def Vu (e:AX):Int:=e.1.x*e.2.y-e.1.y*e.2.x
def Vt:List AX→Int
 | []=>0
 | e::r=>Vu e+Vt r
abbrev qR (v:V3):Prop:=Bd 1048576 v
theorem qR.up {v:V3} (h:qR v):x9 v:=h.mono (by decide)
theorem aa3 {l:List V3} (h:l.all (vO 1048576)=true) (i:Nat):qR (gt l i):=by
 by_cases hi:i<l.length
 · have:=List.all_eq_true.1 h (l[i]) (List.getElem_mem hi);rw[Cc]at this;have e:gt l i=l[i]:=by show l.getD i default=_;rw[qLb,qLd hi];rfl
   rw[e];exact this
 · have e : gt l i = default := by show l.getD i default=_;rw[qLb,List.getElem?_eq_none (by omega)];rfl
   rw[e];refine⟨⟨?_,?_⟩,⟨?_,?_⟩,⟨?_,?_⟩⟩<;>decide
theorem aea {v:V3} (h:qR v):qR (flat v):=⟨h.1,h.2.1,⟨by show (-1048576:Int)≤0;decide,by show (0:Int)≤1048576;decide⟩⟩
def OkE (es:List AX):Prop:=∀ e∈es,qR e.1∧qR e.2
theorem H7 {l:List V3} (h:l.all (vO 1048576)=true) (n:Nat):OkE (DC l n):=by intro e he;simp only[DC,List.mem_map]at he;obtain⟨i,_,rfl⟩:=he;exact⟨aea (aa3 h _),aea (aa3 h _)⟩
theorem TY {e:AX} (h:qR e.1∧qR e.2):(-1099511627776≤e.1.x*e.2.y∧e.1.x*e.2.y≤1099511627776)∧(-1099511627776≤e.1.y*e.2.x∧e.1.y*e.2.x≤1099511627776):=by obtain⟨⟨a1,a2,_⟩,⟨b1,b2,_⟩⟩:=h;exact⟨afC (m:=1048576) (n:=1048576) a1 b2,afC (m:=1048576) (n:=1048576) a2 b1⟩
section
variable (X:Ext) (hX:Mine X)
include hX
theorem c51 (l:List V3):run tab X 51 [.p (.list true aW (dh l))] []=some ([.p (.fn 100 [.ref [.list true aW (dh l)]])],[]):=bF (hX _ rfl) (e51 _ _)
theorem an8 (l : List V3) (hl : l.length ≤ 1000000) : ∀ k i,i + k = l.length →
    L tab (run tab X) 100 [.log true []] [.lp [1,0]] (OO (dh l) (dh l) ((l.length:Nat):Int) (i:Int) ((DC l i).map eY))=some ([],[.log true ((nC l).map eY)]):=by
  have _:=hX;intro k;induction k with
  | zero =>
   intro i hi;have:i=l.length:=by omega
   subst this;refine dW ?_;rw[aaE,SQ (by omega),cond_false]
  | succ k ih =>
   intro i hi;have hil:i<l.length:=by omega
   have hn:=Zu (n:=l.length) (i:=i) (by omega);refine dW ?_;rw[aaE,Hw hil,cond_true];simp only[lH,le0,Hw hil,Hw hn,nz (show 0<l.length by omega),lW (show i≤9000000000000000000 by omega),XO,Bool.and_true,cond_true,Int.toNat_natCast,Jl,Jm];have h1:=ih (i+1) (by omega);rw[P7,List.map_append]at h1;refine VD rfl ?_;exact h1
theorem ab7 (l:List V3) (hl:l.length≤1000000):run tab X 100 [.vN,.p (.ref [.list true aW (dh l)])] [.log true []]=some ([],[.log true ((nC l).map eY)]) :=
 bF (hX _ rfl) (by rw[e100,lH];exact an8 X hX l hl l.length 0 (by omega))
theorem l47 (l : List PV) : ∀ (es : List AX) (s : Int),OkE es → -(4398046511104 * (1000000 - es.length)) ≤ s ∧ s ≤ 4398046511104 * (1000000 - es.length) → es.length ≤ 1000000 →
    L tab (run tab X) 47 [] [.rg [1,1,0,1,0] [(true,aW),(true,aW)] (es.map eY)] (zH l s)=some ([.p (.int .i64 (s+Vt es))],[]):=by
  have _:=hX;intro es;induction es with
  | nil =>intro s _ _ _;rw[List.map_nil,SK,Vt,Int.add_zero]
  | cons e r ih =>intro s hok hs hl;simp only[List.length_cons]at hs hl;have hb:=TY (hok e (by simp));rw[List.map_cons];show L tab (run tab X) 47 [] [.rg [1,1,0,1,0] [(true,aW),(true,aW)] (.agg [.agg [.int .i64 e.1.x,.int .i64 e.1.y,.int .i64 e.1.z],.agg [.int .i64 e.2.x,.int .i64 e.2.y,.int .i64 e.2.z]]::r.map eY)] (zH l s)=_;rw[Pn,wrap_eq (x:=e.1.x*e.2.y) (by omega) (by omega),wrap_eq (x:=e.1.y*e.2.x) (by omega) (by omega),wrap_eq (x:=e.1.x*e.2.y-e.1.y*e.2.x) (by omega) (by omega),wrap_eq (x:=s+_) (by omega) (by omega)];have h1:=ih (s+Vu e) (fun e' he'=>hok e' (by simp[he'])) (by unfold Vu;omega) (by omega);rw[Vt,← Int.add_assoc];exact h1
def wH (l:List V3):Int:=Vt (nC l)
theorem c47 (l:List V3) (hl:l.length≤1000) (hall:l.all (vO 1048576)=true):run tab X 47 [.p (.list true aW (dh l))] []=some ([.p (.int .i64 (wH l))],[]) :=
 bF (hX _ rfl) (by rw[e47,c51 X hX l,Option.bind_some];show (run tab X 100 [.vN,.p (.ref [.list true aW (dh l)])] [.log true []]).bind _=_;rw[ab7 X hX l (by omega),Option.bind_some];have h1:=l47 X hX (dh l) (nC l) 0 (H7 hall _) (by rw[uJ];omega) (by rw[uJ];omega);rw[Int.zero_add]at h1;exact h1)
theorem c48 (n:Int):run tab X 48 [.p (.int .i64 n)] []=some ([.p (.int .i64 (lS n))],[]) :=
 bF (hX _ rfl) (by rw[e48];simp only[Kq,lS];split<;>(try split)<;>rfl)
end
section
variable (X:Ext) (hX:Mine X)
include hX
end
end Go.Skm.Fen
namespace Go.Skm.Fen
structure Pt where
 x:Int
 y:Int
 deriving DecidableEq,Inhabited
def turn (a b c:Pt):Int:=(b.x-a.x)*(c.y-a.y)-(b.y-a.y)*(c.x-a.x)
def cr (p a b:Pt):Int:=if a.y≤p.y∧p.y<b.y∧0<turn a b p then 1 else if b.y≤p.y∧p.y<a.y∧turn a b p<0 then -1 else 0
def btw (a b c:Int):Prop:=(a≤c∧c≤b)∨(b≤c∧c≤a)
def on (a b p:Pt):Prop:=turn a b p=0∧btw a.x b.x p.x∧btw a.y b.y p.y
theorem Zi {a b:Int} (hb:0<b) (h:0<a*b):0<a:=by
 rcases Int.lt_trichotomy a 0 with h1 | h1 | h1
 · have:=Int.mul_neg_of_neg_of_pos h1 hb;omega
 · subst h1;simp at h
 · exact h1
theorem Zj {a b:Int} (hb:0<b) (h:a*b<0):a<0:=by
 rcases Int.lt_trichotomy a 0 with h1 | h1 | h1
 · exact h1
 · subst h1;simp at h
 · have:=Int.mul_pos h1 hb;omega
end Go.Skm.Fen
namespace Go.Skm.Fen
def sg (f:Nat→Int) (k:Nat):Nat→Int
 | 0=>0
 | n+1=>sg f k n+f (k+n)
def aog (p:Nat→Pt) (n:Nat) (x:Pt):Int:=sg (fun i=>cr x (p i) (p (i+1))) 0 n
end Go.Skm.Fen
namespace Go.Skm.Fen
def scp (D:Int) (a:Pt):Pt:=⟨D*a.x,D*a.y⟩
end Go.Skm.Fen
namespace Go.Skm.Fen
def adS (p:Nat→Pt) (n:Nat) (x:Pt):Prop:=∃ i,i<n∧on (p i) (p (i+1)) x
instance (a b c:Int):Decidable (btw a b c):=inferInstanceAs (Decidable (_∨_))
instance (a b c:Pt):Decidable (on a b c):=inferInstanceAs (Decidable (_∧_))
instance (p:Nat→Pt) (n:Nat) (x:Pt):Decidable (adS p n x):=decidable_of_iff (∃ i:Fin n,on (p i) (p (i+1)) x) ⟨fun ⟨i,h⟩=>⟨i.1,i.2,h⟩,fun ⟨i,hi,h⟩=>⟨⟨i,hi⟩,h⟩⟩
def whr (p:Nat→Pt) (n:Nat) (x:Pt):Int:=if adS p n x then 0 else if aog p n x≠0 then 1 else -1
end Go.Skm.Fen
namespace Go.Skm.Fen
open Go Go.Skm
def pt (v:V3):Pt:=⟨v.x,v.y⟩
theorem Hy {n:Int}:0<lS n↔0<n:=by unfold lS;split<;>(try split)<;>omega
theorem Hz {n:Int}:lS n<0↔n<0:=by unfold lS;split<;>(try split)<;>omega
theorem Xp {n:Int}:lS n=0↔n=0:=by unfold lS;split<;>(try split)<;>omega
theorem Dz (n:Int):lS n=-1∨lS n=0∨lS n=1:=by
 unfold lS;split
 · exact .inl rfl
 · split
   · exact .inr (.inr rfl)
   · exact .inr (.inl rfl)
theorem aaM (a b c:Int):decide (lS (a-c)*lS (b-c)≤0)=decide (btw a b c):=by rw[decide_eq_decide];have h1:=Hy (n:=a-c);have h2:=Hz (n:=a-c);have h3:=Hy (n:=b-c);have h4:=Hz (n:=b-c);unfold btw;rcases Dz (a-c) with e | e | e<;>rcases Dz (b-c) with e' | e' | e'<;>rw[e,e']<;>rw[e]at h1 h2<;>rw[e']at h3 h4<;>omega
def pts (l:List V3) (i:Nat):Pt:=pt (gt l (i%l.length))
theorem Zg {l:List V3} {i:Nat} (h:i<l.length):pts l i=pt (ca l i):=by unfold pts;rw[Nat.mod_eq_of_lt h]
theorem Vl (l:List V3) (i:Nat):pts l (i+1)=pt (cb l i):=rfl
def Tq (a b:V3) (u v w:Int):Int:=(b.x-a.x)*(v-a.y*w)-(b.y-a.y)*(u-a.x*w)
def Zh (u v w:Int) (e:AX):Bool:=(lS (Tq e.1 e.2 u v w)==0)&&(decide (lS (e.1.x*w-u)*lS (e.2.x*w-u)≤0)&&decide (lS (e.1.y*w-v)*lS (e.2.y*w-v)≤0))
def Xq (u v w:Int) (e:AX):Int:=if lS (e.1.y*w-v)≤0∧0<lS (e.2.y*w-v)∧0<lS (Tq e.1 e.2 u v w) then 1 else if lS (e.2.y*w-v)≤0∧0<lS (e.1.y*w-v)∧lS (Tq e.1 e.2 u v w)<0 then -1 else 0
theorem Vm (a b:V3) (u v w:Int):turn (scp w (pt a)) (scp w (pt b)) ⟨u,v⟩=w*Tq a b u v w:=by unfold turn scp pt Tq;grind
theorem aaN {u v w:Int} (hw:0<w) (e:AX):Zh u v w e=decide (on (scp w (pt e.1)) (scp w (pt e.2)) ⟨u,v⟩):=by
 have ex:∀ x:Int,x*w=w*x:=fun x=>Int.mul_comm _ _;have h0:(lS (Tq e.1 e.2 u v w)==0)=decide (turn (scp w (pt e.1)) (scp w (pt e.2)) ⟨u,v⟩=0):=by
  rw[Vm];have hz:=Xp (n:=Tq e.1 e.2 u v w);by_cases h:Tq e.1 e.2 u v w=0
  · rw[hz.2 h,h,Int.mul_zero];rfl
  · rw[decide_eq_false fun h'=>h ((Int.mul_eq_zero.1 h').resolve_left (by omega))];exact beq_eq_false_iff_ne.2 fun h'=>h (hz.1 h')
 unfold Zh;rw[h0,ex,ex,ex,ex,aaM,aaM,Bool.eq_iff_iff,qDa];unfold on;simp only[qBa,qDa];exact Iff.rfl
theorem ahn {u v w:Int} (hw:0<w) (e:AX):Xq u v w e=cr ⟨u,v⟩ (scp w (pt e.1)) (scp w (pt e.2)):=by
 have ex:∀ x:Int,x*w=w*x:=fun x=>Int.mul_comm _ _;have h1:0<lS (Tq e.1 e.2 u v w)↔0<turn (scp w (pt e.1)) (scp w (pt e.2)) ⟨u,v⟩:=by rw[Vm,Hy];exact⟨fun h=>Int.mul_pos hw h,fun h=>Zi hw (by rw[Int.mul_comm];exact h)⟩
 have h2:lS (Tq e.1 e.2 u v w)<0↔turn (scp w (pt e.1)) (scp w (pt e.2)) ⟨u,v⟩<0:=by rw[Vm,Hz];exact⟨fun h=>Int.mul_neg_of_pos_of_neg hw h,fun h=>Zj hw (by rw[Int.mul_comm];exact h)⟩
 have h3:∀ x y:Int,(lS (x-y)≤0↔x≤y)∧(0<lS (x-y)↔y<x):=fun x y=>by
  have a1:=Hy (n:=x-y);have a2:=Hz (n:=x-y);constructor
  · constructor<;>intro h<;>omega
  · rw[a1];omega
 unfold Xq cr;simp only[h1,h2,ex,(h3 _ _).1,(h3 _ _).2];rfl
def OB (u v w:Int):List AX→Int
 | []=>0
 | e::r=>Xq u v w e+OB u v w r
def whE (u v w:Int) (es:List AX):Int:=if es.any (Zh u v w) then 0 else if OB u v w es≠0 then 1 else -1
def OT (l:List V3) (u v w:Int):Int:=whr (fun i=>scp w (pts l i)) l.length ⟨u,v⟩
theorem aaO {u v w:Int} (hw:0<w) (l:List V3):∀ n,n≤l.length→OB u v w (DC l n)=sg (fun i=>cr ⟨u,v⟩ (scp w (pts l i)) (scp w (pts l (i+1)))) 0 n
 | 0,_=>rfl
 | n+1,hn=>by
  have app:∀ a b:List AX,OB u v w (a++b)=OB u v w a+OB u v w b:=by
   intro a b;induction a with
   | nil=>simp[OB]
   | cons e r ih=>simp only[List.cons_append,OB,ih];omega
  rw[P7,app,aaO hw l n (by omega),sg,Nat.zero_add];show _+(Xq u v w (flat (ca l n),flat (cb l n))+0)=_;rw[ahn hw,Int.add_zero,Zg (by omega),Vl];rfl
theorem adR {u v w:Int} (hw:0<w) (l:List V3):whE u v w (nC l)=OT l u v w:=by
 unfold whE OT whr;have h1:(nC l).any (Zh u v w)=decide (adS (fun i=>scp w (pts l i)) l.length ⟨u,v⟩):=by
  rw[Bool.eq_iff_iff,qDa,List.any_eq_true];unfold adS;constructor
  · rintro ⟨e,he,h⟩;simp only[nC,DC,List.mem_map,List.mem_range]at he;obtain⟨i,hi,rfl⟩:=he;rw[aaN hw,qDa]at h;refine⟨i,hi,?_⟩;show on (scp w (pts l i)) (scp w (pts l (i+1))) _;rw[Zg hi,Vl];exact h
  · rintro ⟨i,hi,h⟩;have h:on (scp w (pts l i)) (scp w (pts l (i+1))) ⟨u,v⟩:=h;rw[Zg hi,Vl]at h;refine⟨(flat (ca l i),flat (cb l i)),List.mem_map.2 ⟨i,List.mem_range.2 hi,rfl⟩,?_⟩;rw[aaN hw,qDa];exact h
 rw[h1,aaO hw l _ (Nat.le_refl _)];by_cases hB:adS (fun i=>scp w (pts l i)) l.length ⟨u,v⟩
 · rw[if_pos hB,if_pos (decide_eq_true hB)]
 · rw[if_neg hB,if_neg (by rw[decide_eq_false hB];decide)];rfl
end Go.Skm.Fen
