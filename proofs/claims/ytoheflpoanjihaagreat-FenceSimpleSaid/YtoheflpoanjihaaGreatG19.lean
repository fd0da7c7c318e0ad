import Derived.Test.YtoheflpoanjihaaGreatG18
namespace Go.Skm.Fen
open Go Go.Skm
def XD (l:List V3):List V3:=gt l 0::l.tail.reverse
def orient (first:Bool) (l:List V3):List V3:=if decide (0<wH l)==first then l else XD l
def Mc (hs:List (List V3)):List AX:=hs.flatMap fun h=>nC (orient false h)
def o7 (f:Fen):List AX:=nC (orient true f.outer)++Mc f.holes
def uf (f:Fen):List AX:=if lV f then o7 f else []
abbrev FH (f:Fen):List PV:=[.list true aW (dh f.outer),.list false [.slice true aW] (fB f.holes),.int .i64 f.low,.int .i64 f.high]
structure TJ (X:Ext):Prop where
 e:∀ f:Fen,Dh f→run tab X 87 [.vN,.p (.ref (FH f))] [.log true []]=some ([],[.log true ((uf f).map eY)])
theorem acg {l:List V3} {v:V3} (h:v∈XD l) (h0:0<l.length):v∈l:=by
 cases l with
 | nil=>simp at h0
 | cons a r =>
  unfold XD at h;rcases List.mem_cons.1 h with rfl | h
  · simp[gt]
  · rw[List.tail_cons,List.mem_reverse]at h;exact List.mem_cons_of_mem _ h
theorem ach {l:List V3} (h0:0<l.length):(XD l).length=l.length:=by unfold XD;rw[List.length_cons,List.length_reverse,List.length_tail];omega
theorem Zl {b:Bool} {l:List V3} {v:V3} (h:v∈orient b l) (h0:0<l.length):v∈l:=by
 unfold orient at h;split at h
 · exact h
 · exact acg h h0
theorem Zm {b:Bool} {l:List V3} (h0:0<l.length):(orient b l).length=l.length:=by
 unfold orient;split
 · rfl
 · exact ach h0
theorem ru {b:Bool} {l:List V3} (h:lG l=true):(orient b l).all (vO 1048576)=true∧(orient b l).length=l.length:=by obtain⟨h1,h2,h3⟩:=mG h;refine⟨List.all_eq_true.2 fun v hv=>List.all_eq_true.1 h3 v (Zl hv (by omega)),Zm (by omega)⟩
theorem Me {f:Fen} (h:lV f=true):∀ e∈o7 f,qR e.1∧qR e.2:=by
 obtain⟨h1,h2⟩:=Ah h;intro e he;rcases List.mem_append.1 he with he | he
 · exact H7 (ru h1).1 _ e he
 · obtain⟨x,hx,he⟩:=List.mem_flatMap.1 he;exact H7 (ru (h2 x hx)).1 _ e he
theorem Zn {f:Fen} (h:lV f=true):(o7 f).length≤2000:=by
 obtain⟨h1,h2⟩:=Ah h;have hn:=(zK h).2.1;have key:∀ hs:List (List V3),(∀ x∈hs,lG x=true)→(Mc hs).length≤64*hs.length:=by
  intro hs;induction hs with
  | nil=>intro _;simp[Mc]
  | cons x r ih =>intro hh;have a:=ih fun y hy=>hh y (by simp[hy]);have b:=(ru (b:=false) (hh x (by simp))).2;have c:=(mG (hh x (by simp))).2.1;unfold Mc at a ⊢;rw[List.flatMap_cons,List.length_append,uJ,List.length_cons];omega
 have a:=key f.holes h2;have b:=(ru (b:=true) h1).2;have c:=(mG h1).2.1;unfold o7;rw[List.length_append,uJ];omega
def NK (p:V3):Rt→List AX→Rt
 | b,[]=>b
 | b,e::r=>NK p (if ¬ b.ok∨(dist e.1 e.2 p).n*b.d-b.n*(dist e.1 e.2 p).d<0 then dist e.1 e.2 p else b) r
def Qi (f:Fen) (p:V3):Rt × Int:=if lV f then(if vO 1048576 p then(NK p ⟨0,0⟩ (o7 f),0) else(⟨0,0⟩,2)) else(⟨0,0⟩,2)
theorem afI (z:Int):dG z.sign 0=decide (z<0):=by
 rcases Int.lt_trichotomy z 0 with h | h | h
 · rw[Int.sign_eq_neg_one_of_neg h,decide_eq_true (by omega)];rfl
 · subst h;rfl
 · rw[Int.sign_eq_one_of_pos h,decide_eq_false (by omega)];rfl
section
variable (X:Ext) (hX:Mine X)
include hX
theorem ahr (a b c d:Int) (h:¬ (okR a b∧okR c d)):run tab X 62 [.p (eR a b),.p (eR c d)] []=some ([.p (.int .i64 0),.p (.int .i64 2)],[]) :=
 bF (hX _ rfl) (by have k1:=afJ X hX a b c d;rw[eR,eR]at k1;rw[← Bool.decide_and,decide_eq_false h]at k1;rw[eR,eR,e62,k1];rfl)
variable (hB:Bits X) (hE:TJ X)
include hB
abbrev S32 (f:Fen) (p:V3) (b:Rt):St:=qC (dh f.outer) (fB f.holes) f.low f.high p.x p.y p.z false ⟨#[]⟩ false ⟨#[]⟩ (decide (b.n<0)) (rQ b.n.natAbs) (decide (b.d<0)) (rQ b.d.natAbs)
abbrev w32 (ys:List PV):List Wy:=[.rg [1,1,1,0,1,0] [(true,aW),(true,aW)] ys]
theorem l32 (f : Fen) (p : V3) (hp : qR p) : ∀ (es : List AX) (b : Rt),(∀ e ∈ es,qR e.1 ∧ qR e.2) →
    L tab (run tab X) 32 [] (w32 (es.map eY)) (S32 f p b)=some ([.p (sG (NK p b es)),.p (.int .i64 0)],[]):=by
  intro es;induction es with
  | nil =>intro b _;rw[List.map_nil,PL];rfl
  | cons e r ih =>
   intro b hok;obtain⟨ha,hb⟩:=hok e (by simp);have q1:=c90 X hX hB e.1 e.2 p ha hb hp;have hd:=Vw ha hb hp;simp only[dn]at q1;have h1:=fun b'=>ih b' fun e' he'=>hok e' (by simp[he']);rw[List.map_cons,NK];show L tab (run tab X) 32 [] (w32 (.agg [.agg [.int .i64 e.1.x,.int .i64 e.1.y,.int .i64 e.1.z],.agg [.int .i64 e.2.x,.int .i64 e.2.y,.int .i64 e.2.z]]::r.map eY)) (S32 f p b)=_;rw[Ov,q1,Option.bind_some];generalize hn:dist e.1 e.2 p=n at *;have q3:run tab X 59 [.p (eR b.n b.d)] []=some ([.p (.bool (decide b.ok))],[]):=c59 X hX b.n b.d;by_cases hbk:b.ok
   · have q2:=c62 X hX hB n.n n.d b.n b.d hd hbk;show (run tab X 62 [.p (eR n.n n.d),.p (eR b.n b.d)] []).bind _=_;rw[q2,Option.bind_some];show (run tab X 59 [.p (eR b.n b.d)] []).bind _=_;rw[q3,Option.bind_some];simp only[List.headD_cons,dA,bD,toInt_int,decide_eq_true hbk,Bool.not_true,cond_false,afI];by_cases hl:n.n*b.d-b.n*n.d<0
     · rw[decide_eq_true hl,cond_true,if_pos (.inr hl)];exact h1 n
     · rw[decide_eq_false hl,cond_false,if_neg (by rintro (h | h)<;>contradiction)];exact h1 b
   · have q2:=ahr X hX n.n n.d b.n b.d fun h=>hbk h.2;show (run tab X 62 [.p (eR n.n n.d),.p (eR b.n b.d)] []).bind _=_;rw[q2,Option.bind_some];show (run tab X 59 [.p (eR b.n b.d)] []).bind _=_;rw[q3,Option.bind_some];simp only[List.headD_cons,dA,bD,decide_eq_false hbk,Bool.not_false,cond_true];rw[if_pos (.inl hbk)];exact h1 n
include hE
theorem c32 (f:Fen) (hf:Dh f) (p:V3):run tab X 32 [.p (mF f),.p (dn p)] []=some ([.p (sG (Qi f p).1),.p (.int .i64 (Qi f p).2)],[]) :=
 bF (hX _ rfl) (by
  have h1:=c18 X hX f hf;have h3:=c40 X hX p;have h4:=c31 X hX f;have h5:=hE.e f hf;have z:PV.agg [.bool false,.str ⟨#[]⟩,.bool false,.str ⟨#[]⟩]=sG ⟨0,0⟩:=Vx.symm;rw[mF]at h1 h4;rw[dn]at h3;rw[mF,dn,e32,h1,Option.bind_some,z];simp only[List.headD_cons,dA,bD];unfold Qi;cases hv:lV f with
  | false=>rfl
  | true =>
   rw[Bool.not_true,cond_false,h3,Option.bind_some,if_pos rfl];simp only[List.headD_cons,dA,bD];cases hm:vO 1048576 p with
   | false=>rfl
   | true =>
    rw[Bool.not_true,cond_false,h4,Option.bind_some,if_pos rfl];show (run tab X 87 [.vN,.p (.ref (FH f))] [.log true []]).bind _=_;rw[h5,Option.bind_some];unfold uf;rw[if_pos hv];have k:=l32 X hX hB f p (Cc.1 hm) (o7 f) ⟨0,0⟩ (Me hv);have e0:S32 f p ⟨0,0⟩=qC (dh f.outer) (fB f.holes) f.low f.high p.x p.y p.z false ⟨#[]⟩ false ⟨#[]⟩ false ⟨#[]⟩ false ⟨#[]⟩:=by unfold S32;rw[show (0:Int).natAbs=0 from rfl,FY];rfl
    rw[e0]at k;exact k)
end
end Go.Skm.Fen
