import Derived.Test.YtoheflpoanjihaaGreatG19
import Derived.Test.YtoheflpoanjihaaGreatEqd
namespace Go.Skm.Fen
open Go Go.Skm
theorem Ze (v:V3):PV.agg [.int .i64 (((dn v).cell 0).toInt),.int .i64 (((dn v).cell 1).toInt),.int .i64 (((dn v).cell 2).toInt)]=dn v:=rfl
theorem adM (l:List V3) (i:Nat) (v:V3):(dh l).set i (dn v)=dh (l.set i v):=by simp[dh,List.map_set]
theorem TS (l:List V3) {i:Nat} (h:i<l.length):(dh l).getD i .nil=dn (gt l i):=by rw[dh,qLb,List.getElem?_map,qLd h];simp[gt,qLb,qLd h]
theorem ab6 (a b:V3) (p m q:List V3):((p++a::m++b::q).set p.length b).set (p.length+1+m.length) a=p++b::m++a::q:=by
 have h1:(p++a::m++b::q).set p.length b=p++b::(m++b::q):=by rw[List.append_assoc,List.set_append_right _ _ (Nat.le_refl _),Nat.sub_self];rfl
 rw[h1,List.set_append_right _ _ (by omega),show p.length+1+m.length-p.length=m.length+1 by omega,List.set_cons_succ,List.set_append_right _ _ (Nat.le_refl _),Nat.sub_self];simp
section
variable (X:Ext) (hX:Mine X)
include hX
theorem l89 (o n : Nat) (b0 : List PV) (hn : o + n ≤ 1000000) : ∀ (k : Nat) (m : List V3),m.length = k → ∀ (p q : List V3),p.length + q.length + m.length = o + n → p.length + m.length ≤ o + n → o ≤ p.length → q.length + o = p.length →
    L tab (run tab X) 89 [.arr true aW b0] [.lp [1,0]] (U4 o n ((p.length-o:Nat):Int) ((p.length-o+m.length:Nat)-1:Int) (dh (p++m++q)))=some ([],[.arr true aW (dh (p++m.reverse++q))]):=by
  have _:=hX;intro k;induction k using Nat.strongRecOn with
  | ind k ih =>
   intro m hm p q hl h2 h3 h4
   match hmm:m with
   | [] =>refine dW ?_;rw[Y6,show dG ((p.length-o:Nat):Int) ((p.length-o+([]:List V3).length:Nat)-1:Int)=false from decide_eq_false (by simp;omega),cond_false];rfl
   | [a] =>refine dW ?_;rw[Y6,show dG ((p.length-o:Nat):Int) ((p.length-o+[a].length:Nat)-1:Int)=false from decide_eq_false (by simp),cond_false];rfl
   | a::b::r =>
    obtain⟨m',z,hz⟩:∃ m' z,b::r=m'++[z]:=⟨(b::r).dropLast,(b::r).getLast (by simp),(List.dropLast_concat_getLast (by simp)).symm⟩;rw[hz]at hm hl h2 ⊢;have hlen:(a::(m'++[z])).length=m'.length+2:=by simp
    rw[hlen]at hm hl h2 ⊢;have i1:((p.length-o+(m'.length+2):Nat):Int)-1=((p.length-o+m'.length+1:Nat):Int):=by omega
    have hw1:IntKind.i64.wrap (((p.length-o:Nat):Int)+1)=((p.length-o+1:Nat):Int):=lW (by omega);have hw2:IntKind.i64.wrap (((p.length-o+m'.length+1:Nat):Int)-1)=((p.length-o+1+m'.length:Nat):Int)-1:=by rw[wrap_eq (by omega) (by omega)];omega
    have hq:q.length+o=p.length:=h4;have e0:p++a::(m'++[z])++q=p++a::m'++z::q:=by simp
    have gi:gt (p++a::m'++z::q) (o+(p.length-o))=a:=by rw[show o+(p.length-o)=p.length by omega];simp[gt,qLb]
    have gj:gt (p++a::m'++z::q) (o+(p.length-o+m'.length+1))=z:=by rw[show o+(p.length-o+m'.length+1)=p.length+(m'.length+1) by omega];show (p++a::m'++z::q).getD _ default=z;rw[List.append_assoc,qLb,List.getElem?_append_right (by omega),show p.length+(m'.length+1)-p.length=m'.length+1 by omega];simp
    have hlt1:o+(p.length-o)<(p++a::m'++z::q).length:=by simp;omega
    have hlt2:o+(p.length-o+m'.length+1)<(p++a::m'++z::q).length:=by simp;omega
    have hn2:p.length-o+m'.length+1<n:=by omega
    refine dW ?_;rw[i1,e0,Y6,show dG ((p.length-o:Nat):Int) ((p.length-o+m'.length+1:Nat):Int)=true from decide_eq_true (by omega),cond_true];rw[rng hn2,cond_true,rng (show p.length-o<n by omega),cond_true,cond_true,cond_true,hw1,hw2];simp only[Int.toNat_natCast,TS _ hlt1,TS _ hlt2,gi,gj,Ze,adM];have sw:((p++a::m'++z::q).set (o+(p.length-o)) z).set (o+(p.length-o+m'.length+1)) a=p++z::m'++a::q:=by rw[show o+(p.length-o)=p.length by omega,show o+(p.length-o+m'.length+1)=p.length+1+m'.length by omega];exact ab6 a z p m' q
    rw[sw];have Ba:=ih m'.length (by omega) m' rfl (p++[z]) (a::q) (by simp;omega) (by simp;omega) (by simp;omega) (by simp;omega);rw[show (p++[z]).length-o=p.length-o+1 by simp;omega]at Ba;rw[show p++[z]++m'++a::q=p++z::m'++a::q by simp,show p++[z]++m'.reverse++a::q=p++(a::(m'++[z])).reverse++q by simp]at Ba;exact Ba
theorem c89 (a:V3) (r:List V3) (hn:r.length≤999999):run tab X 89 [.slice 100000 3 1 r.length] [.arr true aW (dh (a::r))]=some ([],[.arr true aW (dh (a::r.reverse))]) :=
 bF (hX _ rfl) (by have key:=l89 X hX 1 r.length (dh (a::r)) (by omega) r.length r rfl [a] [] (by simp) (by simp) (by simp) (by simp);rw[e89,wrap_eq (by omega) (by omega)];simpa using key)
end
end Go.Skm.Fen
namespace Go.Skm.Fen
open Go Go.Skm
abbrev kR:List Kd:=[.bool,.str,.bool,.str]
def encR (l:List Rt):List PV:=l.map sG
theorem DI (l:List Rt):(encR l).length=l.length:=by simp[encR]
theorem adY (l:List Rt) {i:Nat} (h:i<l.length) (d:Rt):(encR l).getD i .nil=sG (l.getD i d):=by rw[encR,qLb,List.getElem?_map,qLd h];simp[qLb,qLd h]
theorem Jp (l:List Rt):((encR l).drop 0).take l.length=encR l:=by rw[List.drop_zero,← DI l,List.take_length]
def IY (ps:List (Int × Int)):List PV:=ps.map fun p=>.agg [.int .i64 p.1,.int .i64 p.2]
abbrev gp (ps:List (Int × Int)) (i:Nat):Int × Int:=ps.getD i (0,0)
theorem aci (ps:List (Int × Int)) {i:Nat} (h:i<ps.length):(IY ps).getD i .nil=.agg [.int .i64 (gp ps i).1,.int .i64 (gp ps i).2]:=by rw[IY,qLb,List.getElem?_map,qLd h];simp[gp,qLb,qLd h]
def Qj (l:List Rt) (p:Int × Int):List Rt:=if 0≤(low p.1 p.2).n∧(low p.1 p.2).n≤(low p.1 p.2).d then l++[low p.1 p.2] else l
def vX (l:List Rt) (ps:List (Int × Int)):List Rt:=ps.foldl Qj l
theorem XE (l:List Rt) (p:Int × Int):(Qj l p).length≤l.length+1:=by
 unfold Qj;split
 · simp
 · omega
def I43 (z:Int):Prop:=-35184372088832≤z∧z≤35184372088832
def Qk (a b c d:V3):Int:=(b.x-a.x)*(d.y-c.y)-(b.y-a.y)*(d.x-c.x)
def BD (a b c d:V3):List (Int × Int) :=
 if Qk a b c d=0 then(if area a b c=0 then [(vT a b c,JL a b),(vT a b d,JL a b)] else []) else [(Qk a c c d,Qk a b c d)]
theorem aaV {a b c d:V3} (ha:qR a) (hb:qR b) (hc:qR c) (hd:qR d):I43 (Qk a b c d):=by obtain⟨x1,y1⟩:=xk ha hb;obtain⟨x2,y2⟩:=xk hc hd;have q1:=tJ x1 y2;have q2:=tJ y1 x2;unfold I43 Qk;omega
theorem XF {a b c d:V3} (ha:qR a) (hb:qR b) (hc:qR c) (hd:qR d):IntKind.i64.wrap ((IntKind.i64.wrap ((IntKind.i64.wrap (b.x-a.x))*(IntKind.i64.wrap (d.y-c.y))))-(IntKind.i64.wrap ((IntKind.i64.wrap (b.y-a.y))*(IntKind.i64.wrap (d.x-c.x)))))=Qk a b c d:=by obtain⟨x1,y1⟩:=xk ha hb;obtain⟨x2,y2⟩:=xk hc hd;have q1:=tJ x1 y2;have q2:=tJ y1 x2;rw[wrap_eq (x:=b.x-a.x) (by omega) (by omega),wrap_eq (x:=d.x-c.x) (by omega) (by omega),wrap_eq (x:=b.y-a.y) (by omega) (by omega),wrap_eq (x:=d.y-c.y) (by omega) (by omega),wrap_eq (x:=(b.x-a.x)*_) (by omega) (by omega),wrap_eq (x:=(b.y-a.y)*_) (by omega) (by omega),wrap_eq (by omega) (by omega)];rfl
theorem aaW {z:Int} (h:I43 z):-9223372036854775808≤z∧z≤9223372036854775807:=by unfold I43 at h;omega
theorem adZ {z:Int} (h:I43 z):okW z:=(Qh h).1
theorem Zo {a b p:V3} (ha:qR a) (hb:qR b) (hp:qR p):I43 (vT a b p):=(ds ha hb hp).dot
theorem afK {a b:V3} (h:¬ (a.x=b.x∧a.y=b.y)):0<JL a b:=by
 have h1:=agK (b.x-a.x);have h2:=agK (b.y-a.y);have h3:∀ z:Int,z*z=0→z=0:=fun z hz=>by rcases Int.mul_eq_zero.1 hz with h | h<;>exact h
 have e:JL a b=(b.x-a.x)*(b.x-a.x)+(b.y-a.y)*(b.y-a.y):=rfl;rcases Int.lt_or_le 0 (JL a b) with hl | hl
 · exact hl
 · exact absurd ⟨by have:=h3 _ (show (b.x-a.x)*(b.x-a.x)=0 by omega);omega,by have:=h3 _ (show (b.y-a.y)*(b.y-a.y)=0 by omega);omega⟩ h
theorem XG {a b c d:V3} (ha:qR a) (hb:qR b) (hc:qR c) (hd:qR d) (hab:¬ (a.x=b.x∧a.y=b.y)):(BD a b c d).length≤2∧∀ p∈BD a b c d,I43 p.1∧I43 p.2∧p.2≠0:=by
 have hp:=afK hab;have b1:=Zo ha hb hb;unfold BD;split
 · split
   · refine⟨by simp,fun p hp'=>?_⟩;simp only[List.mem_cons,List.not_mem_nil,or_false]at hp';rcases hp' with rfl | rfl
     · exact⟨Zo ha hb hc,b1,by show JL a b≠0;omega⟩
     · exact⟨Zo ha hb hd,b1,by show JL a b≠0;omega⟩
   · exact⟨by simp,fun p hp'=>by simp at hp'⟩
 · next h =>refine⟨by simp,fun p hp'=>?_⟩;simp only[List.mem_cons,List.not_mem_nil,or_false]at hp';subst hp';exact⟨aaV ha hc hc hd,aaV ha hb hc hd,h⟩
def XH (a b:V3) (l:List Rt) (es:List AX):List Rt:=es.foldl (fun l e=>vX l (BD a b e.1 e.2)) l
theorem ad1 {l:List Rt} {p:Int × Int} {r:Rt} (h:r∈Qj l p):r∈l∨(r=low p.1 p.2∧0≤r.n∧r.n≤r.d):=by
 unfold Qj at h;split at h
 · next hc =>
   rcases List.mem_append.1 h with h | h
   · exact .inl h
   · simp only[List.mem_cons,List.not_mem_nil,or_false]at h;subst h;exact .inr ⟨rfl,hc⟩
 · exact .inl h
section
variable (X:Ext) (hX:Mine X)
include hX
theorem c73 (hB:Words X) (x y:Rt) (hx:x.ok) (hy:y.ok):run tab X 73 [.p (sG x),.p (sG y)] []=some ([.p (.int .i64 (x.n*y.d-y.n*x.d).sign)],[]) :=
 bF (hX _ rfl) (by have h1:=c62 X hX hB x.n x.d y.n y.d hx hy;rw[eR,eR]at h1;rw[sG,sG,eR,eR,e73,h1];rfl)
variable (hB:Bits X)
include hB
abbrev Vy (o n:Nat) (b:List PV):List cu:=[.box [.slice 99999 4 o n],.arr true [.bool,.str,.bool,.str] b]
theorem anH (l0 : List Rt) (ps : List (Int × Int)) (hp : ∀ p ∈ ps,I43 p.1 ∧ I43 p.2 ∧ p.2 ≠ 0) (hn : ps.length ≤ 1000) : ∀ (r : List (Int × Int)) (i : Nat) (l : List Rt),ps.drop i = r → i ≤ ps.length → l.length ≤ 1000000 + i →
    L tab (run tab X) 133 (Vy 0 l0.length (encR l0)) [.lp [1,0]] (Eo (IY ps) ((ps.length:Nat):Int) (i:Int) 0 l.length (encR l))=some ([],Vy 0 (vX l r).length (encR (vX l r))):=by
  have one:∀ a b:Int,I43 a→I43 b→b≠0→(low a b).ok:=fun a b ha hb h0=>Qg (adZ ha) (adZ hb) h0;intro r;induction r with
  | nil =>
   intro i l hr hi _;have hil:i=ps.length:=by have:=congrArg List.length hr;simp at this;omega
   refine dW ?_;rw[aaF,SQ (by omega),cond_false];rfl
  | cons p r ih =>
   intro i l hr hi hl;have hil:i<ps.length:=by have:=congrArg List.length hr;simp at this;omega
   have hv:gp ps i=p:=by show ps.getD i (0,0)=p;rw[qLb,← List.head?_drop,hr];rfl
   have hm:p∈ps:=by
    have:p∈ps.drop i:=by rw[hr];simp
    exact List.mem_of_mem_drop this
   obtain⟨p1,p2,p3⟩:=hp p hm;have k:=one p.1 p.2 p1 p2 p3;have hlen:(IY ps).length=ps.length:=by simp[IY]
   have Ba:=ih (i+1) (Qj l p) (by rw[← List.tail_drop,hr];rfl) (by omega) (by have:=XE l p;omega);have fold:vX l (p::r)=vX (Qj l p) r:=rfl;refine dW ?_;rw[aaF,Hw hil,cond_true];simp only[hlen,rng hil,cond_true,Int.toNat_natCast,aci ps hil,hv];show (run tab X 134 [.p (.int .i64 p.1),.p (.int .i64 p.2)] []).bind _=_;rw[adX X hX hB p.1 p.2 (aaW p1) (aaW p2) p3,Option.bind_some];simp only[List.headD_cons,List.tail_cons,dA,toInt_int,lW (show i≤9000000000000000000 by omega)];rw[show ((0:Int)==0)=true from rfl,cond_true];show (run tab X 109 [.p (eW (low p.1 p.2).n)] []).bind _=_;rw[c109 X hX _ k.1,Option.bind_some];simp only[List.headD_cons,dA,toInt_int,aaT];rw[fold];unfold Qj at Ba ⊢;by_cases h1:0≤(low p.1 p.2).n
   · rw[decide_eq_true h1,cond_true];show (run tab X 135 [.p (eW (low p.1 p.2).n),.p (eW (low p.1 p.2).d)] []).bind _=_;rw[anI X hX _ _ k.1 k.2.1,Option.bind_some];simp only[List.headD_cons,dA,toInt_int,aaU];by_cases h2:(low p.1 p.2).n≤(low p.1 p.2).d
     · rw[decide_eq_true (by omega),cond_true,if_pos ⟨h1,h2⟩];rw[if_pos ⟨h1,h2⟩]at Ba;have e1:Fe (l.length+1) 2147483648=true:=decide_eq_true (by omega);have e2:encR (l++[low p.1 p.2])=encR l++[sG (low p.1 p.2)]:=by simp[encR]
       rw[e1,cond_true,Jp];rw[e2,List.length_append]at Ba;exact Ba
     · rw[decide_eq_false (by omega),cond_false,if_neg fun h=>h2 h.2];rw[if_neg fun h=>h2 h.2]at Ba;exact Ba
   · rw[decide_eq_false h1,cond_false,if_neg fun h=>h1 h.1];rw[if_neg fun h=>h1 h.1]at Ba;exact Ba
theorem anJ (l:List Rt) (hl:l.length≤1000000) (ps:List (Int × Int)) (hp:∀ p∈ps,I43 p.1∧I43 p.2∧p.2≠0) (hn:ps.length≤1000):run tab X 133 [.p (.list true [.int .i64,.int .i64] (IY ps)),.ptr 100000 0 0] (Vy 0 l.length (encR l))=some ([],Vy 0 (vX l ps).length (encR (vX l ps))) :=
 bF (hX _ rfl) (by
  have h:=anH X hX hB l ps hp hn ps 0 l rfl (by omega) (by omega);rw[amX];have e:(IY ps).length=ps.length:=by simp[IY]
  rw[e];exact h)
theorem c72 (l:List Rt) (hl:l.length≤1000000) (a b c d:V3) (ha:qR a) (hb:qR b) (hc:qR c) (hd:qR d) (hab:¬ (a.x=b.x∧a.y=b.y)):run tab X 72 [.slice 99999 4 0 l.length,.p (dn a),.p (dn b),.p (dn c),.p (dn d)] [.log false [],.arr true kR (encR l)]=some ([.fresh true kR (encR (vX l (BD a b c d)))],[]) :=
 bF (hX _ rfl) (by
  obtain⟨k1,k2⟩:=XG ha hb hc hd hab;have q:=anJ X hX hB l hl (BD a b c d) k2 (by omega);have ht:=c96 X hX a b c ha.up hb.up hc.up;have fin:∀ l':List Rt,(((Xj (Vy 0 l'.length (encR l'))).drop ((Va (Vy 0 l'.length (encR l'))).qV)).take ((Va (Vy 0 l'.length (encR l'))).sLen))=encR l':=fun l'=>Jp l';rw[dn,dn,dn]at ht;rw[dn,dn,dn,dn,e72,XF ha hb hc hd,XF ha hc hc hd,Ez ha hb hc,Ez ha hb hb,Ez ha hb hd];rw[show vT a b b=JL a b from rfl];unfold BD at q ⊢;by_cases h1:Qk a b c d=0
  · rw[if_pos h1]at q ⊢;rw[show (Qk a b c d != 0)=false from by rw[h1];rfl,cond_false,ht,Option.bind_some];simp only[List.headD_cons,dA,toInt_int];by_cases h2:area a b c=0
    · rw[if_pos h2]at q ⊢;rw[show (nK a b c==0)=true from by unfold nK;rw[h2];rfl,cond_true];show (run tab X 133 [.p (.list true [.int .i64,.int .i64] (IY [(vT a b c,JL a b),(vT a b d,JL a b)])),.ptr 100000 0 0] (Vy 0 l.length (encR l))).bind _=_;rw[q,Option.bind_some,fin]
    · rw[if_neg h2]at q ⊢;have:nK a b c≠0:=by unfold nK;intro h;exact h2 (Xp.1 h)
      rw[show (nK a b c==0)=false from beq_eq_false_iff_ne.2 this,cond_false];rw[Jp];rfl
  · rw[if_neg h1]at q ⊢;rw[show (Qk a b c d != 0)=true from bne_iff_ne.2 h1,cond_true];show (run tab X 133 [.p (.list true [.int .i64,.int .i64] (IY [(Qk a c c d,Qk a b c d)])),.ptr 100000 0 0] (Vy 0 l.length (encR l))).bind _=_;rw[q,Option.bind_some,fin])
end
end Go.Skm.Fen
namespace Go.Skm.Fen
open Go Go.Skm
theorem IZ:∀ {l m:List Nat},(∀ x∈l,x<256)→(∀ x∈m,x<256)→l.map UInt8.ofNat=m.map UInt8.ofNat→l=m
 | [],[],_,_,_=>rfl
 | [],_::_,_,_,h=>by simp at h
 | _::_,[],_,_,h=>by simp at h
 | x::l,y::m,hl,hm,h=>by
  simp only[List.map_cons,List.cons.injEq]at h;have h1:=IZ (fun z hz=>hl z (by simp[hz])) (fun z hz=>hm z (by simp[hz])) h.2;have h2:x%256=y%256:=by have:=congrArg UInt8.toNat h.1;simpa using this
  have a:=hl x (by simp);have b:=hm y (by simp);rw[h1,show x=y by omega]
theorem afL {n m:Nat} (h:rQ n=rQ m):n=m:=by
 unfold rQ at h;have h1:=congrArg (fun b:ByteArray=>b.data.toList) h;simp only[]at h1;have hb:∀ k,∀ x∈OG k,x<256:=fun k x hx=>by rw[OG,List.mem_reverse]at hx;exact Dig.yZ (by decide) k x hx
 have h2:OG n=OG m:=IZ (hb n) (hb m) h1;unfold OG at h2;have h3:=congrArg List.reverse h2;rw[List.reverse_reverse,List.reverse_reverse]at h3;have h4:=congrArg (Dig.val 256) h3;rwa[Dig.qo (by decide),Dig.qo (by decide)]at h4
theorem ahs (a b:ByteArray):(a==b)=true↔a=b:=by
 constructor
 · intro h;have h':(a.data==b.data)=true:=h;have h2:=beq_iff_eq.1 h';cases a;cases b;simp_all
 · rintro rfl;show (a.data==a.data)=true;exact beq_self_eq_true _
theorem eqW {x y:Int}:(decide (x<0)==decide (y<0)&&(rQ x.natAbs==rQ y.natAbs&&true))=decide (x=y):=by
 rw[Bool.and_true,Bool.eq_iff_iff,qBa,qDa,beq_iff_eq,ahs,decide_eq_decide];constructor
 · rintro ⟨h1,h2⟩;have:=afL h2;omega
 · rintro rfl;exact⟨Iff.rfl,rfl⟩
theorem U2 (x y:Rt):(((((sG x).cell 0).toBool==((sG y).cell 0).toBool)&&((((sG x).cell 1).toStr==((sG y).cell 1).toStr)&&true))&&(((((sG x).cell 2).toBool==((sG y).cell 2).toBool)&&((((sG x).cell 3).toStr==((sG y).cell 3).toStr)&&true))&&true))=decide (x=y):=by
 have h1:=eqW (x:=x.n) (y:=y.n);have h2:=eqW (x:=x.d) (y:=y.d);show ((decide (x.n<0)==decide (y.n<0)&&(rQ x.n.natAbs==rQ y.n.natAbs&&true))&&((decide (x.d<0)==decide (y.d<0)&&(rQ x.d.natAbs==rQ y.d.natAbs&&true))&&true))=_;rw[h1,h2,Bool.and_true,← Bool.decide_and];apply decide_eq_decide.2;constructor
 · rintro ⟨h,h'⟩;cases x;cases y;simp_all
 · rintro rfl;exact⟨rfl,rfl⟩
def Cn (r:Rt):Prop:=0<r.d∧Int.gcd r.n r.d=1
theorem aaX {a b c:Int} (h:Int.gcd a b=1) (hd:b ∣ a*c):b ∣ c:=by
 have h1:b.natAbs ∣ a.natAbs*c.natAbs:=by rw[← Int.natAbs_mul];exact Int.natAbs_dvd_natAbs.2 hd
 have h2:Nat.Coprime b.natAbs a.natAbs:=by rw[Nat.coprime_comm];exact h
 exact Int.natAbs_dvd_natAbs.1 (h2.dvd_of_dvd_mul_left h1)
theorem ajs {x y:Rt} (hx:Cn x) (hy:Cn y) (h:x.n*y.d=y.n*x.d):x=y:=by
 obtain⟨x1,x2⟩:=hx;obtain⟨y1,y2⟩:=hy;have a1:x.d ∣ y.d:=aaX x2 ⟨y.n,by rw[h,Int.mul_comm]⟩;have a2:y.d ∣ x.d:=aaX y2 ⟨x.n,by rw[← h,Int.mul_comm]⟩;have e:x.d=y.d:=Int.dvd_antisymm (by omega) (by omega) a1 a2;have en:x.n=y.n:=by rw[e]at h;exact Int.eq_of_mul_eq_mul_right (by omega) h
 cases x;cases y;simp_all
theorem gcd_dvd (a b:Int):((Int.gcd a b:Nat):Int) ∣ a∧((Int.gcd a b:Nat):Int) ∣ b:=⟨Int.gcd_dvd_left ..,Int.gcd_dvd_right ..⟩
theorem aht {a b:Int} (h:b≠0):Cn (low a b):=by
 refine⟨Kt h,?_⟩;have hp:0<Int.gcd a b:=Int.gcd_pos_of_ne_zero_right _ h;have e1:(Qe a b).natAbs=a.natAbs / Int.gcd a b:=by
  unfold Qe;rw[Int.natAbs_mul,Int.natAbs_ediv_of_dvd (gcd_dvd a b).1];have:b.sign.natAbs=1:=by rw[Int.natAbs_sign_of_ne_zero h]
  rw[this,Nat.one_mul];rfl
 have e2:(OD a b).natAbs=b.natAbs / Int.gcd a b:=rfl;show Nat.gcd (Qe a b).natAbs (OD a b).natAbs=1;rw[e1,e2];exact Nat.coprime_div_gcd_div_gcd hp
def Y4 (x y:Rt):Prop:=x.n*y.d<y.n*x.d
instance (x y:Rt):Decidable (Y4 x y):=by unfold Y4;infer_instance
theorem LJ {x y z:Rt} (hx:0<x.d) (hy:0<y.d) (hz:0<z.d) (h1:¬ Y4 y x) (h2:¬ Y4 z y):¬ Y4 z x:=by
 unfold Y4 at *;have a:x.n*y.d≤y.n*x.d:=by omega
 have b:y.n*z.d≤z.n*y.d:=by omega
 have a1:=Int.mul_le_mul_of_nonneg_right a (by omega:0≤z.d);have b1:=Int.mul_le_mul_of_nonneg_right b (by omega:0≤x.d);have c:x.n*z.d*y.d≤z.n*x.d*y.d:=by
  have e1:x.n*y.d*z.d=x.n*z.d*y.d:=by grind
  have e2:y.n*x.d*z.d=y.n*z.d*x.d:=by grind
  have e3:z.n*y.d*x.d=z.n*x.d*y.d:=by grind
  omega
 have:=Int.le_of_mul_le_mul_right c hy;omega
def acj (x:Rt):List Rt→List Rt
 | []=>[x]
 | y::r=>if Y4 y x then y::acj x r else x::y::r
def IU (l:List Rt):List Rt:=l.foldr acj []
def Srt (l:List Rt):Prop:=l.Pairwise fun x y=>¬ Y4 y x
theorem Ub (x:Rt) (l:List Rt):(acj x l).Perm (x::l):=by
 induction l with
 | nil=>exact .refl _
 | cons y r ih =>
  unfold acj;split
  · exact(ih.cons y).trans (.swap ..)
  · exact .refl _
theorem H8 (l:List Rt):(IU l).Perm l:=by
 induction l with
 | nil=>exact .refl _
 | cons x r ih=>exact(Ub x _).trans (ih.cons x)
theorem ad2 {x:Rt} {l:List Rt} (hx:0<x.d) (hl:∀ y∈l,0<y.d) (h:Srt l):Srt (acj x l):=by
 induction l with
 | nil=>exact List.pairwise_cons.2 ⟨fun _ h=>by simp at h,List.Pairwise.nil⟩
 | cons y r ih =>
  obtain⟨h1,h2⟩:=List.pairwise_cons.1 h;unfold acj;split
  · next hc =>
    refine List.pairwise_cons.2 ⟨fun z hz=>?_,ih (fun z hz=>hl z (by simp[hz])) h2⟩;rcases List.mem_cons.1 ((Ub x r).mem_iff.1 hz) with rfl | hz
    · unfold Y4 at *;omega
    · exact h1 z hz
  · next hc =>
    refine List.pairwise_cons.2 ⟨fun z hz=>?_,h⟩;rcases List.mem_cons.1 hz with rfl | hz'
    · exact hc
    · exact LJ hx (hl y (by simp)) (hl z hz) hc (h1 z hz')
theorem ad3 {l:List Rt} (hl:∀ y∈l,0<y.d):Srt (IU l):=by
 induction l with
 | nil=>exact List.Pairwise.nil
 | cons x r ih =>refine ad2 (hl x (by simp)) (fun y hy=>hl y ?_) (ih fun y hy=>hl y (by simp[hy]));exact List.mem_cons_of_mem _ ((H8 r).mem_iff.1 hy)
theorem Ql:∀ {l m:List Rt},l.Perm m→Srt l→Srt m→(∀ x∈l,Cn x)→l=m
 | [],m,hp,_,_,_=>by rw[List.nil_perm.1 hp]
 | x::l,[],hp,_,_,_=>by simp at hp
 | x::l,y::m,hp,hl,hm,hc=>by
  obtain⟨l1,l2⟩:=List.pairwise_cons.1 hl;obtain⟨m1,m2⟩:=List.pairwise_cons.1 hm;have hx:=hp.mem_iff.1 (show x∈x::l by simp);have hy:=hp.mem_iff.2 (show y∈y::m by simp);have e:x=y:=by
   rcases List.mem_cons.1 hx with h | h
   · exact h
   · rcases List.mem_cons.1 hy with h' | h'
     · exact h'.symm
     · have a:=m1 x h;have b:=l1 y h';unfold Y4 at a b;exact ajs (hc x (by simp)) (hc y hy) (by omega)
  subst e;rw[Ql (hp.cons_inv) l2 m2 fun z hz=>hc z (by simp[hz])]
def Qm (x:Rt):List Rt→List Rt
 | []=>[]
 | y::r=>if y=x then Qm x r else y::Qm y r
def Qn:List Rt→List Rt
 | []=>[]
 | x::r=>x::Qm x r
theorem afM (x:Rt) (l:List Rt):(Qm x l).length≤l.length:=by
 induction l generalizing x with
 | nil=>simp[Qm]
 | cons y r ih =>
  unfold Qm;split
  · have:=ih x;simp;omega
  · have:=ih y;simp;omega
end Go.Skm.Fen
namespace Go.Skm.Fen
open Go Go.Skm
abbrev Vr:={ r:Rt // r.ok }
def Xc (l:List Vr):List PV:=encR (l.map (·.1))
structure Sorts (X:Ext):Prop where
 s:∀ l:List Vr,l.length≤100000→∃ m:List Vr,m.Perm l∧Srt (m.map (·.1))∧run tab X 74 [.slice 100000 4 0 l.length,.p (.fn 73 [])] [.arr true kR (Xc l)]=some ([],[.arr true kR (Xc m)])
theorem ad4 {α:Type} {a b:List α} {k i:Nat} (h:a.take k=b.take k) (hi:i<k) (d:α):a.getD i d=b.getD i d:=by have h1:=congrArg (fun l=>l.getD i d) h;simp only[qLb,List.getElem?_take]at h1 ⊢;rwa[if_pos hi,if_pos hi]at h1
theorem XI {α:Type} {a b:List α} {k i:Nat} (h:a.drop k=b.drop k) (hi:k≤i) (d:α):a.getD i d=b.getD i d:=by have h1:=congrArg (fun l=>l.getD (i-k) d) h;simp only[qLb,List.getElem?_drop]at h1 ⊢;rwa[show k+(i-k)=i by omega]at h1
abbrev gr (l:List Rt) (i:Nat):Rt:=l.getD i ⟨0,0⟩
theorem wJ (l:List Rt) {i:Nat} (h:i<l.length):(encR l).getD i .nil=sG (gr l i):=adY l h ⟨0,0⟩
theorem SV {α:Type} (b:List α) (k:Nat) (x:α) (h:k<b.length):(b.set k x).take (k+1)=b.take k++[x]:=by rw[List.take_add_one,List.take_set_of_le (by omega),List.getElem?_set_self h];rfl
theorem XJ {α:Type} (b:List α) (k m:Nat) (x:α) (h:k<m):(b.set k x).drop m=b.drop m:=List.drop_set_of_lt h
section
variable (X:Ext) (hX:Mine X)
include hX
theorem anL (l : List Rt) (hl : l.length ≤ 1000000) (k0 : Nat) (hk0 : 0 < k0) (asj : k0 < l.length) : ∀ (r : List Rt) (j k : Nat) (b : List PV),l.drop (k0 + j) = r → 0 < j → k0 + j ≤ l.length → 0 < k → k ≤ k0 + j - 1 → b.length = l.length → b.drop (k0 + j - 1) = (encR l).drop (k0 + j - 1) →
    ∀ acc:List Rt,b.take k=encR acc→acc.length=k→∃ b':List PV,L tab (run tab X) 75 [.arr true kR (encR l)] [.lp [1,1,0,1,0],.lp [1,0,0,1,0,1,0,1,0]] (kQ 0 l.length (k:Int) k0 (l.length-k0) (j:Int) b)=some ([.slice 100000 4 0 (acc.length+(Qm (gr l (k0+j-1)) r).length)],[.arr true kR b'])∧b'.take (acc.length+(Qm (gr l (k0+j-1)) r).length)=encR (acc++Qm (gr l (k0+j-1)) r):=by
  have _:=hX;intro r;induction r with
  | nil =>
   intro j k b hr hj hjl hk hkj hb hd acc hacc hlen;have hil:k0+j=l.length:=by have:=congrArg List.length hr;simp at this;omega
   refine⟨patch b (0+k) (List.replicate (((l.length:Int)-(k:Int)).toNat) (PV.agg [.bool false,.str ⟨#[]⟩,.bool false,.str ⟨#[]⟩])),?_,?_⟩
   · refine dW ?_;rw[rZ,show dG ((j:Nat):Int) ((l.length-k0:Nat):Int)=false from SQ (by omega),cond_false];have g1:leI ((k:Nat):Int) (l.length:Int)=true:=decide_eq_true (by omega);have g2:leI (l.length:Int) (l.length:Int)=true:=decide_eq_true (by omega);rw[le0,g1,g2];simp only[Bool.and_self,cond_true];rw[show (((k:Nat):Int)-0).toNat=k by omega,Qm,List.length_nil,Nat.add_zero,hlen,Int.toNat_natCast];rfl
   · rw[Qm,List.append_nil,List.length_nil,Nat.add_zero,hlen,← hacc,Nat.zero_add];unfold patch;rw[List.append_assoc,List.take_append_of_le_length (by simp;omega),List.take_take,Nat.min_self]
  | cons x r ih =>
   intro j k b hr hj hjl hk hkj hb hd acc hacc hlen;have hil:k0+j<l.length:=by have:=congrArg List.length hr;simp at this;omega
   have hx:gr l (k0+j)=x:=by show l.getD (k0+j) ⟨0,0⟩=x;rw[qLb,← List.head?_drop,hr];rfl
   have hnext:l.drop (k0+(j+1))=r:=by rw[← Nat.add_assoc,← List.tail_drop,hr];rfl
   have r1:b.getD (k0+j) .nil=sG x:=by rw[XI hd (by omega),wJ l (by omega),hx]
   have r2:b.getD (k0+(j-1)) .nil=sG (gr l (k0+j-1)):=by rw[show k0+(j-1)=k0+j-1 by omega,XI hd (by omega),wJ l (by omega)]
   have w1:IntKind.i64.wrap ((j:Int)-1)=((j-1:Nat):Int):=by rw[wrap_eq (by omega) (by omega)];omega
   have g1:dG ((j:Nat):Int) ((l.length-k0:Nat):Int)=true:=Hw (by omega);have g2:dG ((j-1:Nat):Int) ((l.length-k0:Nat):Int)=true:=Hw (by omega);have g3:dG ((k:Nat):Int) (l.length:Int)=true:=Hw (by omega);have hd1:b.drop (k0+(j+1)-1)=(encR l).drop (k0+(j+1)-1):=by have:=congrArg (fun m=>List.drop 1 m) hd;simp only[List.drop_drop]at this;rwa[show k0+j-1+1=k0+(j+1)-1 by omega]at this
   have hgl:gr l (k0+(j+1)-1)=x:=by rw[show k0+(j+1)-1=k0+j by omega,hx]
   rw[Qm];by_cases hc:x=gr l (k0+j-1)
   · rw[if_pos hc];obtain⟨b',i1,i2⟩:=ih (j+1) k b hnext (by omega) (by omega) hk (by omega) hb hd1 acc hacc hlen;rw[hgl,hc]at i1 i2;refine⟨b',?_,i2⟩;refine dW ?_;rw[rZ,g1,cond_true,w1];simp only[le0,g1,g2,Bool.and_self,cond_true,Int.toNat_natCast,r1,r2,U2,decide_eq_true hc,Bool.not_true,cond_false,lW (show j≤9000000000000000000 by omega)];exact i1
   · rw[if_neg hc];have e1:(b.set k (sG x)).take (k+1)=encR (acc++[x]):=by rw[SV _ _ _ (by omega),hacc];simp[encR]
     obtain⟨b',i1,i2⟩:=ih (j+1) (k+1) (b.set k (sG x)) hnext (by omega) (by omega) (by omega) (by omega) (by rw[List.length_set];exact hb) (by rw[XJ _ _ _ _ (by omega)];exact hd1) (acc++[x]) e1 (by simp[hlen]);rw[hgl]at i1 i2;have e2:(acc++[x]).length+(Qm x r).length=acc.length+(x::Qm x r).length:=by simp;omega
     have e3:acc++[x]++Qm x r=acc++x::Qm x r:=by simp
     rw[e2]at i1 i2;rw[e3]at i2;refine⟨b',?_,i2⟩;refine dW ?_;rw[rZ,g1,cond_true,w1];simp only[le0,g1,g2,g3,Bool.and_self,cond_true,Int.toNat_natCast,r1,r2,U2,decide_eq_false hc,Bool.not_false,Nat.zero_add,lW (show j≤9000000000000000000 by omega),lW (show k≤9000000000000000000 by omega),Ua];exact i1
theorem anM (l : List Rt) (hl : l.length ≤ 1000000) : ∀ (r : List Rt) (k : Nat),l.drop k = r → 0 < k → k ≤ l.length → Qn l = l.take k ++ Qm (gr l (k - 1)) r →
    ∃ b':List PV,L tab (run tab X) 75 [.arr true kR (encR l)] [.lp [1,1,0,1,0]] (Hq 0 l.length (k:Int) (encR l))=some ([.slice 100000 4 0 (Qn l).length],[.arr true kR b'])∧b'.take (Qn l).length=encR (Qn l):=by
  intro r;induction r with
  | nil =>
   intro k hr hk hkl hdd;have hil:k=l.length:=by have:=congrArg List.length hr;simp at this;omega
   have e:Qn l=l:=by rw[hdd,Qm,List.append_nil,hil,List.take_length]
   refine⟨encR l,?_,by rw[e,← DI,List.take_length]⟩;refine dW ?_;rw[LV,SQ (by omega),cond_false,e]
  | cons x r ih =>
   intro k hr hk hkl hdd;have hil:k<l.length:=by have:=congrArg List.length hr;simp at this;omega
   have hx:gr l k=x:=by show l.getD k ⟨0,0⟩=x;rw[qLb,← List.head?_drop,hr];rfl
   have w1:IntKind.i64.wrap ((k:Int)-1)=((k-1:Nat):Int):=by rw[wrap_eq (by omega) (by omega)];omega
   have g1:dG ((k:Nat):Int) (l.length:Int)=true:=Hw hil;have g2:dG ((k-1:Nat):Int) (l.length:Int)=true:=Hw (by omega);have hnext:l.drop (k+1)=r:=by rw[← List.tail_drop,hr];rfl
   by_cases hc:x=gr l (k-1)
   · rw[Qm,if_pos hc]at hdd;have e1:(encR l).take k=encR (l.take k):=by simp[encR]
     obtain⟨b',i1,i2⟩:=anL X hX l hl k hk hil r 1 k (encR l) hnext (by omega) (by omega) hk (by omega) (DI l) rfl (l.take k) e1 (by simp;omega);rw[show k+1-1=k by omega,hx,hc,← hdd,← List.length_append,← hdd]at i2;rw[show k+1-1=k by omega,hx,hc,← List.length_append,← hdd]at i1;refine⟨b',?_,i2⟩;refine dW ?_;have h1:leI ((k:Nat):Int) (l.length:Int)=true:=decide_eq_true (by omega);have h2:leI (l.length:Int) (l.length:Int)=true:=decide_eq_true (by omega);rw[LV,g1,cond_true,w1];simp only[le0,g1,g2,h1,h2,Bool.and_self,cond_true,Int.toNat_natCast,Nat.zero_add,wJ l hil,wJ l (show k-1<l.length by omega),U2,hx,decide_eq_true hc];rw[show ((l.length:Int)-(k:Int)).toNat=l.length-k by omega];exact i1
   · rw[Qm,if_neg hc]at hdd;obtain⟨b',i1,i2⟩:=ih (k+1) hnext (by omega) (by omega) (by
      rw[hdd,show k+1-1=k by omega,hx];have:l.take (k+1)=l.take k++[x]:=by
       rw[List.take_add_one,qLd hil];have:l[k]=x:=by rw[← hx,gr,qLb,qLd hil];rfl
       rw[this];rfl
      rw[this];simp)
     refine⟨b',?_,i2⟩;refine dW ?_;rw[LV,g1,cond_true,w1];simp only[le0,g1,g2,Bool.and_self,cond_true,Int.toNat_natCast,Nat.zero_add,wJ l hil,wJ l (show k-1<l.length by omega),U2,hx,decide_eq_false hc,cond_false,lW (show k≤9000000000000000000 by omega)];exact i1
theorem c75 (l:List Rt) (hl:l.length≤1000000):∃ b':List PV,run tab X 75 [.slice 100000 4 0 l.length] [.arr true kR (encR l)]=some ([.slice 100000 4 0 (Qn l).length],[.arr true kR b'])∧b'.take (Qn l).length=encR (Qn l):=by
 by_cases h2:l.length<2
 · have e : Qn l = l := by
     match l,h2 with
     | [],_=>rfl
     | [x],_=>rfl
     | _::_::_,h=>simp at h;omega
   refine⟨encR l,bF (hX _ rfl) ?_,by rw[e,← DI,List.take_length]⟩;rw[e75,show dG (l.length:Int) 2=true from decide_eq_true (by omega),cond_true,e]
 · obtain ⟨b',i1,i2⟩ := anM X hX l hl (l.drop 1) 1 rfl (by omega) (by omega) (by
     cases l with
     | nil=>simp at h2
     | cons x r=>rfl)
   refine⟨b',bF (hX _ rfl) ?_,i2⟩;rw[e75,show dG (l.length:Int) 2=false from decide_eq_false (by omega),cond_false];exact i1
end
end Go.Skm.Fen
