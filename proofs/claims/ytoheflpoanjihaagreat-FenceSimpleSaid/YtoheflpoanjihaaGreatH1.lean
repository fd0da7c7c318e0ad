import Derived.Test.YtoheflpoanjihaaGreatG7
import Derived.Test.YtoheflpoanjihaaGreatR4
namespace Go.Skm.Fen
open Go Go.Skm Go.Skm.Dig
theorem aeb {B p:Nat} (x r s:Nat) (q:Nat) (h:(r*B+x) / 256=q):(q+B*s)*256+(r*B+x)%256=x+B*(s*256+r):=by
 have:=Nat.div_add_mod (r*B+x) 256;rw[h]at this;have e:(q+B*s)*256=256*q+B*(s*256):=by rw[Nat.add_mul,Nat.mul_comm q,Nat.mul_assoc]
 rw[e,Nat.mul_add,Nat.mul_comm r]at *;omega
abbrev wA:List Wy:=[.lp [1,1,1,0,0]]
abbrev wB:List Wy:=[.lp [1,1,1,0,0],.lp [1,0,1,0,1,0]]
abbrev wC:List Wy:=[.lp [1,1,1,1,1,0,1,0]]
theorem XQ (k:IntKind) (l:List Nat) (i:Nat) (h:i<l.length):(bP k l).getD i .nil=.int k (l.getD i 0:Nat):=by rw[bP,qLb,List.getElem?_map,qLd h];simp[qLb,qLd h]
theorem aec (p q:List Nat) (x:Nat):(p++[x]++q).getD p.length 0=x:=by rw[qLb,List.append_assoc,List.getElem?_append_right (Nat.le_refl _),Nat.sub_self];rfl
theorem ahw (p q:List Nat) (x y:Nat):(p++[x]++q).set p.length y=p++([y]++q):=by rw[List.append_assoc,List.set_append_right _ _ (Nat.le_refl _),Nat.sub_self];rfl
theorem afR {α:Type} (P:List α→Prop) (h0:P []) (h1:∀ l x,P l→P (l++[x])) (l:List α):P l:=by
 have:∀ m:List α,P m.reverse:=by
  intro m;induction m with
  | nil=>exact h0
  | cons x m ih=>rw[List.reverse_cons];exact h1 _ _ ih
 rw[← List.reverse_reverse l];exact this _
section
variable (X:Ext) (hX:Mine X)
include hX
theorem an9 (neg : Bool) (xs : List PV) (g : Bool) (gs : ByteArray) (bk : List PV) (bo bl : Nat) (T : List Nat) (res : List AV × List cu) :
    ∀ pre:List Nat,∀ (suf:List Nat) (r:Nat),ok B9 pre→ok B9 suf→r<256→pre.length+suf.length≤1000000000 →
    (∀ (Q:List Nat) (r':Nat),Q.length=pre.length+suf.length→ok B9 Q→r'<256→val B9 Q*256+r'=val B9 pre+B9 ^ pre.length*(val B9 suf*256+r)→L tab (run tab X) 70 [] wB (lN bo bl 0 Q.length (r':Int) (-1) neg xs g gs bk (bP .i64 (Q++T)))=some res) →
    L tab (run tab X) 70 [] wB (lN bo bl 0 (pre.length+suf.length) (r:Int) ((pre.length:Int)-1) neg xs g gs bk (bP .i64 (pre++suf++T)))=some res:=by
  have _:=hX;intro pre;induction pre using afR with
  | h0 =>intro suf r hp hs hr hn h;have:=h suf r (by simp) hs hr (by simp[val]);simpa using this
  | h1 l x ih =>
   intro suf r hp hs hr hn h;rw[jQ]at hp;obtain⟨hl,hx⟩:=hp;have hx':x<B9:=hx x (by simp);have e9:B9=1000000000:=rfl;rw[List.length_append,List.length_singleton]at hn h ⊢;have hcur:r*B9+x<256*B9:=by have:r*B9≤255*B9:=Nat.mul_le_mul_right _ (by omega);omega
   have hq:(r*B9+x) / 256<B9:=Nat.div_lt_of_lt_mul (by omega);have hr':(r*B9+x)%256<256:=Nat.mod_lt _ (by decide);have key:=ih ((r*B9+x) / 256::suf) ((r*B9+x)%256) hl (Bg.2 ⟨hq,hs⟩) hr' (by simp;omega) (fun Q r' hQ hQo aoa hv=>by refine h Q r' (by rw[hQ];simp;omega) hQo aoa ?_;rw[hv,lT];have d:=aeb (B:=B9) (p:=0) x r (val B9 suf) _ rfl;show val B9 l+B9 ^ l.length*(((r*B9+x) / 256+B9*val B9 suf)*256+(r*B9+x)%256)=_;rw[d,Nat.pow_succ,Nat.mul_add,Nat.mul_assoc,Nat.add_assoc]);refine dW ?_;have i1:((l.length+1:Nat):Int)-1=(l.length:Int):=by omega
   rw[Dp,i1,show yH (l.length:Int) 0=true from decide_eq_true (by omega),cond_true];have g1:dG (l.length:Int) ((l.length+1+suf.length:Nat):Int)=true:=decide_eq_true (by omega);rw[show leI (0:Int) (l.length:Int)=true from decide_eq_true (by omega),g1];simp only[Bool.and_self,cond_true,Int.toNat_natCast,Nat.zero_add];rw[XQ _ _ _ (by simp),show l++[x]++suf++T=l++[x]++(suf++T) by simp,aec];have c1:IntKind.i64.wrap ((r:Int)*1000000000)=((r*B9:Nat):Int):=by rw[wrap_eq (by omega) (by omega),e9];omega
   have c2:IntKind.i64.wrap (((r*B9:Nat):Int)+(x:Int))=((r*B9+x:Nat):Int):=by rw[wrap_eq (by omega) (by omega)];omega
   have c3:IntKind.i64.wrap (((r*B9+x:Nat):Int).tdiv 256)=(((r*B9+x) / 256:Nat):Int):=by rw[show ((r*B9+x:Nat):Int).tdiv 256=(((r*B9+x) / 256:Nat):Int) from rfl,wrap_eq (by omega) (by omega)]
   have c4:((r*B9+x:Nat):Int).tmod 256=(((r*B9+x)%256:Nat):Int):=rfl;have c5:IntKind.i64.wrap ((l.length:Int)-1)=(l.length:Int)-1:=wrap_eq (by omega) (by omega);show L tab (run tab X) 70 [] wB (lN bo bl 0 (l.length+1+suf.length) ((IntKind.i64.wrap (IntKind.i64.wrap ((r:Int)*1000000000)+(x:Int))).tmod 256) (IntKind.i64.wrap ((l.length:Int)-1)) neg xs g gs bk ((bP .i64 (l++[x]++(suf++T))).set l.length (.int .i64 (IntKind.i64.wrap ((IntKind.i64.wrap (IntKind.i64.wrap ((r:Int)*1000000000)+(x:Int))).tdiv 256)))))=some res;rw[c1,c2,c3,c4,c5,lZ,ahw];rw[List.length_cons]at key;rw[show l++(r*B9+x) / 256::suf++T=l++([(r*B9+x) / 256]++(suf++T)) by simp,show l.length+(suf.length+1)=l.length+1+suf.length by omega]at key;exact key
theorem aob (neg : Bool) (xs : List PV) (g : Bool) (gs : ByteArray) (bk : List Nat) (hb : ∀ x ∈ bk,x < 256) (hn : bk.length ≤ 1000000000) : ∀ (i : Nat) (out : List Nat),i ≤ bk.length → out.length + i = bk.length →
    L tab (run tab X) 70 [] wC (uZ 0 bk.length 0 out.length ((i:Int)-1) neg xs g gs (bP .u8 bk) (bP .u8 out))=some ([.p (.agg [.bool neg,.str (bytesOf (bP .u8 (out++(bk.take i).reverse)))])],[]):=by
  have _:=hX;intro i;induction i with
  | zero =>intro out _ ho;refine dW ?_;rw[JV,show yH (((0:Nat):Int)-1) 0=false from rfl,cond_false];rw[show (bP .u8 out).drop 0=bP .u8 out from List.drop_zero,← dI .u8 out,List.take_length];simp
  | succ i ih =>
   intro out hi ho;have hil:i<bk.length:=by omega
   refine dW ?_;have i1:((i+1:Nat):Int)-1=(i:Int):=by omega
   rw[JV,i1,show yH (i:Int) 0=true from decide_eq_true (by omega),cond_true];have g1:dG (i:Int) (bk.length:Int)=true:=decide_eq_true (by omega);rw[show leI (0:Int) (i:Int)=true from decide_eq_true (by omega),g1];simp only[Bool.and_self,cond_true,Int.toNat_natCast,Nat.zero_add];rw[show Fe (out.length+1) 2147483648=true from decide_eq_true (by omega),cond_true,XQ _ _ _ hil];have e0:((bP .u8 out).drop 0).take out.length=bP .u8 out:=by rw[List.drop_zero,← dI .u8 out,List.take_length]
   have c5:IntKind.i64.wrap ((i:Int)-1)=(i:Int)-1:=wrap_eq (by omega) (by omega);show L tab (run tab X) 70 [] wC (uZ 0 bk.length 0 (out.length+1) (IntKind.i64.wrap ((i:Int)-1)) neg xs g gs (bP .u8 bk) (((bP .u8 out).drop 0).take out.length++([.int .u8 ((bk.getD i 0:Nat):Int)]:List PV)))=_;have e1:bP .u8 out++([.int .u8 ((bk.getD i 0:Nat):Int)]:List PV)=bP .u8 (out++[bk.getD i 0]):=by rw[← uK];rfl
   have e2:(bk.take (i+1)).reverse=bk.getD i 0::(bk.take i).reverse:=by rw[List.take_add_one,qLd hil,List.reverse_append];simp[qLb,qLd hil]
   have key:=ih (out++[bk.getD i 0]) (by omega) (by simp;omega);rw[List.length_append,List.length_singleton]at key;rw[e0,e1,c5,e2,key];simp
theorem aoc (neg : Bool) (xs : List PV) : ∀ (m : Nat) (b : List Nat) (l : Nat) (bk : List Nat),ok B9 b → b.length ≤ 1000000 → l ≤ b.length → b.take l = bK B9 m → (∀ x ∈ bk,x < 256) → bk.length + (bK 256 m).length ≤ 100000000 →
    L tab (run tab X) 70 [] wA (Ho 0 bk.length 0 l neg xs false ⟨#[]⟩ (bP .u8 bk) (bP .i64 b))=some ([.p (.agg [.bool neg,.str (bytesOf (bP .u8 (bk++bK 256 m).reverse))])],[]):=by
  intro m;induction m using Nat.strongRecOn with
  | ind m ih =>
   intro b l bk hb hbl hl hm hk hs;have hlen:l=(bK B9 m).length:=by have:=congrArg List.length hm;simpa [Nat.min_eq_left hl] using this
   by_cases h0:m=0
   · subst h0;rw[gq]at hlen ⊢;rw[List.length_nil]at hlen;subst hlen;rw[List.append_nil];refine dW ?_;rw[TM,show kX ((0:Nat):Int) 0=false from rfl,cond_false,wrap_eq (by omega) (by omega)];have key:=aob X hX neg xs false ⟨#[]⟩ bk hk (by omega) bk.length [] (Nat.le_refl _) (by simp);rw[List.take_length,List.nil_append]at key;exact key
   · have hpos : 0 < l := by rw[hlen];exact List.length_pos_iff.2 fun h=>h0 ((sD (by decide)).1 h)
     have agM:bK 256 m=m%256::bK 256 (m / 256):=Fv (by decide) (by omega);refine dW ?_;rw[TM,show kX (l:Int) 0=true from decide_eq_true (by omega),cond_true,wrap_eq (by omega) (by omega)];have e1:b=b.take l++[]++b.drop l:=by simp
     have aod:ok B9 (b.take l):=fun d hd=>hb d (List.mem_of_mem_take hd);have aoe:ok B9 (b.drop l):=fun d hd=>hb d (List.mem_of_mem_drop hd);have ht:(b.take l).length=l:=by simp;omega
     have key:=an9 X hX neg xs false ⟨#[]⟩ (bP .u8 bk) 0 bk.length (b.drop l) ([.p (.agg [.bool neg,.str (bytesOf (bP .u8 (bk++bK 256 m).reverse))])],[]) (b.take l) [] 0 aod (wo _) (by decide) (by simp;omega) (fun Q r' hQ hQo hr' hv=>by
      rw[ht]at hQ hv;rw[List.length_nil,Nat.add_zero]at hQ;have hvm:val B9 (b.take l)=m:=by rw[hm,qo (by decide)]
      rw[hvm]at hv;simp only[val,Nat.zero_mul,Nat.add_zero,Nat.mul_zero]at hv;have hq:val B9 Q=m / 256:=by omega
      have hr:r'=m%256:=by omega
      refine dW ?_;rw[Dp,show yH (-1:Int) 0=false from rfl,cond_false];rw[show Fe (bk.length+1) 2147483648=true from decide_eq_true (by omega),cond_true];have hQT:(Q++b.drop l).length≤2147483648:=by simp;omega
      rw[c130 X hX (Q++b.drop l) hQT 0 Q.length (by simp),Option.bind_some];have e2:((Q++b.drop l).drop 0).take Q.length=Q:=by simp
      rw[e2];have htr:trim Q=bK B9 (m / 256):=zG (by decide) hQo hq;have e3:((bP .u8 bk).drop 0).take bk.length++([.int .u8 (IntKind.u8.wrap (r':Int))]:List PV)=bP .u8 (bk++[m%256]):=by
       rw[List.drop_zero,← dI .u8 bk,List.take_length,← uK];have:IntKind.u8.wrap (r':Int)=((m%256:Nat):Int):=by rw[hr];have:m%256<256:=Nat.mod_lt _ (by decide);unfold IntKind.wrap;simp[IntKind.bits,IntKind.signed]
       rw[this];rfl
      rw[e3];have hlt:m / 256<m:=Nat.div_lt_self (by omega) (by decide);have Ba:=ih (m / 256) hlt (Q++b.drop l) (trim Q).length (bk++[m%256]) (jQ.2 ⟨hQo,aoe⟩) (by simp;omega) (by
       have:=Ky Q;rw[List.length_append];omega) (by
       rw[List.take_append_of_le_length (Ky Q),wL,htr]) (by
       intro x hx;rcases List.mem_append.1 hx with hx | hx
       · exact hk x hx
       · simp at hx;subst hx;exact Nat.mod_lt _ (by decide)) (by
       rw[agM,List.length_cons]at hs;rw[List.length_append,List.length_singleton];omega)
      rw[List.length_append,List.length_singleton]at Ba;rw[agM,show bk++m%256::bK 256 (m / 256)=bk++[m%256]++bK 256 (m / 256) by simp];exact Ba)
     rw[ht,← e1]at key;exact key
theorem bytes9 {n k:Nat} (h:(bK B9 n).length≤k):(bK 256 n).length≤4*k:=by have _:=hX;refine qp (by decide) (Nat.lt_of_lt_of_le (wZ (b:=B9) (by decide)) (Nat.le_trans (Nat.pow_le_pow_right (by decide) h) ?_));rw[Nat.pow_mul];exact Nat.pow_le_pow_left (by decide) _
theorem c70 (z:Int) (hz:SX z 1000000):run tab X 70 [.p (eI z)] []=some ([.p (eW z)],[]) :=
 bF (hX _ rfl) (by unfold SX at hz;have h256:=bytes9 X hX hz;rw[eI,e70,dI,show Fe (bK B9 z.natAbs).length 2147483648=true from decide_eq_true (by omega),cond_true];have key:=aoc X hX (decide (z<0)) (nI z.natAbs) z.natAbs (bK B9 z.natAbs) (bK B9 z.natAbs).length [] (yZ (by decide) _) hz (Nat.le_refl _) (List.take_length) (by simp) (by simp;omega);rw[List.nil_append,Kz]at key;exact key)
end
end Go.Skm.Fen
