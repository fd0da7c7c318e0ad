import Derived.Test.YtoheflpoanjihaaGreatEqs
import Derived.Test.YtoheflpoanjihaaGreatEqt
import Derived.Test.YtoheflpoanjihaaGreatSkmE
import Derived.Test.YtoheflpoanjihaaGreatSkmF
namespace Go.Skm.Dig
def val (b:Nat):List Nat→Nat
 | []=>0
 | d::r=>d+b*val b r
theorem val_append (b:Nat):∀ (l m:List Nat),val b (l++m)=val b l+b ^ l.length*val b m
 | [],m=>by simp[val]
 | d::l,m=>by rw[List.cons_append,val,val,val_append b l m,List.length_cons,Nat.pow_succ,Nat.mul_add,Nat.mul_comm (b ^ l.length) b,Nat.mul_assoc];omega
theorem val_one (b d:Nat):val b [d]=d:=by simp[val]
theorem lT (b:Nat) (l:List Nat) (d:Nat):val b (l++[d])=val b l+b ^ l.length*d:=by rw[val_append,val_one]
theorem Hg (b:Nat):∀ n,val b (List.replicate n 0)=0
 | 0=>rfl
 | n+1=>by rw[List.replicate_succ,val,Hg b n];simp
def ok (b:Nat) (l:List Nat):Prop:=∀ d∈l,d<b
theorem wo (b:Nat):ok b []:=fun d h=>by simp at h
theorem Bg {b d:Nat} {l:List Nat}:ok b (d::l)↔d<b∧ok b l:=by simp[ok]
theorem jQ {b:Nat} {l m:List Nat}:ok b (l++m)↔ok b l∧ok b m:=by simp only[ok,List.mem_append];exact⟨fun h=>⟨fun d hd=>h d (.inl hd),fun d hd=>h d (.inr hd)⟩,fun h d hd=>hd.elim (h.1 d) (h.2 d)⟩
theorem rW {b:Nat}:∀ {l:List Nat},ok b l→val b l<b ^ l.length
 | [],_=>by simp[val]
 | d::l,h=>by obtain⟨h1,h2⟩:=Bg.1 h;have:=rW h2;have h3:b*(val b l+1)≤b*b ^ l.length:=Nat.mul_le_mul_left b this;rw[Nat.mul_add,Nat.mul_one]at h3;rw[val,List.length_cons,Nat.pow_succ,Nat.mul_comm (b ^ l.length) b];omega
def bK (b n:Nat):List Nat:=if _h:n=0∨b<2 then [] else n%b::bK b (n / b)
termination_by n
decreasing_by exact Nat.div_lt_self (by omega) (by omega)
theorem gq (b:Nat):bK b 0=[]:=by rw[bK];simp
theorem Fv {b n:Nat} (hb:2≤b) (hn:0<n):bK b n=n%b::bK b (n / b):=by rw[bK,dif_neg (by omega)]
theorem qo {b:Nat} (hb:2≤b) (n:Nat):val b (bK b n)=n:=by
 induction n using Nat.strongRecOn with
 | ind n ih =>
  by_cases h:n=0
  · subst h;rw[gq];rfl
  · rw[Fv hb (by omega),val,ih (n / b) (Nat.div_lt_self (by omega) (by omega))];exact Nat.mod_add_div n b
theorem yZ {b:Nat} (hb:2≤b) (n:Nat):ok b (bK b n):=by
 induction n using Nat.strongRecOn with
 | ind n ih =>
  by_cases h:n=0
  · subst h;rw[gq];exact wo b
  · rw[Fv hb (by omega)];exact Bg.2 ⟨Nat.mod_lt _ (by omega),ih _ (Nat.div_lt_self (by omega) (by omega))⟩
def tight (l:List Nat):Prop:=∀ d,l.getLast?=some d→d≠0
theorem sD {b n:Nat} (hb:2≤b):bK b n=[]↔n=0:=by
 constructor
 · intro h;have:=qo hb n;rw[h]at this;exact this.symm
 · rintro rfl;exact gq b
theorem wu {b:Nat} (hb:2≤b) (n:Nat):tight (bK b n):=by
 induction n using Nat.strongRecOn with
 | ind n ih =>
  by_cases h:n=0
  · subst h;rw[gq];intro d h;simp at h
  · rw[Fv hb (by omega)];intro d hd;by_cases h2:n / b=0
    · rw[h2,gq]at hd;simp at hd;subst hd;have:=Nat.mod_add_div n b;rw[h2]at this;omega
    · have hne:bK b (n / b)≠[]:=fun e=>h2 ((sD hb).1 e);obtain⟨x,r,hx⟩:=List.exists_cons_of_ne_nil hne;refine ih (n / b) (Nat.div_lt_self (by omega) (by omega)) d ?_;rw[hx]at hd ⊢;rw[List.getLast?_cons_cons]at hd;exact hd
theorem Je {d:Nat} {l:List Nat} (h:tight (d::l)):tight l:=fun e he=>h e (by
 cases l with
 | nil=>simp at he
 | cons x r=>rw[List.getLast?_cons_cons];exact he)
theorem OL {b:Nat} (hb:2≤b):∀ {l:List Nat},tight l→l≠[]→0<val b l
 | [],_,h=>absurd rfl h
 | [d],h,_=>by have:=h d rfl;rw[val_one];omega
 | d::x::l,h,_=>by have:=OL hb (Je h) (by simp);rw[val];have:=Nat.mul_pos (show 0<b by omega) this;omega
theorem O6 {b:Nat} (hb:2≤b):∀ {l:List Nat},ok b l→tight l→bK b (val b l)=l
 | [],_,_=>by rw[val,gq]
 | d::l,h,ht=>by
  obtain⟨h1,h2⟩:=Bg.1 h;have hp:=OL hb ht (by simp);rw[Fv hb hp,val];have e1:(d+b*val b l)%b=d:=by rw[Nat.add_mul_mod_self_left,Nat.mod_eq_of_lt h1]
  have e2:(d+b*val b l) / b=val b l:=by rw[Nat.add_mul_div_left _ _ (by omega),Nat.div_eq_of_lt h1,Nat.zero_add]
  rw[e1,e2,O6 hb h2 (Je ht)]
theorem UR {b n:Nat} (hb:2≤b) {l:List Nat} (h1:ok b l) (h2:tight l) (h3:val b l=n):l=bK b n:=by rw[← h3,O6 hb h1 h2]
theorem qp {b n k:Nat} (hb:2≤b) (h:n<b ^ k):(bK b n).length≤k:=by
 have ht:=wu hb n;have hv:=qo hb n;cases hl:bK b n with
 | nil=>simp
 | cons x r =>
  rcases List.eq_nil_or_concat (x::r) with e | ⟨l,d,e⟩
  · simp at e
  · rw[List.concat_eq_append]at e;rw[hl,e]at ht hv;have hd:d≠0:=ht d (by simp);rw[lT]at hv;rw[e,List.length_append,List.length_singleton];by_cases c:k≤l.length
    · exfalso;have h4:b ^ k≤b ^ l.length:=Nat.pow_le_pow_right (by omega) c;have h5:b ^ l.length*1≤b ^ l.length*d:=Nat.mul_le_mul_left _ (by omega);omega
    · omega
theorem wZ {b n:Nat} (hb:2≤b):n<b ^ (bK b n).length:=by have:=rW (yZ hb n);rwa[qo hb n]at this
theorem JM {b n:Nat} (hb:2≤b) (hn:0<n):b ^ ((bK b n).length-1)≤n:=by
 have h2:bK b n≠[]:=fun e=>by have:=(sD hb).1 e;omega
 have h3:0<(bK b n).length:=List.length_pos_iff.2 h2;by_cases c:b ^ ((bK b n).length-1)≤n
 · exact c
 · have:=qp hb (k:=(bK b n).length-1) (Nat.lt_of_not_le c);omega
def trim:List Nat→List Nat
 | []=>[]
 | d::r=>match trim r with
  | []=>if d=0 then [] else [d]
  | x::s=>d::x::s
theorem WW (b:Nat):∀ l,val b (trim l)=val b l
 | []=>rfl
 | d::r=>by
  have ih:=WW b r;rw[trim,val,← ih];cases trim r with
  | nil =>
   by_cases h:d=0
   · simp[h,val]
   · simp[h,val]
  | cons x s=>rfl
theorem O7:∀ l,tight (trim l)
 | []=>fun d h=>by simp[trim]at h
 | d::r=>by
  have ih:=O7 r;rw[trim];cases h:trim r with
  | nil =>
   by_cases h0:d=0
   · simp[h0];intro e he;simp at he
   · simp[h0];intro e he;simp at he;omega
  | cons x s =>rw[h]at ih;intro e he;exact ih e (by simpa [List.getLast?_cons_cons] using he)
theorem aax {b:Nat}:∀ {l},ok b l→ok b (trim l)
 | [],h=>h
 | d::r,h=>by
  obtain⟨h1,h2⟩:=Bg.1 h;have ih:=aax h2;rw[trim];cases h3:trim r with
  | nil =>
   by_cases h0:d=0
   · simp[h0];exact wo b
   · simp[h0];exact Bg.2 ⟨h1,wo b⟩
  | cons x s =>rw[h3]at ih;exact Bg.2 ⟨h1,ih⟩
theorem zG {b n:Nat} (hb:2≤b) {l:List Nat} (h1:ok b l) (h2:val b l=n):trim l=bK b n:=UR hb (aax h1) (O7 l) ((WW b l).trans h2)
theorem Jf:∀ l:List Nat,trim (l++[0])=trim l
 | []=>rfl
 | d::r=>by rw[List.cons_append,trim,Jf r,trim]
theorem BP:∀ {l:List Nat},tight l→trim l=l
 | [],_=>rfl
 | d::r,h=>by
  rw[trim,BP (Je h)];cases r with
  | nil =>have:=h d rfl;simp[this]
  | cons x s=>rfl
end Go.Skm.Dig
namespace Go.Skm.Dig
theorem WX {b P N M d x c k:Nat} (h:P+b ^ k*c=N+M):(P+b ^ k*((d+x+c)%b))+b ^ (k+1)*((d+x+c) / b)=(N+b ^ k*d)+(M+b ^ k*x):=by
 have h1:b ^ k*((d+x+c)%b)+b ^ (k+1)*((d+x+c) / b)=b ^ k*(d+x+c):=by rw[Nat.pow_succ,Nat.mul_assoc,← Nat.mul_add,Nat.mod_add_div]
 rw[Nat.mul_add,Nat.mul_add]at h1;omega
theorem WY {b P N M d x c c' e k:Nat} (h:P+M=N+b ^ k*c) (he:e+x+c=d+b*c'):(P+b ^ k*e)+(M+b ^ k*x)=(N+b ^ k*d)+b ^ (k+1)*c':=by
 have h1:b ^ k*(e+x+c)=b ^ k*e+b ^ k*x+b ^ k*c:=by rw[Nat.mul_add,Nat.mul_add]
 have h2:b ^ k*(d+b*c')=b ^ k*d+b ^ (k+1)*c':=by rw[Nat.mul_add,Nat.pow_succ,Nat.mul_assoc]
 rw[he]at h1;omega
theorem afj {B w d k t s dt:Nat} (hdt:0<dt) (hd:dt*B ^ k≤d) (hw:w<(t*B+s+1)*B ^ k) (hB:0<B):w / d≤(t*B+s) / dt:=by
 have hk:0<B ^ k:=Nat.pow_pos hB;have hd0:0<d:=Nat.lt_of_lt_of_le (Nat.mul_pos hdt hk) hd;refine(Nat.le_div_iff_mul_le hdt).2 ?_;have h1:w / d*d≤w:=Nat.div_mul_le_self w d;have h2:w / d*(dt*B ^ k)≤w / d*d:=Nat.mul_le_mul_left _ hd;have h3:w / d*dt*B ^ k<(t*B+s+1)*B ^ k:=by rw[Nat.mul_assoc];omega
 have:=Nat.lt_of_mul_lt_mul_right h3;omega
theorem ag0 {w d g:Nat} (hd:0<d) (h1:w / d≤g) (h2:d*g≤w):g=w / d:=by have:g≤w / d:=(Nat.le_div_iff_mul_le hd).2 (by rw[Nat.mul_comm];exact h2);omega
theorem adl {w d g:Nat} (hd:0<d) (h2:w<d*g):0<g∧w / d≤g-1:=by have h3:w / d<g:=(Nat.div_lt_iff_lt_mul hd).2 (by rw[Nat.mul_comm];exact h2);generalize w / d=q at *;omega
end Go.Skm.Dig
namespace Go.Skm.Fen
open Go Go.Skm Go.Skm.Dig
def ag4 (f:Nat):Bool:=f==74||(f==87||(f==88||(f==187||(f==191||f==193))))
def Mine (X:Ext):Prop:=∀ f,ag4 f=false→X f=none
abbrev aZ:Nat:=18446744073709551616
theorem b64:2≤aZ:=by decide
abbrev kU:List Kd:=[.int .u64]
def bP (k:IntKind) (l:List Nat):List PV:=l.map fun n:Nat=>.int k (n:Int)
@[simp] theorem dI (k:IntKind) (l:List Nat):(bP k l).length=l.length:=by simp[bP]
@[simp] theorem gK (k:IntKind) (l:List Nat) (i:Nat):(((bP k l).getD i .nil).cell 0).toInt=((l.getD i 0:Nat):Int):=by rw[qLb,qLb,bP,List.getElem?_map];cases l[i]?<;>rfl
theorem lZ (k:IntKind) (l:List Nat) (i n:Nat):(bP k l).set i (.int k n)=bP k (l.set i n):=by simp[bP,List.map_set]
theorem l9 (k:IntKind) (n:Nat):List.replicate n (PV.int k 0)=bP k (List.replicate n 0):=by simp[bP]
theorem UO (k:IntKind) (l:List Nat) (n:Nat):(bP k l).drop n=bP k (l.drop n):=by simp[bP]
theorem wO (k:IntKind) (l:List Nat) (n:Nat):(bP k l).take n=bP k (l.take n):=by simp[bP]
theorem uK (k:IntKind) (l m:List Nat):bP k l++bP k m=bP k (l++m):=by simp[bP]
theorem set_mid (pre:List Nat) (k v:Nat):(pre++List.replicate (k+1) 0).set pre.length v=(pre++[v])++List.replicate k 0:=by rw[List.set_append,if_neg (by omega),Nat.sub_self,List.replicate_succ,List.set_cons_zero,List.append_assoc];rfl
theorem qH (b:Nat) (l:List Nat) (i:Nat):val b (l.take (i+1))=val b (l.take i)+b ^ i*l.getD i 0:=by
 by_cases h:i<l.length
 · rw[List.take_succ_eq_append_getElem h,lT,List.length_take,Nat.min_eq_left (by omega)];congr 2;rw[qLb];simp[h]
 · rw[List.take_of_length_le (show l.length≤i+1 by omega),List.take_of_length_le (show l.length≤i by omega),qLb,List.getElem?_eq_none (by omega)];simp
theorem jL {b:Nat} {l:List Nat} (h:ok b l) (hb:0<b) (i:Nat):l.getD i 0<b:=by
 rw[qLb];by_cases hi:i<l.length
 · rw[qLd hi];exact h _ (List.getElem_mem hi)
 · rw[List.getElem?_eq_none (by omega)];exact hb
theorem Ky:∀ l:List Nat,(trim l).length≤l.length
 | []=>Nat.le_refl _
 | d::r=>by
  have ih:=Ky r;rw[trim];cases h:trim r with
  | nil=>by_cases h0:d=0<;>simp[h0]
  | cons x s=>rw[h]at ih;simp at ih ⊢;omega
theorem wL:∀ l:List Nat,l.take (trim l).length=trim l
 | []=>rfl
 | d::r=>by
  have ih:=wL r;rw[trim];cases h:trim r with
  | nil=>by_cases h0:d=0<;>simp[h0]
  | cons x s =>rw[h]at ih;show d::r.take (x::s).length=_;rw[ih]
structure Words (X:Ext):Prop where
 mul:∀ x y:Nat,x<aZ→y<aZ→run tab X 187 [.p (.int .u64 x),.p (.int .u64 y)] []=some ([.p (.int .u64 ((x*y / aZ:Nat):Int)),.p (.int .u64 ((x*y%aZ:Nat):Int))],[])
 div:∀ h l d:Nat,h<d→l<aZ→d<aZ→run tab X 191 [.p (.int .u64 h),.p (.int .u64 l),.p (.int .u64 d)] []=some ([.p (.int .u64 (((h*aZ+l) / d:Nat):Int)),.p (.int .u64 (((h*aZ+l)%d:Nat):Int))],[])
structure Bits (X:Ext):Prop where
 w:Words X
 clone:∀ l:List Nat,l.length≤100000→run tab X 193 [.p (.list false kU (bP .u64 l))] []=some ([.fresh false kU (bP .u64 l)],[])
instance {X:Ext}:CoeOut (Bits X) (Words X):=⟨Bits.w⟩
section
variable (X:Ext) (hX:Mine X)
include hX
theorem ap4 (b:List Nat) (hb:b.length≤2147483648) (o:Nat):∀ l,o+l≤b.length→L tab (run tab X) 113 [.arr false kU (bP .u64 b)] [.lp [1,0,0]] (JZ o l (bP .u64 b))=some ([.slice 100000 1 o (trim ((b.drop o).take l)).length],[.arr false kU (bP .u64 b)]):=by
 have _:=hX;intro l;induction l with
 | zero =>intro h;refine dW ?_;rw[Xh];exact dO (show ¬ ((0:Nat):Int) > 0 by omega) rfl
 | succ l ih =>
  intro h;have w1:IntKind.i64.wrap (((l+1:Nat):Int)-1)=(l:Int):=by rw[wrap_eq (by omega) (by omega)];omega
  have hlt:l<(b.drop o).length:=by simp;omega
  have hg:(b.drop o)[l]=b.getD (o+l) 0:=by rw[qLb,List.getElem_drop,qLd (by omega)];rfl
  refine dW ?_;rw[Xh];refine fF (show ((l+1:Nat):Int) > 0 by omega) ?_;rw[w1];have hr:(leI (0:Int) (l:Int)&&dG (l:Int) ((l+1:Nat):Int))=true:=by simp;omega
  have hr2:(leI (0:Int) (l:Int)&&(leI (l:Int) ((l+1:Nat):Int)&&leI ((l+1:Nat):Int) ((l+1:Nat):Int)))=true:=by simp;omega
  rw[hr,hr2];simp only[cond_true,Int.toNat_natCast,gK,adP,Int.sub_zero,Nat.add_zero];rw[List.take_succ_eq_append_getElem hlt,hg];by_cases h0:b.getD (o+l) 0=0
  · rw[if_pos (by omega),ih (by omega),h0,Jf]
  · rw[if_neg (by omega),BP (fun d hd=>by rw[List.getLast?_concat]at hd;exact Option.some.inj hd▸h0),List.length_append,List.length_take,Nat.min_eq_left (by omega)];rfl
theorem WM (b:List Nat) (hb:b.length≤2147483648) (o l:Nat) (h:o+l≤b.length):run tab X 113 [.slice 100000 1 o l] [.arr false kU (bP .u64 b)]=some ([.slice 100000 1 o (trim ((b.drop o).take l)).length],[.arr false kU (bP .u64 b)]) :=
 bF (hX _ rfl) (by rw[amm];exact ap4 X hX b hb o l h)
end
end Go.Skm.Fen
namespace Go.Skm.Fen
open Go Go.Skm Go.Skm.Dig
theorem SE (a b c:Nat):lU false a b c=(a+b+c)%aZ:=rfl
theorem SG (a b c:Nat):ni false a b c=(a+b+c) / aZ:=rfl
theorem agv {B a b c:Nat} (ha:a<B) (hb:b<B) (hc:c≤1):(a+B-b-c)%B+b+c=a+B*(if a<b+c then 1 else 0)∧(a+B-b-c)%B<B∧(if a<b+c then 1 else 0)≤1:=by
 by_cases h:a<b+c
 · rw[if_pos h,Nat.mod_eq_of_lt (by omega)];omega
 · rw[if_neg h,show a+B-b-c=(a-b-c)+B by omega,Nat.add_mod_right,Nat.mod_eq_of_lt (by omega)];omega
theorem cV {B:Nat} (h:B=18446744073709551616) (a b c:Nat):lU true a b c=(a+B-b-c)%B:=by subst h;rw[lU,cond_true]
theorem cC (a b c:Nat):ni true a b c=if a<b+c then 1 else 0:=by rw[ni,cond_true]
theorem agw {a b c:Nat} (ha:a<aZ) (hb:b<aZ) (hc:c≤1):lU true a b c+b+c=a+aZ*ni true a b c∧lU true a b c<aZ∧ni true a b c≤1:=by have hB:aZ=18446744073709551616:=rfl;revert hB ha hb;generalize aZ=B;intro ha hb hB;rw[cV hB,cC];exact agv ha hb hc
theorem rE (b:Nat) (l:List Nat) (i:Nat) (h:l.length≤i):val b (l.take i)=val b l:=by rw[List.take_of_length_le h]
theorem ab8 {a b c:Bool} (h1:a=true) (h2:b=true) (h3:c=true):(a&&(b&&c))=true:=by simp[h1,h2,h3]
theorem LD {b:Nat} {l:List Nat} (h:ok b l) (i:Nat):ok b (l.take i):=fun d hd=>h d (List.mem_of_mem_take hd)
theorem abv {b:Nat} {l:List Nat} (h:ok b l) (i:Nat):ok b (l.drop i):=fun d hd=>h d (List.mem_of_mem_drop hd)
theorem Sz {b:Nat} (hb:0<b) (n:Nat):ok b (List.replicate n 0):=fun d hd=>by rw[List.eq_of_mem_replicate hd];exact hb
section
variable (X:Ext) (hX:Mine X)
include hX
theorem wY (b:List Nat) (hb:b.length≤2147483648) (hok:ok aZ b) (l:Nat) (hl:l=b.length):((run tab X) 113 [.slice 100000 1 0 l] [.arr false kU (bP .u64 b)]).bind (fun r1=>some ([AV.fresh false kU ((((r1.2.headD (.box [])).xs).drop ((r1.1.headD .undef).qV)).take ((r1.1.headD .undef).sLen))],([]:List cu)))=some ([.fresh false kU (bP .u64 (bK aZ (val aZ b)))],[]):=by subst hl;rw[WM X hX b hb 0 _ (by omega),List.drop_zero,List.take_length,← zG b64 hok rfl];show some ([AV.fresh false kU (((bP .u64 b).drop 0).take (trim b).length)],([]:List cu))=_;rw[List.drop_zero,wO,wL]
theorem alB (N M : List Nat) (hN : ok aZ N) (hM : ok aZ M) (hn : N.length ≤ 100000000) (hm : M.length ≤ N.length) : ∀ (k i c : Nat) (pre : List Nat),i + k = N.length → pre.length = i → ok aZ pre → c ≤ 1 →
    val aZ pre+aZ ^ i*c=val aZ (N.take i)+val aZ (M.take i) →
    L tab (run tab X) 155 [] [.lp [1,1,1,1,0,1,0]] (oO (bP .u64 N) (bP .u64 M) 0 (N.length+1) c N.length i (bP .u64 (pre++List.replicate (N.length+1-i) 0)))=some ([.fresh false kU (bP .u64 (bK aZ (val aZ N+val aZ M)))],[]):=by
  intro k;induction k with
  | zero =>
   intro i c pre hi hp hok hc hv;have hin:i=N.length:=by omega
   subst hin;refine dW ?_;rw[J4];refine dO (by omega) ?_;have hr:(leI (0:Int) (((bP .u64 N).length:Nat):Int)&&dG (((bP .u64 N).length:Nat):Int) ((N.length+1:Nat):Int))=true:=by simp;omega
   rw[hr,cond_true];simp only[dI,Int.toNat_natCast,Nat.zero_add,Nat.add_sub_cancel_left];rw[show List.replicate 1 0=List.replicate (0+1) 0 from rfl,← hp,lZ,set_mid];simp only[List.replicate_zero,List.append_nil];have hok2:ok aZ (pre++[c]):=jQ.2 ⟨hok,fun d hd=>by rw[List.mem_singleton.1 hd];show c<18446744073709551616;omega⟩;have hval:val aZ (pre++[c])=val aZ N+val aZ M:=by rw[lT,hp,hv,rE _ _ _ (Nat.le_refl _),rE _ _ _ hm]
   rw[← hval];exact wY X hX _ (by simp;omega) hok2 _ (by simp)
  | succ k ih =>
   intro i c pre hi hp hok hc hv;refine dW ?_;rw[J4];refine fF (by omega) ?_;have hd:N.getD i 0<aZ:=jL hN (by decide) i;have hx:M.getD i 0<aZ:=jL hM (by decide) i;have hr:(leI (0:Int) (i:Int)&&dG (i:Int) (((bP .u64 N).length:Nat):Int))=true:=by simp;omega
   have hr3:(leI (0:Int) (i:Int)&&dG (i:Int) ((N.length+1:Nat):Int))=true:=by simp;omega
   have w1:IntKind.i64.wrap ((i:Int)+1)=((i+1:Nat):Int):=by rw[wrap_eq (by omega) (by omega)];omega
   have key:L tab (run tab X) 155 [] [.lp [1,1,1,1,0,1,0]] (oO (bP .u64 N) (bP .u64 M) 0 (N.length+1) (ni false (N.getD i 0) (M.getD i 0) c:Nat) N.length (i+1:Nat) ((bP .u64 (pre++List.replicate (N.length+1-i) 0)).set i (.int .u64 (lU false (N.getD i 0) (M.getD i 0) c:Nat))))=some ([.fresh false kU (bP .u64 (bK aZ (val aZ N+val aZ M)))],[]):=by rw[show N.length+1-i=(N.length-i)+1 by omega,← hp,lZ,set_mid,hp,SE,SG,show N.length-i=N.length+1-(i+1) by omega];refine ih (i+1) _ _ (by omega) (by simp[hp]) (jQ.2 ⟨hok,fun d hd=>by rw[List.mem_singleton.1 hd];exact Nat.mod_lt _ (by decide)⟩) (by show _ / 18446744073709551616≤1;have:N.getD i 0<18446744073709551616:=hd;have:M.getD i 0<18446744073709551616:=hx;omega) ?_;rw[lT,hp,qH,qH,show N.getD i 0+M.getD i 0+c=N.getD i 0+M.getD i 0+c from rfl];exact WX hv
   have hcc:(leI (0:Int) ((c:Nat):Int)&&leI ((c:Nat):Int) (1:Int))=true:=by simp;omega
   by_cases hl:(i:Int)<((bP .u64 M).length:Nat)
   · refine fF hl ?_;have hr2:(leI (0:Int) (i:Int)&&dG (i:Int) (((bP .u64 M).length:Nat):Int))=true:=by simp at hl ⊢;omega
     rw[hr2,hr,cond_true,cond_true];simp only[Int.toNat_natCast,gK,w1,Nat.zero_add];rw[hcc,ab8 (by simp) (by simp) rfl,hr3];exact key
   · refine dO hl ?_;have h0:M.getD i 0=0:=by rw[qLb,List.getElem?_eq_none (by simp at hl;omega)];rfl
     rw[h0]at key;rw[hr,cond_true];simp only[Int.toNat_natCast,gK,w1,Nat.zero_add];rw[hcc,ab8 (by simp) (by simp) rfl,hr3];exact key
theorem ap7 (N M:List Nat) (hN:ok aZ N) (hM:ok aZ M) (hn:N.length≤100000000) (hm:M.length≤100000000):run tab X 155 [.p (.list false kU (bP .u64 N)),.p (.list false kU (bP .u64 M))] []=some ([.fresh false kU (bP .u64 (bK aZ (val aZ N+val aZ M)))],[]) :=
 bF (hX _ rfl) (by
  have go:∀ N:List Nat,N.length≤100000000→(leI (0:Int) (((N.length+1:Nat):Int))&&(leI (((N.length+1:Nat):Int)) (((N.length+1:Nat):Int))&&leI (((N.length+1:Nat):Int)) (2147483648:Int)))=true:=by intro N h;simp;omega
  have w:∀ N:List Nat,N.length≤100000000→IntKind.i64.wrap (((N.length:Nat):Int)+(1:Int))=((N.length+1:Nat):Int):=by intro N h;rw[wrap_eq (by omega) (by omega)];omega
  rw[amA];simp only[dI];by_cases h:(N.length:Int)<M.length
  · refine fF h ?_;rw[w M hm,go M hm,cond_true,Int.toNat_natCast,l9,Nat.add_comm (val aZ N)];exact alB X hX M N hM hN hm (by omega) M.length 0 0 [] (by omega) rfl (wo _) (by omega) rfl
  · refine dO h ?_;rw[w N hn,go N hn,cond_true,Int.toNat_natCast,l9];exact alB X hX N M hN hM hn (by omega) N.length 0 0 [] (by omega) rfl (wo _) (by omega) rfl)
end
end Go.Skm.Fen
namespace Go.Skm.Fen
open Go Go.Skm Go.Skm.Dig
def KC (a b:Nat):Int:=if a<b then -1 else if b<a then 1 else 0
def cmpL (b:Nat) (N M:List Nat):Int:=if N.length=M.length then KC (val b N) (val b M) else(N.length:Int)-M.length
theorem rD {l:List Nat} {k:Nat} (h:k<l.length):l.drop k=l.getD k 0::l.drop (k+1):=by rw[List.drop_eq_getElem_cons h,qLb,qLd h];rfl
theorem IG (b:Nat) (l:List Nat) (k:Nat) (h:k<l.length):val b l=val b (l.take k)+b ^ k*(l.getD k 0+b*val b (l.drop (k+1))):=by
 conv=>lhs;rw[← List.take_append_drop k l]
 rw[val_append,List.length_take,Nat.min_eq_left (by omega),rD h];rfl
theorem OU {b:Nat} {N M:List Nat} {k:Nat} (hN:ok b N) (hn:k<N.length) (hm:k<M.length) (he:N.drop (k+1)=M.drop (k+1)) (hl:N.getD k 0<M.getD k 0):val b N<val b M:=by have h1:=rW (LD hN k);rw[List.length_take,Nat.min_eq_left (by omega)]at h1;rw[IG b N k hn,IG b M k hm,he];have h2:b ^ k*(N.getD k 0+b*val b (M.drop (k+1))+1)≤b ^ k*(M.getD k 0+b*val b (M.drop (k+1))):=Nat.mul_le_mul_left _ (by omega);rw[Nat.mul_add,Nat.mul_one]at h2;omega
theorem VE {a b:Nat} (h:a<b):KC a b=-1:=by rw[KC,if_pos h]
theorem VF {a b:Nat} (h:b<a):KC a b=1:=by rw[KC,if_neg (by omega),if_pos h]
theorem Uf (a:Nat):KC a a=0:=by rw[KC,if_neg (by omega),if_neg (by omega)]
theorem Qr {b:Nat} (hb:2≤b) {l:List Nat} (h1:ok b l) (h2:Dig.tight l) (h3:l≠[]):b ^ (l.length-1)≤val b l:=by have:=JM hb (OL hb h2 h3);rwa[O6 hb h1 h2]at this
theorem DK {b:Nat} (hb:2≤b) {N M:List Nat} (hN:ok b N) (hM:ok b M) (tM:Dig.tight M) (h:N.length<M.length):val b N<val b M:=by have h1:=rW hN;have h2:=Qr hb hM tM (by intro h0;rw[h0]at h;simp at h);exact Nat.lt_of_lt_of_le h1 (Nat.le_trans (Nat.pow_le_pow_right (by omega) (by omega)) h2)
theorem agx {b:Nat} (hb:2≤b) {N M:List Nat} (hN:ok b N) (hM:ok b M) (tN:Dig.tight N) (tM:Dig.tight M):cmpL b N M<0↔val b N<val b M:=by
 rw[cmpL];by_cases h:N.length=M.length
 · rw[if_pos h,KC];by_cases h1:val b N<val b M
   · rw[if_pos h1];simp[h1]
   · rw[if_neg h1];split<;>simp[h1]
 · rw[if_neg h];by_cases h2:N.length<M.length
   · have:=DK hb hN hM tM h2;omega
   · have:=DK hb hM hN tN (show M.length<N.length by omega);omega
section
variable (X:Ext) (hX:Mine X)
include hX
theorem aqi (N M : List Nat) (hN : ok aZ N) (hM : ok aZ M) (hn : N.length ≤ 100000000) (he : N.length = M.length) : ∀ k,k ≤ N.length → N.drop k = M.drop k →
    L tab (run tab X) 156 [] [.lp [1,1,0,1,0]] (Ej (bP .u64 N) (bP .u64 M) ((k:Int)-1))=some ([.p (.int .i64 (KC (val aZ N) (val aZ M)))],[]):=by
  have _:=hX;intro k;induction k with
  | zero =>intro _ hd;rw[List.drop_zero,List.drop_zero]at hd;subst hd;refine dW ?_;rw[PD,Uf];exact dO (by simp) rfl
  | succ k ih =>
   intro hk hd;refine dW ?_;rw[show ((k+1:Nat):Int)-1=(k:Int) by omega,PD];refine fF (by omega) ?_;have r1:(leI (0:Int) (k:Int)&&dG (k:Int) (((bP .u64 N).length:Nat):Int))=true:=by simp;omega
   have r2:(leI (0:Int) (k:Int)&&dG (k:Int) (((bP .u64 M).length:Nat):Int))=true:=by simp;omega
   have w1:IntKind.i64.wrap ((k:Int)-1)=(k:Int)-1:=wrap_eq (by omega) (by omega);rw[r1,r2];simp only[cond_true,Int.toNat_natCast,gK,w1];by_cases h1:N.getD k 0<M.getD k 0
   · rw[VE (OU hN (by omega) (by omega) hd h1)];exact fF (by omega) rfl
   · refine dO (by omega) ?_;by_cases h2:M.getD k 0<N.getD k 0
     · rw[VF (OU hM (by omega) (by omega) hd.symm h2)];exact fF (by omega) rfl
     · refine dO (by omega) ?_;exact ih (by omega) (by rw[rD (l:=N) (k:=k) (by omega),rD (l:=M) (k:=k) (by omega),hd,show N.getD k 0=M.getD k 0 by omega])
theorem c156 (N M:List Nat) (hN:ok aZ N) (hM:ok aZ M) (hn:N.length≤100000000) (hm:M.length≤100000000):run tab X 156 [.p (.list false kU (bP .u64 N)),.p (.list false kU (bP .u64 M))] []=some ([.p (.int .i64 (cmpL aZ N M))],[]) :=
 bF (hX _ rfl) (by
  rw[amB,cmpL];simp only[dI];by_cases h:N.length=M.length
  · rw[if_pos h,show (((N.length:Nat):Int) != ((M.length:Nat):Int))=false by simp[h],cond_false,wrap_eq (by omega) (by omega)];exact aqi X hX N M hN hM hn h N.length (by omega) (by rw[List.drop_eq_nil_of_le (by omega),List.drop_eq_nil_of_le (by omega)])
  · rw[if_neg h,show (((N.length:Nat):Int) != ((M.length:Nat):Int))=true by simp;omega,cond_true,wrap_eq (by omega) (by omega)])
theorem aqj (N M : List Nat) (hN : ok aZ N) (hM : ok aZ M) (hn : N.length ≤ 100000000) (hm : M.length ≤ N.length) (hle : val aZ M ≤ val aZ N) : ∀ (k i c : Nat) (pre : List Nat),i + k = N.length → pre.length = i → ok aZ pre → c ≤ 1 →
    val aZ pre+val aZ (M.take i)=val aZ (N.take i)+aZ ^ i*c →
    L tab (run tab X) 157 [] [.lp [1,1,1,0,1,0]] (uz (bP .u64 N) (bP .u64 M) 0 N.length c N.length i (bP .u64 (pre++List.replicate (N.length-i) 0)))=some ([.fresh false kU (bP .u64 (bK aZ (val aZ N-val aZ M)))],[]):=by
  intro k;induction k with
  | zero =>
   intro i c pre hi hp hok hc hv;have hin:i=N.length:=by omega
   subst hin;refine dW ?_;rw[NC];refine dO (by omega) ?_;rw[Nat.sub_self,List.replicate_zero,List.append_nil];rw[rE _ _ _ (Nat.le_refl _),rE _ _ _ hm]at hv;have h1:=rW hok;rw[hp]at h1;have hc0:c=0:=by
    rcases Nat.eq_zero_or_pos c with h | h
    · exact h
    · have:c=1:=by omega
      subst this;omega
   subst hc0;have hval:val aZ pre=val aZ N-val aZ M:=by omega
   rw[← hval];exact wY X hX _ (by omega) hok _ hp.symm
  | succ k ih =>
   intro i c pre hi hp hok hc hv;refine dW ?_;rw[NC];refine fF (by omega) ?_;have hd:N.getD i 0<aZ:=jL hN (by decide) i;have hx:M.getD i 0<aZ:=jL hM (by decide) i;have hr:(leI (0:Int) (i:Int)&&dG (i:Int) (((bP .u64 N).length:Nat):Int))=true:=by simp;omega
   have hr3:(leI (0:Int) (i:Int)&&dG (i:Int) ((N.length:Nat):Int))=true:=by simp;omega
   have w1:IntKind.i64.wrap ((i:Int)+1)=((i+1:Nat):Int):=by rw[wrap_eq (by omega) (by omega)];omega
   have key:L tab (run tab X) 157 [] [.lp [1,1,1,0,1,0]] (uz (bP .u64 N) (bP .u64 M) 0 N.length (ni true (N.getD i 0) (M.getD i 0) c:Nat) N.length (i+1:Nat) ((bP .u64 (pre++List.replicate (N.length-i) 0)).set i (.int .u64 (lU true (N.getD i 0) (M.getD i 0) c:Nat))))=some ([.fresh false kU (bP .u64 (bK aZ (val aZ N-val aZ M)))],[]):=by obtain⟨s1,s2,s3⟩:=agw hd hx hc;rw[show N.length-i=(N.length-(i+1))+1 by omega,← hp,lZ,set_mid,hp];refine ih (i+1) _ _ (by omega) (by simp[hp]) (jQ.2 ⟨hok,fun d hd=>by rw[List.mem_singleton.1 hd];exact s2⟩) s3 ?_;rw[lT,hp,qH,qH];exact WY hv s1
   have hcc:(leI (0:Int) ((c:Nat):Int)&&leI ((c:Nat):Int) (1:Int))=true:=by simp;omega
   by_cases hl:(i:Int)<((bP .u64 M).length:Nat)
   · refine fF hl ?_;have hr2:(leI (0:Int) (i:Int)&&dG (i:Int) (((bP .u64 M).length:Nat):Int))=true:=by simp at hl ⊢;omega
     rw[hr2,hr,cond_true,cond_true];simp only[Int.toNat_natCast,gK,w1,Nat.zero_add];rw[hcc,ab8 (by simp) (by simp) rfl,hr3];exact key
   · refine dO hl ?_;have h0:M.getD i 0=0:=by rw[qLb,List.getElem?_eq_none (by simp at hl;omega)];rfl
     rw[h0]at key;rw[hr,cond_true];simp only[Int.toNat_natCast,gK,w1,Nat.zero_add];rw[hcc,ab8 (by simp) (by simp) rfl,hr3];exact key
theorem c157 (N M:List Nat) (hN:ok aZ N) (hM:ok aZ M) (hn:N.length≤100000000) (hm:M.length≤N.length) (hle:val aZ M≤val aZ N):run tab X 157 [.p (.list false kU (bP .u64 N)),.p (.list false kU (bP .u64 M))] []=some ([.fresh false kU (bP .u64 (bK aZ (val aZ N-val aZ M)))],[]) :=
 bF (hX _ rfl) (by
  have go:(leI (0:Int) (((N.length:Nat):Int))&&(leI (((N.length:Nat):Int)) (((N.length:Nat):Int))&&leI (((N.length:Nat):Int)) (2147483648:Int)))=true:=by simp;omega
  rw[amC];simp only[dI];rw[go,cond_true,Int.toNat_natCast,l9];exact aqj X hX N M hN hM hn hm hle N.length 0 0 [] (by omega) rfl (wo _) (by omega) rfl)
end
end Go.Skm.Fen
namespace Go.Skm.Fen
open Go Go.Skm Go.Skm.Dig
theorem alC {x:Int} (h1:0≤x) (h2:x<18446744073709551616):IntKind.u64.wrap x=x:=by show x%2 ^ 64=x;exact Int.emod_eq_of_lt h1 (by simpa using h2)
theorem nJ {n:Nat} (h:n<aZ):IntKind.u64.wrap (n:Int)=(n:Int):=alC (by omega) (by have:n<18446744073709551616:=h;omega)
theorem alD (n:Nat):leI 0 (n:Int)=true:=decide_eq_true (Int.natCast_nonneg n)
theorem agY (a b:Nat):(leI 0 (a:Int)&&(leI 0 (b:Int)&&(leI 0 0&&leI 0 1)))=true:=ab8 (alD a) (alD b) rfl
theorem WS (b v:Nat):∀ (l:List Nat) (i:Nat),i<l.length→val b (l.set i v)+b ^ i*l.getD i 0=val b l+b ^ i*v
 | [],i,h=>by simp at h
 | d::r,0,_=>by show v+b*val b r+b ^ 0*d=d+b*val b r+b ^ 0*v;rw[Nat.pow_zero];omega
 | d::r,i+1,h=>by
  have ih:=WS b v r i (by simpa using h);show d+b*val b (r.set i v)+b ^ (i+1)*r.getD i 0=d+b*val b r+b ^ (i+1)*v;have e:b*(val b (r.set i v)+b ^ i*r.getD i 0)=b*(val b r+b ^ i*v):=by rw[ih]
  rw[Nat.mul_add,Nat.mul_add,← Nat.mul_assoc,← Nat.mul_assoc,← Nat.pow_succ',Nat.succ_eq_add_one]at e;omega
theorem ae9 {b v:Nat} {l:List Nat} (h:ok b l) (hv:v<b) (i:Nat):ok b (l.set i v):=fun d hd=>by
 rcases List.mem_or_eq_of_mem_set hd with h1 | h1
 · exact h d h1
 · rw[h1];exact hv
theorem afd {B x y o c : Nat} (hx : x < B) (hy : y < B) (ho : o < B) (hc : c < B) :
    ((x*y%B+o+0)%B+c+0)%B+B*(x*y / B+(x*y%B+o+0) / B+((x*y%B+o+0)%B+c+0) / B)=x*y+o+c ∧
    x*y / B+(x*y%B+o+0) / B+((x*y%B+o+0)%B+c+0) / B<B:=by
  have e1:=Nat.mod_add_div (x*y) B;have e2:=Nat.mod_add_div (x*y%B+o+0) B;have e3:=Nat.mod_add_div ((x*y%B+o+0)%B+c+0) B;have e:((x*y%B+o+0)%B+c+0)%B+B*(x*y / B+(x*y%B+o+0) / B+((x*y%B+o+0)%B+c+0) / B)=x*y+o+c:=by rw[Nat.mul_add,Nat.mul_add];omega
  refine⟨e,?_⟩;rcases Nat.lt_or_ge (x*y / B+(x*y%B+o+0) / B+((x*y%B+o+0)%B+c+0) / B) B with h | h
  · exact h
  · exfalso;have h1:B*B≤x*y+o+c:=by have:=Nat.mul_le_mul_left B h;omega
    have h2:x*y≤(B-1)*(B-1):=Nat.mul_le_mul (by omega) (by omega);obtain⟨k,rfl⟩:∃ k,B=k+1:=⟨B-1,by omega⟩;rw[Nat.add_sub_cancel]at h2;have:(k+1)*(k+1)=k*k+k+k+1:=by rw[Nat.mul_add,Nat.add_mul];omega
    omega
theorem afe {l:List Nat} {n i:Nat} (h:i<l.length):(l++List.replicate n 0).getD i 0=l.getD i 0:=by rw[qLb,List.getElem?_append_left h,← qLb]
theorem agy {l:List Nat} {n i v:Nat} (h:i<l.length):(l++List.replicate n 0).set i v=l.set i v++List.replicate n 0:=by rw[List.set_append,if_pos h]
section
variable (X:Ext) (hX:Mine X) (hB:Words X)
include hX hB
theorem alE (N M : List Nat) (hM : ok aZ M) (i n : Nat) (hi : i < n) (hs : n + M.length ≤ 100000000) (x : Nat) (hx : x < aZ) (nn : Int)
    (r:List AV × List cu):∀ (k j c:Nat) (pre:List Nat),j+k=M.length→pre.length=i+M.length→ok aZ pre→c<aZ →
    (∀ (c':Nat) (pre':List Nat),pre'.length=i+M.length→ok aZ pre'→c'<aZ→val aZ pre'+aZ ^ (i+M.length)*c'=val aZ pre+aZ ^ (i+j)*c+aZ ^ (i+j)*(x*val aZ (M.drop j)) →
      L tab (run tab X) 173 [] [.lp [1,1,0,1,0]] (Ae (bP .u64 M) 0 (n+M.length) (bP .u64 N) nn (i+1:Nat) (bP .u64 (pre'++[c']++List.replicate (n-i-1) 0)))=some r) →
    L tab (run tab X) 173 [] [.lp [1,1,0,1,0],.lp [1,1,0,0,1,1,0,1,0]] (mM (bP .u64 M) 0 (n+M.length) i x c (bP .u64 N) nn i (bP .u64 M) M.length j (bP .u64 (pre++List.replicate (n-i) 0)))=some r:=by
  have _:=hX;intro k;induction k with
  | zero =>
   intro j c pre hj hp hok hc K;have hjm:j=M.length:=by omega
   subst hjm;refine dW ?_;rw[xJ];refine dO (by omega) ?_;have w1:IntKind.i64.wrap ((i:Int)+1)=((i+1:Nat):Int):=by rw[wrap_eq (by omega) (by omega)];omega
   have w2:IntKind.i64.wrap ((i:Int)+((M.length:Nat):Int))=((i+M.length:Nat):Int):=by rw[wrap_eq (by omega) (by omega)];omega
   simp only[dI];rw[w2];have hr:(leI (0:Int) ((i+M.length:Nat):Int)&&dG ((i+M.length:Nat):Int) ((n+M.length:Nat):Int))=true:=by simp;omega
   rw[hr,cond_true,w1,Int.toNat_natCast,Nat.zero_add,show n-i=(n-i-1)+1 by omega,← hp,lZ,set_mid];exact K c pre hp hok hc (by rw[List.drop_length];simp[val])
  | succ k ih =>
   intro j c pre hj hp hok hc K;refine dW ?_;rw[xJ];refine fF (by omega) ?_;have hr:(leI (0:Int) (j:Int)&&dG (j:Int) (((bP .u64 M).length:Nat):Int))=true:=by simp;omega
   have hy:M.getD j 0<aZ:=jL hM (by decide) j;have ho:pre.getD (i+j) 0<aZ:=jL hok (by decide) _;have w1:IntKind.i64.wrap ((j:Int)+1)=((j+1:Nat):Int):=by rw[wrap_eq (by omega) (by omega)];omega
   have w2:IntKind.i64.wrap ((i:Int)+(j:Int))=((i+j:Nat):Int):=by rw[wrap_eq (by omega) (by omega)];omega
   rw[hr,cond_true];simp only[Int.toNat_natCast,gK,w1,w2,hB.mul x _ hx hy,Option.bind_some,List.headD_cons,List.tail_cons,dA,toInt_int,Nat.zero_add];have hr2:(leI (0:Int) ((i+j:Nat):Int)&&dG ((i+j:Nat):Int) ((n+M.length:Nat):Int))=true:=by simp;omega
   obtain⟨s1,s2⟩:=afd hx hy ho hc;have hlo:x*M.getD j 0%aZ<aZ:=Nat.mod_lt _ (by decide);rw[hr2,cond_true,afe (by omega),agY,cond_true,agY,cond_true,cond_true];simp only[Int.toNat_natCast,Int.toNat_zero,SE,SG];have t1:x*M.getD j 0 / aZ+(x*M.getD j 0%aZ+pre.getD (i+j) 0+0) / aZ<aZ:=Nat.lt_of_le_of_lt (Nat.le_add_right _ _) s2;rw[← Int.natCast_add,nJ t1,← Int.natCast_add,nJ s2,lZ,agy (by omega)];refine ih (j+1) _ _ (by omega) (by simpa using hp) (ae9 hok (Nat.mod_lt _ (by decide)) _) s2 ?_;intro c' pre' h1 h2 h3 h4;refine K c' pre' h1 h2 h3 ?_;rw[h4];have v1:=WS aZ (((x*M.getD j 0%aZ+pre.getD (i+j) 0+0)%aZ+c+0)%aZ) pre (i+j) (by omega);rw[rD (l:=M) (k:=j) (by omega)];have s1':aZ ^ (i+j)*(((x*M.getD j 0%aZ+pre.getD (i+j) 0+0)%aZ+c+0)%aZ+aZ*(x*M.getD j 0 / aZ+(x*M.getD j 0%aZ+pre.getD (i+j) 0+0) / aZ+((x*M.getD j 0%aZ+pre.getD (i+j) 0+0)%aZ+c+0) / aZ))=aZ ^ (i+j)*(x*M.getD j 0+pre.getD (i+j) 0+c):=by rw[s1]
   revert s1' v1;generalize ((x*M.getD j 0%aZ+pre.getD (i+j) 0+0)%aZ+c+0)%aZ=lo;generalize x*M.getD j 0 / aZ+(x*M.getD j 0%aZ+pre.getD (i+j) 0+0) / aZ+((x*M.getD j 0%aZ+pre.getD (i+j) 0+0)%aZ+c+0) / aZ=hi;intro v1 s1';show _=_+aZ ^ (i+j)*(x*(M.getD j 0+aZ*val aZ (M.drop (j+1))));rw[← Nat.add_assoc i j 1,Nat.pow_succ];generalize aZ ^ (i+j)=P at *;generalize aZ=B at *;grind
theorem aqk (N M : List Nat) (hN : ok aZ N) (hM : ok aZ M) (hn : N.length + M.length ≤ 100000000) : ∀ (k i : Nat) (pre : List Nat),i + k = N.length → pre.length = i + M.length → ok aZ pre →
    val aZ pre=val aZ (N.take i)*val aZ M →
    L tab (run tab X) 173 [] [.lp [1,1,0,1,0]] (Ae (bP .u64 M) 0 (N.length+M.length) (bP .u64 N) N.length i (bP .u64 (pre++List.replicate (N.length-i) 0)))=some ([.fresh false kU (bP .u64 (bK aZ (val aZ N*val aZ M)))],[]):=by
  intro k;induction k with
  | zero =>
   intro i pre hi hp hok hv;have hin:i=N.length:=by omega
   subst hin;refine dW ?_;rw[PE];refine dO (by omega) ?_;rw[Nat.sub_self,List.replicate_zero,List.append_nil];rw[rE _ _ _ (Nat.le_refl _)]at hv;rw[← hv];exact wY X hX _ (by omega) hok _ hp.symm
  | succ k ih =>
   intro i pre hi hp hok hv;refine dW ?_;rw[PE];refine fF (by omega) ?_;have hr:(leI (0:Int) (i:Int)&&dG (i:Int) (((bP .u64 N).length:Nat):Int))=true:=by simp;omega
   rw[hr,cond_true];simp only[Int.toNat_natCast,gK,dI];refine alE X hX hB N M hM i N.length (by omega) (by omega) _ (jL hN (by decide) i) _ _ M.length 0 0 pre (by omega) hp hok (by decide) ?_;intro c' pre' h1 h2 h3 h4;rw[show N.length-i-1=N.length-(i+1) by omega];refine ih (i+1) _ (by omega) (by simp[h1];omega) (jQ.2 ⟨h2,fun d hd=>by rw[List.mem_singleton.1 hd];exact h3⟩) ?_;rw[lT,h1,h4,hv,qH,Nat.mul_zero,Nat.add_zero,Nat.add_zero,List.drop_zero,Nat.add_mul,Nat.mul_assoc]
theorem c173 (N M:List Nat) (hN:ok aZ N) (hM:ok aZ M) (hn:N.length+M.length≤100000000):run tab X 173 [.p (.list false kU (bP .u64 N)),.p (.list false kU (bP .u64 M))] []=some ([.fresh false kU (bP .u64 (bK aZ (val aZ N*val aZ M)))],[]) :=
 bF (hX _ rfl) (by
  have w:IntKind.i64.wrap (((N.length:Nat):Int)+((M.length:Nat):Int))=((N.length+M.length:Nat):Int):=by rw[wrap_eq (by omega) (by omega)];omega
  have go:(leI (0:Int) (((N.length+M.length:Nat):Int))&&(leI (((N.length+M.length:Nat):Int)) (((N.length+M.length:Nat):Int))&&leI (((N.length+M.length:Nat):Int)) (2147483648:Int)))=true:=by simp;omega
  rw[amG];simp only[dI];rw[w,go,cond_true,Int.toNat_natCast,l9,Nat.add_comm N.length M.length,← List.replicate_append_replicate,Nat.add_comm M.length N.length];refine aqk X hX hB N M hN hM hn N.length 0 (List.replicate M.length 0) (by omega) (by simp) (Sz (by decide) _) ?_;rw[Hg];simp[val])
end
end Go.Skm.Fen
