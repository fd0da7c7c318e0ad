import Derived.Test.YtoheflpoanjihaaGreatJ7
import Derived.Test.YtoheflpoanjihaaGreatH1
import Derived.Test.YtoheflpoanjihaaGreatG19
import Derived.Test.YtoheflpoanjihaaGreatL5
import Derived.Test.YtoheflpoanjihaaGreatL6
set_option linter.all false
namespace Go.Skm.Fen
open Go Go.Skm
section
open Go.Skm.Dig
def okB(neg:Bool)(b:ByteArray):Bool:=if b.size=0 then !neg else decide ((b.data.getD 0 0).toNat≠0)
theorem Ug(b:ByteArray)(h:0<b.size->(b.data.getD 0 0).toNat≠0):∃ n,jS n=b/\(aS 256 n).length=b.size:=by
 obtain⟨⟨L⟩⟩:=b;have c:Dig.ok 256 (L.map UInt8.toNat).reverse:=by intro d hd;obtain⟨x,_,rfl⟩:=List.mem_map.1 (List.mem_reverse.1 hd);exact x.toNat_lt
 have a:Dig.tight (L.map UInt8.toNat).reverse:=by
  intro d hd;rw[List.getLast?_reverse]at hd;cases L with
  | nil=>simp at hd
  | cons x r =>simp at hd;have:=h (by show 0<(x::r).length;simp);rw[<- hd];simpa using this
 refine⟨val 256 (L.map UInt8.toNat).reverse,?_,?_⟩
 . unfold jS Ci;rw[wZ (by decide) c a,List.reverse_reverse,List.map_map];congr 2;rw[List.map_congr_left (g:=id) λx _=>by simp,List.map_id]
 . rw[wZ (by decide) c a];show _=L.length;simp
theorem IX{a:Bool}{b:ByteArray}(h:okB a b=true):∃ z,PV.agg [.bool a,.str b]=eW z/\(aS 256 z.natAbs).length=b.size:=by
 unfold okB at h;by_cases f:b.size=0
 . rw[if_pos f]at h;obtain⟨n,d,c⟩:=Ug b (by omega);refine⟨(n:Int),?_,by simpa using c⟩;cases a with
   | true=>cases h
   | false=>rw[eW,Int.natAbs_natCast,d,decide_eq_false (by omega)]
 . rw[if_neg f]at h;obtain⟨n,d,c⟩:=Ug b λ_=>of_decide_eq_true h;have g:0<n:=by
    rcases Nat.eq_zero_or_pos n with e | e
    . subst e;rw[cu]at c;exact absurd c.symm f
    . exact e
   cases a with
   | true=>exact⟨-(n:Int),by rw[eW,Int.natAbs_neg,Int.natAbs_natCast,d,decide_eq_true (by omega)],by simpa using c⟩
   | false=>exact⟨(n:Int),by rw[eW,Int.natAbs_natCast,d,decide_eq_false (by omega)],by simpa using c⟩
section
variable (X:Ext) (hX:Mine X)
include hX
theorem c58(a:Bool)(b:ByteArray)(e:b.size<=8192):run tab X 58 [.p (.agg [.bool a,.str b])] []=some ([.p (.bool (okB a b))],[]):=
 run_of (hX _ rfl) (by
  rw[e58];unfold okB;by_cases d:b.size=0
  . rw[if_pos d,d];rfl
  . rw[if_neg d,show(((b.size:Nat):Int)==0)=false from beq_eq_false_iff_ne.2 (by omega),qCf,show leI ((b.size:Nat):Int) 8192=true from decide_eq_true (by omega),qCt,show ltI 0 ((b.size:Nat):Int)=true from decide_eq_true (by omega),qCt];congr 5;by_cases c:(b.data.getD 0 0).toNat=0
    . rw[c];rfl
    . rw[decide_eq_true c];exact bne_iff_ne.2 (by omega))
theorem Uh(a:Bool)(b:ByteArray)(f:b.size<=8192):run tab X 110 [.p (.agg [.bool a,.str b])] []=some ([.p (.bool (okB a b))],[]):=
 run_of (hX _ rfl) (by
  rw[e110,ba_beq];unfold okB;by_cases d:b.size=0
  . have:b=⟨#[]⟩:=by obtain⟨⟨L⟩⟩:=b;have:L=[]:=List.eq_nil_of_length_eq_zero d;subst this;rfl
    rw[if_pos d,decide_eq_true this];rfl
  . have:¬ b=⟨#[]⟩:=λe=>d (by rw[e];rfl);rw[if_neg d,decide_eq_false this,qCf,show ltI 0 ((b.size:Nat):Int)=true from decide_eq_true (by omega),qCt];by_cases c:(b.data.getD 0 0).toNat=0
    . rw[c];rfl
    . rw[decide_eq_true c,show(((b.data.getD 0 0).toNat:Int) != 0)=true from bne_iff_ne.2 (by omega),qCt,show leI ((b.size:Nat):Int) 8192=true from decide_eq_true (by omega)])
end
end
section
open Go.Skm.Dig
theorem Ui(x:Nat)(a:x<256):trim [x]=aS B9 x:=kL b9 (λd hd=>by rw[List.mem_singleton.1 hd];exact Nat.lt_trans a (by decide)) (val_one _ _)
section
variable (X:Ext) (hX:Mine X)
include hX
theorem l69(a:Bool)(n m:Nat)(j:(aS 256 n).length=m)(t:m<=8192):∀(k i:Nat),i+k=m ->
    L tab (run tab X) 69 [] [.lp [1,1,0,1,0]] (yx 0 (aS B9 (n / 256^k)).length (i:Int) a (jS n) false (nI (n / 256^k)))=some ([.p (eI (if a then -(n:Int)else n))],[]):=by
  have e:(jS n).size=m:=by rw[tV,j]
  have u:n<256^m:=by rw[<- j];exact jV (by decide)
  have b:∀ x,x<=n->(aS B9 x).length<=8192:=λx h=>Nat.le_trans (ji b9 (Nat.lt_of_le_of_lt h (Nat.lt_of_lt_of_le u (Nat.pow_le_pow_left (by decide) m)))) t
  intro k;induction k with
  | zero =>intro i v;refine L_of ?_;rw[GK,e,y8 (by omega),qCf,Nat.pow_zero,Nat.div_one];have:=c131 X hX a n;rw[show nI n=aY .i64 (aS B9 n) from rfl,FP];show(run tab X 131 [.p (.bool a),.p (.list false kI (nI n))] []).bind _=_;rw[this];rfl
  | succ k s =>
   intro i v;have w:((jS n).data.getD i 0).toNat=n / 256^k%256:=by rw[FQ n i (by omega),j,show m-1-i=k by omega]
   have f:n / 256^k%256<256:=qNm _ (by decide);have h:n / 256^(k+1)*256+n / 256^k%256=n / 256^k:=by rw[Nat.pow_succ,<- Nat.div_div_eq_div_mul];omega
   have q:run tab X 129 [.p (.list false kI (nI (n / 256^(k+1)))),.p (.int .i64 256)] []=some ([.fresh false kI (nI (n / 256^(k+1)*256))],[]):=U1 X hX (n / 256^(k+1)) 256 (by decide) (Nat.le_trans (b _ (Nat.div_le_self _ _)) (by decide));have o:=c130 X hX [n / 256^k%256] (by simp) 0 1 (by simp);have l:=Xi X hX (n / 256^(k+1)*256) (n / 256^k%256) (Nat.le_trans (b _ (by have:=Nat.div_le_self n (256^k);omega)) (by decide)) (Nat.le_trans (b _ (by have:=Nat.div_le_self n (256^k);omega)) (by decide));rw[h]at l;have g:run tab X 130 [.slice 100000 1 0 1] [.arr false kI [.int .i64 ((n / 256^k%256:Nat):Int)]]=some ([.slice 100000 1 0 (aS B9 (n / 256^k%256)).length],[.arr false kI (aY .i64 [n / 256^k%256])]):=by rw[<- Ui _ f];exact o
   have r:=s (i+1) (by omega);have y:((aY .i64 [n / 256^k%256]).drop 0).take (aS B9 (n / 256^k%256)).length=aY .i64 (aS B9 (n / 256^k%256)):=by
    rw[<- Ui _ f,qLy];by_cases c:n / 256^k%256=0
    . rw[c];rfl
    . rw[qc λd hd=>by
        have:n / 256^k%256=d:=by simpa using hd
        omega];rfl
   refine L_of ?_;rw[GK,e,rM (by omega),qCt,show nI (n / 256^(k+1))=aY .i64 (aS B9 (n / 256^(k+1))) from rfl,FP];show(run tab X 129 [.p (.list false kI (nI (n / 256^(k+1)))),.p (.int .i64 256)] []).bind _=_;rw[q,qOb];simp only[le0,qBs,qCt,qIt,w];rw[wrap_eq (x:=((n / 256^k%256:Nat):Int)) (by omega) (by omega),dZ (by omega)];show(run tab X 130 [.slice 100000 1 0 1] [.arr false kI [.int .i64 ((n / 256^k%256:Nat):Int)]]).bind _=_;rw[g,qOb];simp only[qLh,AV.freshList,AV.sOff,AV.sLen,Blk.xs];rw[y,qLy,List.take_length];show(run tab X 128 [.p (.list false kI (aY .i64 (aS B9 (n / 256^(k+1)*256)))),.p (.list false kI (aY .i64 (aS B9 (n / 256^k%256))))] []).bind _=_;rw[l,qOb];simp only[qLh,AV.freshList,bF];exact r
theorem c69(z:Int)(b:(aS 256 z.natAbs).length<=8192):run tab X 69 [.p (eW z)] []=some ([.p (eI z)],[]):=
 run_of (hX _ rfl) (by
  have k:=l69 X hX (decide (z<0)) z.natAbs _ rfl b _ 0 (qNz _);have e:z.natAbs / 256^(aS 256 z.natAbs).length=0:=Nat.div_eq_of_lt (jV (by decide));rw[e]at k;rw[eW,e69];have d:(if decide (z<0)=true then -(z.natAbs:Int)else z.natAbs)=z:=by
   by_cases c:z<0
   . rw[decide_eq_true c,if_pos rfl];omega
   . rw[decide_eq_false c,if_neg Bool.false_ne_true];omega
  rw[d]at k;have a:aS B9 0=[]:=cu _;have e4:nI 0=[]:=by show aY .i64 (aS B9 0)=[];rw[a];rfl
  rw[a,e4]at k;exact k)
theorem c26(n d:Int)(c:(aS 256 n.natAbs).length<=8192)(hd:(aS 256 d.natAbs).length<=8192):run tab X 26 [.p (eR n d)] []=some ([.p (eQ n d)],[]):=
 run_of (hX _ rfl) (by have b:=c69 X hX n c;have a:=c69 X hX d hd;rw[eW]at b a;rw[eR,e26,b,qOb,a];rfl)
end
end
section
open Go.Skm.Dig
structure Rw where
 s:Bool
 a:ByteArray
 t:Bool
 b:ByteArray
def pz(r:Rw):PV:=.agg [.bool r.s,.str r.a,.bool r.t,.str r.b]
def Rw.fit(r:Rw):Prop:=r.a.size<=8192/\r.b.size<=8192
def okV(r:Rw):Bool:=okB r.s r.a&&(okB r.t r.b&&(!r.t&&decide (0<r.b.size)))
theorem pXq{a m:Nat}(h:a<=m):256^a<=2^(8*m):=by rw[Nat.pow_mul];exact Nat.pow_le_pow_right (by decide) h
theorem CO{z:Int}(h:(aS 256 z.natAbs).length<=8192):okW z:=by refine wR (Nat.lt_of_lt_of_le (jV (b:=256) (by decide)) ?_);rw[show 65536=8*8192 from rfl];have q:=pXq (m:=8192) h;exact q
theorem FT{r:Rw}(i:r.fit)(h:okV r=true):∃ n d,pz r=eR n d/\okR n d/\(aS 256 n.natAbs).length<=r.a.size/\(aS 256 d.natAbs).length<=r.b.size:=by
 unfold okV at h;simp only[qBa,qBb,qDa]at h;obtain⟨m,l,k,h4⟩:=h;obtain⟨n,p,q⟩:=IX m;obtain⟨d,o,g⟩:=IX l;have j:r.s=decide (n<0)/\r.a=jS n.natAbs:=by
  injection p with e;injection e with e3 e4;injection e3 with e3;injection e4 with e4;injection e4 with e4
  exact⟨e3,e4⟩
 have f:r.t=decide (d<0)/\r.b=jS d.natAbs:=by
  injection o with e;injection e with e3 e4;injection e3 with e3;injection e4 with e4;injection e4 with e4
  exact⟨e3,e4⟩
 refine⟨n,d,by rw[pz,eR,j.1,j.2,f.1,f.2],⟨CO (by have:=i.1;omega),CO (by have:=i.2;omega),?_⟩,by omega,by omega⟩;have h5:=of_decide_eq_false (f.1.symm.trans k);rcases Int.lt_or_eq_of_le (show 0<=d by omega)with c | c
 . exact c
 . rw[<- c,Int.natAbs_zero,cu]at g;exact absurd g.symm (by show r.b.size≠0;omega)
theorem QF(z:Int):gtI z.sign 0=decide (0<z):=by
 rcases Int.lt_trichotomy z 0 with h | h | h
 . rw[Int.sign_eq_neg_one_of_neg h,decide_eq_false (by omega)];rfl
 . subst h;rfl
 . rw[Int.sign_eq_one_of_pos h,decide_eq_true (by omega)];rfl
section
variable (X:Ext) (hX:Mine X)
include hX
theorem c23(r:Rw)(c:r.fit):run tab X 23 [.p (pz r)] []=some ([.p (.bool (okV r))],[]):=
 run_of (hX _ rfl) (by
  rw[pz,e23,c58 X hX r.s r.a c.1,qOb];unfold okV;simp only[qLh,pv_p,toBool_bool];cases okB r.s r.a with
  | false=>rfl
  | true =>
   rw[qCt,c58 X hX r.t r.b c.2,qOb];simp only[qLh,pv_p,toBool_bool];cases okB r.t r.b with
   | false=>rfl
   | true =>
    cases r.t with
    | true=>rfl
    | false =>show some ([AV.p (.bool (decide ((0:Int)<(r.b.size:Int))))],([]:List Blk))=_;rw[show decide ((0:Int)<(r.b.size:Int))=decide (0<r.b.size) from decide_eq_decide.2 (by omega)];rfl)
theorem abz(r:Rw)(f:r.fit):run tab X 59 [.p (pz r)] []=some ([.p (.bool (okV r))],[]):=by
 by_cases h:okV r=true
 . obtain⟨n,d,e,l,_⟩:=FT f h;rw[e,c59 X hX,decide_eq_true l,h]
 . refine run_of (hX _ rfl) ?_;have i:run tab X 108 [.p (.agg [.bool r.s,.str r.a]),.p (.agg [.bool r.t,.str r.b])] []=some ([.p (.bool (okB r.s r.a&&okB r.t r.b))],[]):=run_of (hX _ rfl) (by
    rw[e108,Uh X hX r.s r.a f.1,qOb];simp only[qLh,pv_p,toBool_bool];cases okB r.s r.a with
    | false=>rfl
    | true=>rw[qCt,Uh X hX r.t r.b f.2];rfl)
   rw[pz,e59,i,qOb];simp only[qLh,pv_p,toBool_bool];have c:okV r=false:=Bool.eq_false_iff.2 h;have g:=c;unfold okV at g;rw[c];cases m:okB r.s r.a with
   | false=>rfl
   | true =>
    cases j:okB r.t r.b with
    | false=>rfl
    | true =>
     obtain⟨d,k,q⟩:=IX j;rw[qBs,qCt,k,c109 X hX d (CO (by have:=f.2;omega)),qOb];rw[m,j,Bool.true_and,Bool.true_and]at g;have o:r.t=decide (d<0):=by injection k with e;injection e with e3 e4;injection e3 with e3
     have hd:¬ 0<d:=λhp=>by
      rw[o,decide_eq_false (by omega),qBf,Bool.true_and]at g;have u:=of_decide_eq_false g;have:(aS 256 d.natAbs).length=0:=by omega
      have:=(jA (b:=256) (by decide)).1 (List.eq_nil_of_length_eq_zero this);omega
     simp only[qLh,pv_p,toInt_int,QF];rw[decide_eq_false hd]
end
end
section
open Go.Skm.Dig
abbrev U2(f:Fen)(x y z:Rw)(full:Bool)(i:Int):St:=rZ full 0 3 3 i (encL f.outer) (bI f.holes) f.low f.high x.s x.a x.t x.b y.s y.a y.t y.b z.s z.a z.t z.b [pz x,pz y,pz z]
section
variable (X:Ext) (hX:Mine X) (hB:Bits X)
include hX hB
theorem U3(f:Fen)(x y z:Rw)(a:Bool)(i:Nat)(g:i<3)(r:Rw)(m:[pz x,pz y,pz z].getD i .nil=pz r)(j:r.fit)(v:List AV)
    (h:if okV r then ∀ full',L tab (run tab X) 24 [] UK (U2 f x y z full' ((i+1:Nat):Int))=some (v,[])else v=zf (false,2)):L tab (run tab X) 24 [] UK (U2 f x y z a (i:Int))=some (v,[]):=by
  have l:(leI (0:Int) ((i:Nat):Int)&&ltI ((i:Nat):Int) (((3:Nat)):Int))=true:=rng g;have k:ltI ((i:Nat):Int) (3:Int)=true:=rM g;have o:=abz X hX r j;refine L_of ?_;rw[yE,k,qCt,l,qCt];simp only[qIt,qNz,m,dZ (show i<=9000000000000000000 by omega)];show(run tab X 59 [.p (pz r)] []).bind _=_;rw[o,qOb];simp only[qLh,pv_p,toBool_bool];cases b:okV r with
  | false =>rw[b,if_neg Bool.false_ne_true]at h;rw[qBf,qCt,h];rfl
  | true =>
   rw[b,if_pos rfl]at h;rw[qBt,qCf];cases a with
   | true=>rw[qCt];exact h true
   | false =>obtain⟨n,d,e,c,_⟩:=FT j b;rw[qCf,e];show(run tab X 60 [.p (eW n)] []).bind _=_;rw[c60 X hX hB n c.1,qOb];show(run tab X 60 [.p (eW d)] []).bind _=_;rw[c60 X hX hB d c.2.1,qOb];exact h _
theorem abB(f:Fen)(x y z:Rw)(d:x.fit)(c:y.fit)(b:z.fit)(h:(okV x&&(okV y&&okV z))=false):run tab X 24 [.p (encF f),.p (pz x),.p (pz y),.p (pz z)] []=some (zf (false,2),[]):=
 run_of (hX _ rfl) (by
  rw[encF,pz,pz,pz,e24];show L tab (run tab X) 24 [] UK (U2 f x y z false ((0:Nat):Int))=_;refine U3 X hX hB f x y z false 0 (by omega) x rfl d _ ?_;cases g:okV x with
  | false=>rw[if_neg Bool.false_ne_true]
  | true =>
   rw[if_pos rfl];intro a;refine U3 X hX hB f x y z a 1 (by omega) y rfl c _ ?_;cases e:okV y with
   | false=>rw[if_neg Bool.false_ne_true]
   | true =>rw[if_pos rfl];intro a;refine U3 X hX hB f x y z a 2 (by omega) z rfl b _ ?_;rw[g,e,Bool.true_and,Bool.true_and]at h;rw[h,if_neg Bool.false_ne_true])
end
end
section
open Go.Skm.Dig
theorem Bj{x:Int}(h:x<0):iC x=-1:=by unfold iC;rw[if_pos h]
theorem NK{u v w:Int}:∀{es:List kX},(∀ e∈es,e.1.y*w<v/\e.2.y*w<v)->es.any (Gj u v w)=false/\AA u v w es=0
 |[],_=>⟨rfl,rfl⟩
 | e::r,h=>by
  obtain⟨i,g⟩:=NK (u:=u) (es:=r) λx c=>h x (List.mem_cons_of_mem _ c);obtain⟨a,b⟩:=h e (List.mem_cons_self ..);have d:Gj u v w e=false:=by unfold Gj;rw[Bj (x:=e.1.y*w-v) (by omega),Bj (x:=e.2.y*w-v) (by omega)];simp
  have f:Gt u v w e=0:=by unfold Gt;rw[Bj (x:=e.1.y*w-v) (by omega),Bj (x:=e.2.y*w-v) (by omega)];simp
  refine⟨by rw[List.any_cons,d,i];rfl,?_⟩;show Gt u v w e+AA u v w r=0;rw[f,g];rfl
theorem Tc{l:List V3}{u v w:Int}(d:0<w)(h:l.all (inM 1048576)=true)(f:1048576*w<v):wW l u v w=-1:=by
 rw[<- Iw d];have k:=NK (u:=u) (v:=v) (w:=w) (es:=dL l) λe g=>by obtain⟨⟨_,⟨_,a⟩,_⟩,⟨_,⟨_,b⟩,_⟩⟩:=vC h _ e g;have m:∀{x:Int},x<=1048576->x*w<v:=λc=>Int.lt_of_le_of_lt (Int.mul_le_mul_of_nonneg_right c (by omega)) f;exact⟨m a,m b⟩
 unfold Vw;rw[k.1,k.2];rfl
end
section
open Go.Skm.Dig
theorem QG(m s:Nat)(a:s<8):aS 256 (2^s*256^m)=List.replicate m 0++[2^s]:=by
 have b:2^s<256:=Nat.pow_lt_pow_right (by decide) (show s<8 from a);have hp:0<2^s:=Nat.pow_pos (by decide);refine(DZ (by decide) ?_ ?_ ?_).symm
 . refine gU.2 ⟨λd hd=>?_,λd hd=>?_⟩
   . rw[(List.mem_replicate.1 hd).2];decide
   . rw[List.mem_singleton.1 hd];exact b
 . intro d hd;rw[List.getLast?_concat]at hd;have:=Option.some.inj hd;omega
 . rw[iI,rW,List.length_replicate,qNz,Nat.mul_comm]
theorem OW(m s:Nat)(a:s<8):bytesOf (PV.int .u8 ((2^s:Nat):Int)::List.replicate m (.int .u8 0))=jS (2^s*256^m):=by
 have e:(PV.int .u8 ((2^s:Nat):Int)::List.replicate m (.int .u8 0))=aY .u8 (2^s::List.replicate m 0):=by unfold aY;rw[List.map_cons,List.map_replicate];rfl
 rw[e,wK];unfold jS Ci;rw[QG m s a,List.reverse_append,List.reverse_replicate];rfl
theorem U4(m s:Nat):bl (2^s*256^m)=8*m+s+1:=by
 have e:2^s*256^m=2^(8*m+s):=by rw[show 256=2^8 from rfl,<- Nat.pow_mul,<- Nat.pow_add,Nat.add_comm]
 rw[e];refine Nat.le_antisymm (wR (Nat.pow_lt_pow_right (by decide) (by omega))) ?_;have h:=xJ (2^(8*m+s));have:=(Nat.pow_lt_pow_iff_right (a:=2) (by decide)).1 h;omega
end
section
open Go.Skm.Dig
abbrev w6:List Wy:=[.lp [1,1,1,0,1,0]]
abbrev Xj(f:Fen)(x y z:Rw)(bits:Int)(ok:Bool)(i:Int):St:=vk bits ok 0 3 3 i (encL f.outer) (bI f.holes) f.low f.high x.s x.a x.t x.b y.s y.a y.t y.b z.s z.a z.t z.b [pz x,pz y,pz z]
abbrev Xk:Option (List AV × List Blk):=some ([.p (.bool true)],[])
section
variable (X:Ext) (hX:Mine X)
include hX
variable (hB:Bits X) (hE:zl X) (hS:Sorts X)
include hB hE hS
theorem r6w(f:Fen)(x y z:Rw)(c:Int)(ok:Bool)(i:Nat)(g:i<3)(r:Rw)(l:[pz x,pz y,pz z].getD i .nil=pz r)
    (h:r.a.size<=8->r.b.size<=8->L tab (run tab X) 6 [] w6 (Xj f x y z c (ok&&okV r) ((i+1:Nat):Int))=Xk):L tab (run tab X) 6 [] w6 (Xj f x y z c ok (i:Int))=Xk:=by
  have e:=c11 X hX hB hE hS;have k:(leI (0:Int) ((i:Nat):Int)&&ltI ((i:Nat):Int) (((3:Nat)):Int))=true:=rng g;have j:ltI ((i:Nat):Int) (3:Int)=true:=rM g;refine L_of ?_;rw[yI,j,qCt,k,qCt];simp only[qIt,qNz,l,dZ (show i<=9000000000000000000 by omega)];show(bif gtI ((r.a.size:Nat):Int) 8 then _ else(bif gtI ((r.b.size:Nat):Int) 8 then _ else _))=_;by_cases c1:8<r.a.size
  . rw[show gtI ((r.a.size:Nat):Int) 8=true from decide_eq_true (by omega),qCt,e];rfl
  . rw[show gtI ((r.a.size:Nat):Int) 8=false from decide_eq_false (by omega),qCf];by_cases c2:8<r.b.size
    . rw[show gtI ((r.b.size:Nat):Int) 8=true from decide_eq_true (by omega),qCt,e];rfl
    . have d:=h (by omega) (by omega);rw[show gtI ((r.b.size:Nat):Int) 8=false from decide_eq_false (by omega),qCf];cases ok with
      | false=>rw[qCf];exact d
      | true =>rw[qCt];show(run tab X 23 [.p (pz r)] []).bind _=_;rw[c23 X hX r ⟨by omega,by omega⟩,qOb];exact d
theorem n6w(f:Fen)(x y z:Rw)(a:Int)(d:x.fit)(c:y.fit)(b:z.fit)(h:(okV x&&(okV y&&okV z))=false):L tab (run tab X) 6 [] w6 (Xj f x y z a false ((3:Nat):Int))=Xk:=by have e:=c11 X hX hB hE hS;have q:=abB X hX hB f x y z d c b h;rw[encF]at q;refine L_of ?_;rw[yI,show ltI ((3:Nat):Int) 3=false from rfl,qCf];show(run tab X 24 [_,.p (pz x),.p (pz y),.p (pz z)] []).bind _=_;rw[q,qOb];show(run tab X 11 [] []).bind _=_;rw[e];rfl
theorem m6w(f:Fen)(h:nO f)(k:validP f=false)(x y z:Rw)(i:Int){a b c d e g:Int}(n:pz x=eR a b)(m:pz y=eR c d)(l:pz z=eR e g):L tab (run tab X) 6 [] w6 (Xj f x y z i true ((3:Nat):Int))=Xk:=by
 have o:=c11 X hX hB hE hS;have q:=c24 X hX hB f h ⟨a,b⟩ ⟨c,d⟩ ⟨e,g⟩;have j:=c17 X hX f h;rw[vG,k]at j;have r:RI f ⟨a,b⟩ ⟨c,d⟩ ⟨e,g⟩=(false,2):=by unfold RI;rw[k];split<;>rfl
 rw[r]at q;rw[encF]at q j;refine L_of ?_;rw[yI,show ltI ((3:Nat):Int) 3=false from rfl,qCf];show(run tab X 24 [_,.p (pz x),.p (pz y),.p (pz z)] []).bind _=_;rw[n,m,l];rw[show run tab X 24 [_,.p (eR a b),.p (eR c d),.p (eR e g)] []=_ from q,qOb];show(run tab X 17 _ []).bind _=_;rw[j,qOb];show(run tab X 11 [] []).bind _=_;rw[o];rfl
end
end
section
open Go.Skm.Dig
variable {a b c d e g z:Int}
theorem CP{k:Nat}(h:(aS 256 z.natAbs).length<=k)(f:k<=8):z.natAbs<18446744073709551616:=
 Nat.lt_of_lt_of_le (jV (b:=256) (by decide)) (Nat.le_trans (Nat.pow_le_pow_right (by decide) (Nat.le_trans h f)) (by decide))
theorem Bo(h:z.natAbs<18446744073709551616):iQ z 3:=rQ (by show _<1000000000^3;omega)
theorem Kq{n:Nat}(h:n<18446744073709551616):bl n<=64:=wR (by show n<2^64;omega)
theorem QI(h:a.natAbs<18446744073709551616)(f:b.natAbs<18446744073709551616)(i:0<b):Jg (eQ a b) (a*c) (b*c) 3:=
 ⟨a,b,rfl,i,by grind,Bo h,Bo f⟩
section
variable (X:Ext) (hX:Mine X)
include hX
variable (hB:Bits X) (hE:zl X) (hS:Sorts X)
include hB hE hS
theorem Kr(f:Fen)(r:validP f=true)(m:a.natAbs<18446744073709551616)(k:b.natAbs<18446744073709551616)(s:bl c.natAbs<=65536)(hd:d.natAbs<18446744073709551616)(j:e.natAbs<18446744073709551616)(i:g.natAbs<18446744073709551616)(b0:0<b)(y:0<d)(x:0<g) :
    RI f ⟨a,b⟩ ⟨c,d⟩ ⟨e,g⟩=if 8192<bl c.natAbs then(false,7)else(Dp f ⟨a,b⟩ ⟨c,d⟩ ⟨e,g⟩,0):=by
  have _:=hX;have _:=hB;have _:=hE;have _:=hS;have l:∀{n:Nat},n<18446744073709551616->bl n<=64:=Kq;have t:(64:Nat)<=65536:=by decide
  have q:Rt.ok ⟨a,b⟩:=⟨Nat.le_trans (l m) t,Nat.le_trans (l k) t,b0⟩;have p:Rt.ok ⟨c,d⟩:=⟨s,Nat.le_trans (l hd) t,y⟩;have o:Rt.ok ⟨e,g⟩:=⟨Nat.le_trans (l j) t,Nat.le_trans (l i) t,x⟩;have w:oC ⟨a,b⟩=false:=decide_eq_false (show ¬(8192<bl a.natAbs\/8192<bl b.natAbs) by have:=l m;have:=l k;omega);have u:oC ⟨e,g⟩=false:=decide_eq_false (show ¬(8192<bl e.natAbs\/8192<bl g.natAbs) by have:=l j;have:=l i;omega);have v:oC ⟨c,d⟩=decide (8192<bl c.natAbs):=decide_eq_decide.2 (show(8192<bl c.natAbs\/8192<bl d.natAbs)↔8192<bl c.natAbs by have:=l hd;omega);unfold RI;rw[if_pos ⟨q,p,o⟩,r,if_pos rfl,w,v,u,Bool.false_or,Bool.or_false];by_cases h:8192<bl c.natAbs
  . rw[if_pos h,decide_eq_true h,if_pos rfl]
  . rw[if_neg h,decide_eq_false h,if_neg Bool.false_ne_true]
theorem v6w(f:Fen)(i:nO f)(l:validP f=true)(x y z:Rw)(bits:Int)(F:pz x=eR a b)(P:pz y=eR c d)(E:pz z=eR e g)
    (A:a.natAbs<18446744073709551616)(w:b.natAbs<18446744073709551616)(G:c.natAbs<18446744073709551616)(hd:d.natAbs<18446744073709551616)(v:e.natAbs<18446744073709551616)(u:g.natAbs<18446744073709551616)(b0:0<b)(M:0<d)(B:0<g) :
    L tab (run tab X) 6 [] w6 (Xj f x y z bits true ((3:Nat):Int))=Xk:=by
  have r:=c11 X hX hB hE hS;have Y:=Kq G;have q:=c24 X hX hB f i ⟨a,b⟩ ⟨c,d⟩ ⟨e,g⟩;rw[Kr X hX hB hE hS f l A w (by omega) hd v u b0 M B,if_neg (by omega)]at q;have O:=c17 X hX f i;rw[vG,l]at O;have j:∀{z:Int},z.natAbs<18446744073709551616->(aS 256 z.natAbs).length<=8192:=λh=>Nat.le_trans (ji (k:=8) (by decide) h) (by decide);have U:=c26 X hX a b (j A) (j w);have T:=c26 X hX c d (j G) (j hd);have S:=c26 X hX e g (j v) (j u);have V:Uf a b c d (a*d) (c*b) (b*d) 3:=⟨QI A w b0,by rw[Int.mul_comm b d];exact QI G hd M⟩;have C:=c25 X hX f l V (Int.mul_pos b0 M) ⟨e,g,rfl,B,rfl,Bo v,Bo u⟩ B (by decide) (by decide);have J:((decide (f.low*g<=e)&&decide (e<=f.high*g))&&Lh f (a*d) (c*b) (b*d))=Dp f ⟨a,b⟩ ⟨c,d⟩ ⟨e,g⟩:=rfl;rw[J]at C;rw[encF]at q O C;refine L_of ?_;rw[yI,show ltI ((3:Nat):Int) 3=false from rfl,qCf];show(run tab X 24 [_,.p (pz x),.p (pz y),.p (pz z)] []).bind _=_;rw[F,P,E,show run tab X 24 [_,.p (eR a b),.p (eR c d),.p (eR e g)] []=_ from q,qOb];show(run tab X 17 _ []).bind _=_;rw[O,qOb];show(run tab X 26 [.p (pz x)] []).bind _=_;rw[F,U,qOb];show(run tab X 26 [.p (pz y)] []).bind _=_;rw[P,T,qOb];show(run tab X 26 [.p (pz z)] []).bind _=_;rw[E,S,qOb];show(run tab X 25 [_,.p (Gl a b c d),.p (eQ e g)] []).bind _=_;rw[C,qOb];simp only[qLh,List.tail_cons,zf,pv_p,toBool_bool,toInt_int,beq_self_eq_true,qBt,qCf,bne_self_eq_false];by_cases c1:bits<8000
  . rw[show ltI bits 8000=true from decide_eq_true c1,qCt,r];rfl
  . rw[show ltI bits 8000=false from decide_eq_false c1,qCf];by_cases c2:8300<bits
    . rw[show gtI bits 8300=true from decide_eq_true c2,qCt,r];rfl
    . rw[show gtI bits 8300=false from decide_eq_false c2,qCf];obtain⟨m,s,Q,I⟩:∃ m s:Nat,s<8/\bits=((8*m+s+1:Nat):Int):=⟨(bits.toNat-1) / 8,(bits.toNat-1)%8,qNm _ (by decide),by omega⟩;subst I;have W:900<=m/\m<=1100:=by omega
      have e1:IntKind.i64.wrap ((IntKind.i64.wrap (((8*m+s+1:Nat):Int)+7)).tdiv 8)=((m+1:Nat):Int):=by rw[wrap_eq (x:=((8*m+s+1:Nat):Int)+7) (by omega) (by omega),Int.tdiv_eq_ediv_of_nonneg (by omega),wrap_eq (by omega) (by omega)];omega
      have e2:(IntKind.i64.wrap (((8*m+s+1:Nat):Int)-1)).tmod 8=(s:Int):=by rw[wrap_eq (by omega) (by omega),Int.tmod_eq_emod_of_nonneg (by omega)];omega
      simp only[e1,e2,qIt,le0,show leI ((m+1:Nat):Int) ((m+1:Nat):Int)=true from decide_eq_true (Int.le_refl _),show leI ((m+1:Nat):Int) 2147483648=true from decide_eq_true (by omega),qBs,qCt,show ltI (s:Int) 0=false from decide_eq_false (by omega),qBf,show ltI 0 ((m+1:Nat):Int)=true from decide_eq_true (by omega)];have hp:(2:Nat)^s<256:=Nat.pow_lt_pow_right (by decide) (show s<8 from Q);have eb:bytesOf ((((List.replicate (m+1) (PV.int .u8 0)).set 0 (PV.int .u8 (IntKind.u8.wrap ((1:Int)*2^(min s IntKind.u8.bits))))).drop 0).take (m+1))=jS (2^s*256^m):=by rw[show min s IntKind.u8.bits=s from Nat.min_eq_left (by show s<=8;omega),Int.one_mul,show(2:Int)^s=((2^s:Nat):Int) by push_cast;rfl,show IntKind.u8.wrap ((2^s:Nat):Int)=((2^s:Nat):Int) by show((2^s:Nat):Int)%256=_;generalize 2^s=t at hp ⊢;omega,List.replicate_succ,List.set_cons_zero,qLy,List.take_of_length_le (by simp)];exact OW m s Q
      have H:=U4 m s;have hN:0<2^s*256^m:=Nat.mul_pos (Nat.pow_pos (by decide)) (Nat.pow_pos (by decide));have R:1048576<2^s*256^m:=by
       have:(256:Nat)^3<=256^m:=Nat.pow_le_pow_right (by decide) (by omega);have K:1<=2^s:=Nat.pow_pos (by decide)
       calc 1048576<1*256^3:=by decide
        _<=2^s*256^m:=Nat.mul_le_mul K this
      have D:=c27 X hX hB 1 1 (by decide) (by decide);generalize 2^s*256^m=N at *;have o:=c24 X hX hB f i ⟨a,b⟩ ⟨(N:Int),1⟩ ⟨e,g⟩;rw[Kr X hX hB hE hS f l A w (by rw[Int.natAbs_natCast];omega) (by decide) v u b0 (by decide) B,Int.natAbs_natCast,H]at o;have n:Dp f ⟨a,b⟩ ⟨(N:Int),1⟩ ⟨e,g⟩=false:=by have K:wW f.outer (a*1) ((N:Int)*b) (b*1)=-1:=Tc (by omega) (gI (kD l).1).2.2 (by rw[Int.mul_one];exact Int.mul_lt_mul_of_pos_right (by omega) b0);show(_&&(decide (0<=wW f.outer (a*1) ((N:Int)*b) (b*1))&&_))=false;rw[K];exact Bool.and_false _
      rw[n]at o;have Z:PV.agg [.bool false,.str (jS N),.bool (((eR 1 1).cell 0).toBool),.str (((eR 1 1).cell 1).toStr)]=eR (N:Int) 1:=by rw[show eR (N:Int) 1=PV.agg [.bool (decide ((N:Int)<0)),.str (jS (N:Int).natAbs),.bool (decide ((1:Int)<0)),.str (jS (1:Int).natAbs)] from rfl,decide_eq_false (show ¬(N:Int)<0 by omega),Int.natAbs_natCast];rfl
      rw[D,qOb,eb];simp only[qLh,pv_p];rw[Z];rw[encF]at o;show(run tab X 24 [_,.p (pz x),.p (eR (N:Int) 1),.p (pz z)] []).bind _=_;rw[F,E,show run tab X 24 [_,.p (eR a b),.p (eR (N:Int) 1),.p (eR e g)] []=_ from o,qOb];by_cases c3:8192<8*m+s+1
      . rw[if_pos c3];simp only[show gtI ((8*m+s+1:Nat):Int) 8192=true from decide_eq_true (by omega)];show(run tab X 11 [] []).bind _=_;rw[r];rfl
      . rw[if_neg c3];simp only[show gtI ((8*m+s+1:Nat):Int) 8192=false from decide_eq_false (by omega)];show(run tab X 11 [] []).bind _=_;rw[r];rfl
theorem law6(f:Fen)(H:Oa f)(x y z:Rw)(h:Int):run tab X 6 [.p (encF f),.p (pz x),.p (pz y),.p (pz z),.p (.int .i64 h)] []=some ([.p (.bool true)],[]):=
 run_of (hX _ rfl) (by
  have G:=c11 X hX hB hE hS;have q:=c15 X hX f H;rw[encF]at q ⊢;rw[pz,pz,pz,e6,q,qOb];simp only[qLh,pv_p,toBool_bool];cases F:zI f with
  | false=>rw[qBf,qCt,G];rfl
  | true =>
   obtain⟨j,_⟩:=uG F;rw[qBt,qCf];refine r6w X hX hB hE hS f x y z h true 0 (by omega) x rfl λN M=>?_;refine r6w X hX hB hE hS f x y z h _ 1 (by omega) y rfl λL K=>?_;refine r6w X hX hB hE hS f x y z h _ 2 (by omega) z rfl λJ I=>?_;have l:x.fit:=⟨by omega,by omega⟩;have k:y.fit:=⟨by omega,by omega⟩;have fz:z.fit:=⟨by omega,by omega⟩;rw[Bool.true_and,Bool.and_assoc];cases i:(okV x&&(okV y&&okV z))with
   | false=>exact n6w X hX hB hE hS f x y z h l k fz i
   | true =>
    simp only[qBa]at i;obtain⟨t,s,r⟩:=i;obtain⟨a,b,o,w,E,D⟩:=FT l t;obtain⟨c,d,n,v,C,B⟩:=FT k s;obtain⟨e,g,m,u,le,A⟩:=FT fz r;cases i:validP f with
    | false=>exact m6w X hX hB hE hS f j i x y z h o n m
    | true=>exact v6w X hX hB hE hS f j i x y z h o n m (CP E N) (CP D M) (CP C L) (CP B K) (CP le J) (CP A I) w.2.2 v.2.2 u.2.2)
end
end
section
variable {x:PV}
section
variable {P:Program} {w:World} {M:Nat->Prop}
theorem trodAll_len{H:Type}{enc:TypeId × Value->H}{base:Nat}{b:Nat->Bool}{a:Bool}:∀{ts:List TypeId} {vs:List Value} {ds:List (DataW H)} {c:List MemPlace},DataW.TrodAll enc P w base b a ts vs ds c->ds.length=ts.length
 |[],[],[],_,_=>rfl
 | _::_,_::_,_::_,_,⟨_,_,_,h2,_⟩=>by rw[qLl,qLl,trodAll_len h2]
theorem MF(h:kindOk .bool x=true):∃ b:Bool,x=.bool b:=by cases x<;>simp[kindOk]at h;exact⟨_,rfl⟩
theorem str_of(h:kindOk .str x=true):∃ b:ByteArray,x=.str b:=by cases x<;>simp[kindOk]at h;exact⟨_,rfl⟩
theorem BJ{t:TypeId}(f:shapeP P 8 t=(true,[.bool,.str,.bool,.str]))(e:shapeOk (shapeP P 8 t).1 (shapeP P 8 t).2 x=true):∃ r:Rw,x=pz r:=by
 rw[f]at e;cases x<;>simp only[shapeOk,Bool.false_eq_true]at e;rename_i cs
 match cs,e with
 |[a,b,c,d],e =>simp only[kindsOk,Bool.and_true,qBa]at e;obtain⟨j,i,g,hd⟩:=e;obtain⟨p,rfl⟩:=MF j;obtain⟨q,rfl⟩:=str_of i;obtain⟨r,rfl⟩:=MF g;obtain⟨s,rfl⟩:=str_of hd;exact⟨⟨p,q,r,s⟩,rfl⟩
 |[],h=>simp[kindsOk]at h
 |[_],h=>simp[kindsOk]at h
 |[_,_],h=>simp[kindsOk]at h
 |[_,_,_],h=>simp[kindsOk]at h
 | _::_::_::_::_::_,h=>simp[kindsOk]at h
end
end
end Go.Skm.Fen
