import Derived.Test.YtoheflpoanjihaaGreatG3
set_option linter.all false
namespace Go.Skm.Fen
open Go Go.Skm
section
def tZ(a b c d:V3):Bool:=Jg a b c||(Jg a b d||(Jg c d a||(Jg c d b||(decide (qy a b c*qy a b d<0)&&decide (qy c d a*qy c d b<0)))))
theorem zu(a b c:V3):qy a b c=-1\/qy a b c=0\/qy a b c=1:=by grind[qy,nG]
abbrev vN(a:V3):Prop:=Bd 16777216 a
section
variable (X:Ext) (hX:Mine X)
include hX
theorem c96(a b c:V3)(g:vN a)(f:vN b)(e:vN c):run tab X 96 [.p (cO a),.p (cO b),.p (cO c)] []=some ([Ab (qy a b c)],[]):=
 aY (hX _ rfl) (by have d:=avi X hX a b c g f e;simp only[cO]at d;rw[cO,cO,cO,e96,d];rfl)
theorem c41(a b p:V3)(e:vN a)(d:vN b)(hp:vN p):run tab X 41 [.p (cO a),.p (cO b),.p (cO p)] []=some ([Ac (Jg a b p)],[]):=
 aY (hX _ rfl) (by have c:=c96 X hX a b p e d hp;simp only[cO]at c;rw[cO,cO,cO,e41];simp only[c,qOb,qLh,bV,toInt_int,Jg];grind)
theorem c42(a b c d:V3)(i:vN a)(g:vN b)(j:vN c)(hd:vN d):run tab X 42 [.p (cO a),.p (cO b),.p (cO c),.p (cO d)] []=some ([Ac (tZ a b c d)],[]):=
 aY (hX _ rfl) (by
  have o:=λ(a b p:V3) i g hp=>c41 X hX a b p i g hp;have t:=λ(a b p:V3) i g hp=>c96 X hX a b p i g hp;simp only[cO]at o t;rw[cO,cO,cO,cO,e42];simp only[o a b c i g j,o a b d i g hd,o c d a j hd i,o c d b j hd g,t a b c i g j,t a b d i g hd,t c d a j hd i,t c d b j hd g,qOb,qLh,bV,toInt_int,bf,tZ];have w:∀ a b c d e f:V3,IntKind.i64.wrap (qy a b c*qy d e f)=qy a b c*qy d e f:=by intro a b c d e f;rcases zu a b c with h | h | h<;>rcases zu d e f with k | k | k<;>rw[h,k]<;>rfl
  have q:∀ x y:Int,cu x y=decide (x<y):=λ_ _=>rfl;rw[w,w,q,q];cases Jg a b c<;>cases Jg a b d<;>cases Jg c d a<;>cases Jg c d b<;>cases decide (qy a b c*qy a b d<0)<;>rfl)
def ED(x y:V3):PV:=.agg [Ap x.x,Ap x.y,Ap x.z,Ap y.x,Ap y.y,Ap y.z]
theorem c46(a b c d:V3)(f:vN a)(e:vN b)(g:vN c)(hd:vN d):run tab X 46 [.p (ED a b),.p (ED c d)] []=some ([Ac (tZ a b c d)],[]):=
 aY (hX _ rfl) (by have o:=λ(a b p:V3) f e hp=>c45 X hX a b p f e hp;have t:=λ(a b p:V3) f e hp=>c97 X hX a b p f e hp;simp only[cO]at o t;rw[ED,ED,e46];simp only[o a b c f e g,o a b d f e hd,o c d a g hd f,o c d b g hd e,t a b c f e g,t a b d f e hd,t c d a g hd f,t c d b g hd e,qOb,qLh,bV,toInt_int,bf,tZ];generalize Jg a b c=o1;generalize Jg a b d=o2;generalize Jg c d a=o3;generalize Jg c d b=o4;rcases zu a b c with j | j | j<;>rcases zu a b d with i | i | i<;>rcases zu c d a with h | h | h<;>rcases zu c d b with h4 | h4 | h4<;>rw[j,i,h,h4]<;>cases o1<;>cases o2<;>cases o3<;>cases o4<;>rfl)
end
end
section
section
variable (X:Ext) (hX:Mine X)
include hX
theorem l43(l:List V3)(m:l.length<=1000000):∀ k i,i+k=l.length->(∀ j,j<i->rF 1048576 (l.getD j default)=true) ->
    L tab (run tab X) 43 [] [.lp [1,0,1,0]] (OG (bT l) i)=some ([Ac (l.all (rF 1048576))],[]):=by
  intro k;induction k with
  | zero =>
   intro i h a;refine dU ?_;rw[abw];refine dR (by simp;omega) ?_;have:l.all (rF 1048576)=true:=by rw[List.all_eq_true];intro v b;obtain⟨j,g,rfl⟩:=List.getElem_of_mem b;grind
   rw[this]
  | succ k e =>
   intro i h a;refine dU ?_;rw[abw];refine fK (by simp;omega) ?_;have f:(leI (0:Int) (i:Int)&&cu (i:Int) (((bT l).length:Nat):Int))=true:=by simp;omega
   have d:IntKind.i64.wrap ((i:Int)+1)=((i+1:Nat):Int):=by rw[wrap_eq (by omega) (by omega)];omega
   have c:=c21 X hX (l.getD i default);simp only[cO]at c;rw[f,qCt];simp only[qIt,JA,JB,QN,c,qOb,qLh,bV,bf,d];cases b:rF 1048576 (l.getD i default)with
   | false =>
    have:l.all (rF 1048576)=false:=by rw[List.all_eq_false];refine⟨l.getD i default,?_,by rw[b];decide⟩;simp_all
    grind
   | true =>rw[qBt,qCf];refine e (i+1) (by omega) λj g=>?_;grind
theorem c43(l:List V3)(a:l.length<=1000000):run tab X 43 [.p (.list true aU (bT l))] []=some ([Ac (l.all (rF 1048576))],[]):=
 aY (hX _ rfl) (by rw[e43];exact l43 X hX l a l.length 0 (by omega) (by omega))
theorem c39(v:V3):run tab X 39 [.p (cO v)] []=some ([Ac (!(rF 1048576 v))],[]):=
 aY (hX _ rfl) (by have a:=c40 X hX v;simp only[cO]at a;rw[cO,e39,a];rfl)
def AA:List V3->Nat->Int
 |[],_=>-1
 | v::r,i=>if rF 1048576 v then AA r (i+1)else i
theorem l94(l:List V3)(j:l.length<=1000000):∀(r:List V3) (i:Nat),l.drop i=r->i<=l.length ->
    L tab (run tab X) 94 [] [.lp [1,0,1,0]] (OJ (bT l) l.length i)=some ([Ab (AA r i)],[]):=by
  intro r;induction r with
  | nil =>
   intro i c g;have b:i=l.length:=by have:=congrArg List.length c;grind
   refine dU ?_;rw[abx];exact dR (by omega) rfl
  | cons v r h =>
   intro i c g;have b:i<l.length:=by grind
   have f:l.getD i default=v:=by grind[qLb,List.head?_drop]
   refine dU ?_;rw[abx];refine fK (by omega) ?_;have a:(leI (0:Int) (i:Int)&&cu (i:Int) (((bT l).length:Nat):Int))=true:=by simp;omega
   have e:IntKind.i64.wrap ((i:Int)+1)=((i+1:Nat):Int):=by rw[wrap_eq (by omega) (by omega)];omega
   have d:=c39 X hX v;simp only[cO]at d;rw[a,qCt];simp only[qIt,JA,JB,QN,f,d,qOb,qLh,bV,bf,e];rw[AA];cases rF 1048576 v with
   | false=>rfl
   | true =>rw[qBt,qCf,if_pos rfl];grind[List.tail_drop]
theorem Ih:∀(l:List V3) (i:Nat),(0<=AA l i)↔l.all (rF 1048576)=false
 |[],i=>by simp[AA]
 | v::r,i=>by
  rw[AA];cases h:rF 1048576 v with
  | false=>simp[h]
  | true=>simp[h,Ih r (i+1)]
theorem c38(l:List V3)(a:l.length<=1000000):run tab X 38 [.p (.list true aU (bT l)),.p (.fn 39 [])] []=some ([Ac (!(l.all (rF 1048576)))],[]):=
 aY (hX _ rfl) (by
  have c:run tab X 94 [.p (.list true aU (bT l)),.p (.fn 39 [])] []=some ([Ab (AA l 0)],[]):=aY (hX _ rfl) (by rw[e94,lY];exact l94 X hX l a l 0 rfl (by omega));rw[e38,c];simp only[qOb,qLh,bV,toInt_int];have e:BJ (AA l 0) 0=!(l.all (rF 1048576)):=by
   cases h:l.all (rF 1048576)with
   | false=>exact decide_eq_true ((Ih X hX l 0).2 h)
   | true=>exact decide_eq_false λb=>by rw[(Ih X hX l 0).1 b]at h;exact absurd h (by decide)
  rw[e])
end
end
section
def flat(v:V3):V3:=⟨v.x,v.y,0⟩
def qx(n i:Nat):Nat:=(i+1)%n
abbrev gt(l:List V3)(i:Nat):V3:=l.getD i default
def wM(l:List V3)(n:Nat):List PV:=(List.range n).map λi=>ED (flat (gt l i)) (flat (gt l (qx l.length i)))
abbrev kE:List Kd:=[.int .i64,.int .i64,.int .i64,.int .i64,.int .i64,.int .i64]
theorem Fq(l:List V3)(n:Nat):(wM l n).length=n:=by simp[wM]
theorem abZ(l:List V3)(n:Nat):wM l (n+1)=wM l n++[ED (flat (gt l n)) (flat (gt l (qx l.length n)))]:=by simp[wM,List.range_succ,List.map_append]
section
variable (X:Ext) (hX:Mine X)
include hX
theorem l44(l:List V3)(m:l.length<=1000000):∀ k i,i+k=l.length ->
    L tab (run tab X) 44 [] [.lp [1,1,0,1,0]] (KT (bT l) 0 i i (wM l i))=some ([.fresh true kE (wM l l.length)],[]):=by
  have _:=hX;intro k;induction k with
  | zero =>
   intro i h;have b:i=l.length:=by omega
   subst b;refine dU ?_;rw[Yh];refine dR (by simp) ?_;grind[Fq]
  | succ k e =>
   intro i h;refine dU ?_;rw[Yh];refine fK (by simp;omega) ?_;have g:(leI (0:Int) (i:Int)&&cu (i:Int) (((bT l).length:Nat):Int))=true:=by simp;omega
   have c:IntKind.i64.wrap ((i:Int)+1)=((i+1:Nat):Int):=by rw[wrap_eq (by omega) (by omega)];omega
   have d:((i+1:Nat):Int).tmod ((l.length:Nat):Int)=((qx l.length i:Nat):Int):=by rw[Int.tmod_eq_emod_of_nonneg (by omega)];norm_cast
   have j:qx l.length i<l.length:=qNm _ (by omega);have a:(leI (0:Int) ((qx l.length i:Nat):Int)&&cu ((qx l.length i:Nat):Int) (((bT l).length:Nat):Int))=true:=by simp;omega
   have f:(!(Je (((bT l).length:Nat):Int) (0:Int)))=true:=by grind
   rw[f,g,c];simp only[lY]at a ⊢;rw[d,a];simp only[qCt,qIt,JA,JB];refine fK (show i+1<=2147483648 by omega) ?_;rw[qLy,List.take_of_length_le (by rw[Fq];omega)];have:=e (i+1) (by omega);rw[abZ]at this;exact this
theorem c44(l:List V3)(a:l.length<=1000000):run tab X 44 [.p (.list true aU (bT l))] []=some ([.fresh true kE (wM l l.length)],[]):=
 aY (hX _ rfl) (by rw[e44];exact l44 X hX l a l.length 0 (by omega))
end
end
section
variable {i n:Nat}
def pz(f:Nat->Bool):Nat->Nat->Bool
 | _,0=>true
 | k,m+1=>f k&&pz f (k+1) m
theorem kJ{f:Nat->Bool}:∀{m k:Nat},pz f k m=true↔∀ j,k<=j->j<k+m->f j=true
 | 0,k=>by simp[pz];intro j b a;omega
 | m+1,k=>by simp only[pz,qBa,kJ (m:=m)];grind
theorem rng(h:i<n):(leI (0:Int) (i:Int)&&cu (i:Int) ((n:Nat):Int))=true:=by grind
theorem le0(i:Nat):leI (0:Int) (i:Int)=true:=decide_eq_true (by omega)
theorem F6(h:i<n):cu (i:Int) ((n:Nat):Int)=true:=decide_eq_true (by omega)
theorem O3(h:¬ i<n):cu (i:Int) ((n:Nat):Int)=false:=decide_eq_false (by omega)
theorem nz(h:0<n):(!(Je ((n:Nat):Int) (0:Int)))=true:=by grind
theorem kG(h:i<=9000000000000000000):IntKind.i64.wrap ((i:Int)+1)=((i+1:Nat):Int):=by rw[wrap_eq (by omega) (by omega)];omega
theorem ab3(i n:Nat):((i+1:Nat):Int).tmod ((n:Nat):Int)=((qx n i:Nat):Int):=by rw[Int.tmod_eq_emod_of_nonneg (by omega)];norm_cast
theorem aea(h:0<n):qx n i<n:=qNm _ h
theorem ai7(a b:Nat):((a:Int)==(b:Int))=decide (a=b):=by grind
section
variable (l:List V3)
abbrev ca(i:Nat):V3:=gt l i
abbrev cb(i:Nat):V3:=gt l (qx l.length i)
def okE(i:Nat):Bool:=!(((ca l i).x==(cb l i).x)&&((ca l i).y==(cb l i).y))
def ZY(i k:Nat):Bool:=if k=i+1 then !Jg (ca l i) (cb l i) (cb l k)&&!Jg (ca l k) (cb l k) (ca l i)else if qx l.length k=i then !Jg (ca l i) (cb l i) (ca l k)&&!Jg (ca l k) (cb l k) (cb l i)else !tZ (ca l i) (cb l i) (ca l k) (cb l k)
def okD(i k:Nat):Bool:=if k=i then true else if k=qx l.length i then !Jg (ca l i) (cb l i) (cb l k)&&!Jg (ca l k) (cb l k) (ca l i)else if i=qx l.length k then true else !tZ (ca l i) (cb l i) (ca l k) (cb l k)
def O9:Bool:=decide (3<=l.length/\l.length<=64)&&l.all (rF 1048576)
def gG:Bool:=O9 l&&pz (λi=>okE l i&&pz (ZY l i) (i+1) (l.length-(i+1))) 0 l.length
def Yt:Bool:=O9 l&&pz (λi=>okE l i&&pz (okD l i) 0 l.length) 0 l.length
end
theorem ab4(a b p:V3):Jg (flat a) (flat b) (flat p)=Jg a b p:=rfl
theorem VH(a b c d:V3):tZ (flat a) (flat b) (flat c) (flat d)=tZ a b c d:=rfl
theorem ZQ{l:List V3}(h:l.all (rF 1048576)=true)(i:Nat):vN (gt l i):=by
 by_cases a:i<l.length
 . have:=List.all_eq_true.1 h (l[i]) (List.getElem_mem a);rw[ug]at this;have e:gt l i=l[i]:=by grind
   rw[e];exact this.mono (by decide)
 . have e:gt l i=default:=by grind
   rw[e];refine⟨⟨?_,?_⟩,⟨?_,?_⟩,⟨?_,?_⟩⟩<;>decide
theorem ZP{v:V3}(h:vN v):vN (flat v):=⟨h.1,h.2.1,⟨by show(-16777216:Int)<=0;decide,by show(0:Int)<=16777216;decide⟩⟩
section
variable (X:Ext) (hX:Mine X)
include hX
theorem avj(l:List V3)(C:3<=l.length)(E:l.length<=64)(h:l.all (rF 1048576)=true)(i:Nat)(F:i<l.length)(t:Int)(R:Bool)
    (hnext:L tab (run tab X) 12 [] [.lp [1,1,1,0,1,0]] (DC (bT l) ((l.length:Nat):Int) t ((i+1:Nat):Int))=some ([Ac R],[])):∀ m k,k+m=l.length->i<k ->
    L tab (run tab X) 12 [] [.lp [1,1,1,0,1,0],.lp [1,1,0,0,1,1,1,1,0]] (gI (bT l) ((l.length:Nat):Int) (i:Int) (k:Int) t (i:Int) (ca l i).x (ca l i).y (ca l i).z (cb l i).x (cb l i).y (cb l i).z)=some ([Ac (pz (ZY l i) k m&&R)],[]):=by
  intro m;induction m with
  | zero =>intro k A s;refine dU ?_;rw[Aa,O3 (by omega),qCf,kG (by omega)];exact hnext
  | succ m D =>
   intro k A s;have g:k<l.length:=by omega
   have f:=ZQ h;have o:=λ(a b p:V3) u f hp=>c41 X hX a b p u f hp;have v:=λ(a b c d:V3) u f B hd=>c42 X hX a b c d u f B hd;simp only[cO]at o v;have w:=aea (n:=l.length) (i:=k) (by omega);refine dU ?_;rw[Aa,F6 g,qCt];rw[lY,rng g,qCt,nz (by omega),qCt,kG (by omega),kG (by omega),ab3];rw[rng w,qCt];simp only[qIt,JA,JB,QN,qCt];have r:∀ b:Bool,pz (ZY l i) k (m+1)=(ZY l i k&&pz (ZY l i) (k+1) m):=λ_=>rfl;rw[r true,ai7];have next:∀ b:Bool,b=ZY l i k->(bif (!b)then some ([Ac false],([]:List bZ))else L tab (run tab X) 12 [] [.lp [1,1,1,0,1,0],.lp [1,1,0,0,1,1,1,1,0]] (gI (bT l) ((l.length:Nat):Int) (i:Int) ((k+1:Nat):Int) t (i:Int) (ca l i).x (ca l i).y (ca l i).z (cb l i).x (cb l i).y (cb l i).z))=some ([Ac ((ZY l i k&&pz (ZY l i) (k+1) m)&&R)],[]):=by
    intro b f;cases b with
    | false=>rw[<- f];rfl
    | true=>grind
   by_cases q:k=i+1
   . rw[decide_eq_true q,qCt,show mg ((l.length:Nat):Int) (2:Int)=true from decide_eq_true (by omega),qCt];rw[o _ _ _ (f _) (f _) (f _),qOb];simp only[qLh,bV,bf];have e:ZY l i k=(!Jg (ca l i) (cb l i) (cb l k)&&!Jg (ca l k) (cb l k) (ca l i)):=by rw[ZY,if_pos q]
     cases j:Jg (ca l i) (cb l i) (cb l k)with
     | true=>grind
     | false =>rw[qBf,qCt,o _ _ _ (f _) (f _) (f _),qOb];simp_all
   . rw[decide_eq_false q,qCf];rw[ai7];by_cases j:qx l.length k=i
     . rw[decide_eq_true j,qCt,o _ _ _ (f _) (f _) (f _),qOb];simp only[qLh,bV,bf];have e:ZY l i k=(!Jg (ca l i) (cb l i) (ca l k)&&!Jg (ca l k) (cb l k) (cb l i)):=by rw[ZY,if_neg q,if_pos j]
       cases C:Jg (ca l i) (cb l i) (ca l k)with
       | true=>grind
       | false =>rw[qBf,qCt,o _ _ _ (f _) (f _) (f _),qOb];simp_all
     . rw[decide_eq_false j,qCf,v _ _ _ _ (f _) (f _) (f _) (f _),qOb];simp only[qLh,bV,bf];exact next _ (by rw[ZY,if_neg q,if_neg j])
theorem l12(l:List V3)(h:3<=l.length)(f:l.length<=64)(b:l.all (rF 1048576)=true):∀ m i,i+m=l.length ->
    L tab (run tab X) 12 [] [.lp [1,1,1,0,1,0]] (DC (bT l) ((l.length:Nat):Int) ((l.length:Nat):Int) (i:Int))=some ([Ac (pz (λi=>okE l i&&pz (ZY l i) (i+1) (l.length-(i+1))) i m)],[]):=by
  intro m;induction m with
  | zero =>intro i g;refine dU ?_;rw[UQ,O3 (by omega),qCf];rfl
  | succ m d =>
   intro i g;have a:i<l.length:=by omega
   have e:=aea (n:=l.length) (i:=i) (by omega);refine dU ?_;rw[UQ,F6 a,qCt];rw[lY,rng a,qCt,nz (by omega),qCt,kG (by omega),ab3];rw[rng e,qCt];simp only[qIt,JA,JB,QN];have j:=avj X hX l h f b i a _ _ (d (i+1) (by omega)) (l.length-(i+1)) (i+1) (by omega) (by omega);have c:pz (λi=>okE l i&&pz (ZY l i) (i+1) (l.length-(i+1))) i (m+1)=((okE l i&&pz (ZY l i) (i+1) (l.length-(i+1)))&&pz (λi=>okE l i&&pz (ZY l i) (i+1) (l.length-(i+1))) (i+1) m):=rfl;rw[c,Bool.and_assoc,okE];grind
theorem c12(l:List V3)(b:l.length<=1000000):run tab X 12 [.p (.list true aU (bT l))] []=some ([Ac (gG l)],[]):=
 aY (hX _ rfl) (by
  rw[e12,lY,gG,O9];by_cases d:l.length<3
  . grind
  rw[show cu ((l.length:Nat):Int) (3:Int)=false from decide_eq_false (by omega),qCf];by_cases c:64<l.length
  . grind
  rw[show mg ((l.length:Nat):Int) (64:Int)=false from decide_eq_false (by omega),qCf,decide_eq_true (show 3<=l.length/\l.length<=64 by omega),Bool.true_and,c38 X hX l b,qOb];simp only[qLh,bV,bf];cases a:l.all (rF 1048576)with
  | false=>rfl
  | true =>rw[qBt,qCf,Bool.true_and];exact l12 X hX l (by omega) (by omega) a l.length 0 (by omega))
end
end
section
theorem NK(l:List V3){i:Nat}(h:i<l.length):(wM l l.length).getD i .nil=ED (flat (ca l i)) (flat (cb l i)):=by grind[wM]
section
variable (X:Ext) (hX:Mine X)
include hX
theorem avk(l:List V3)(s:3<=l.length)(z:l.length<=64)(j:l.all (rF 1048576)=true)(i:Nat)(u:i<l.length)(R:Bool)
    (hnext:L tab (run tab X) 13 [] [.lp [1,1,1,0,1,0]] (DF 0 l.length ((i+1:Nat):Int) (wM l l.length))=some ([Ac R],[])):∀ m k,k+m=l.length ->
    L tab (run tab X) 13 [] [.lp [1,1,1,0,1,0],.lp [1,0,0,1,1,0]] (jr 0 l.length (i:Int) (k:Int) (wM l l.length))=some ([Ac (pz (okD l i) k m&&R)],[]):=by
  intro m;induction m with
  | zero =>intro k v;refine dU ?_;rw[EH,O3 (by omega),qCf,kG (by omega)];exact hnext
  | succ m y =>
   intro k v;have g:k<l.length:=by omega
   have f:=λi=>ZP (ZQ j i);have o:=λ(a b p:V3) r f hp=>c45 X hX a b p r f hp;have t:=λ(a b c d:V3) r f w hd=>c46 X hX a b c d r f w hd;simp only[cO,ED]at o t;have q:pz (okD l i) k (m+1)=(okD l i k&&pz (okD l i) (k+1) m):=rfl;have next:∀ b:Bool,b=!okD l i k->(bif b then some ([Ac false],([]:List bZ))else L tab (run tab X) 13 [] [.lp [1,1,1,0,1,0],.lp [1,0,0,1,1,0]] (jr 0 l.length (i:Int) ((k+1:Nat):Int) (wM l l.length)))=some ([Ac ((okD l i k&&pz (okD l i) (k+1) m)&&R)],[]):=by grind
   refine dU ?_;rw[EH,F6 g,qCt,ai7,q];by_cases h:k=i
   . rw[decide_eq_true h,qCt,kG (by omega)];have e:okD l i k=true:=by rw[okD,if_pos h]
     grind
   rw[decide_eq_false h,qCf,nz (by omega),qCt,kG (by omega),kG (by omega),ab3,ab3,ai7,ai7];simp only[rng u,rng g,qCt,qIt,qNz,NK l u,NK l g,ED,GH,qLz,List.getD_cons_succ,toInt_int];by_cases n:k=qx l.length i
   . rw[decide_eq_true n,qCt,o _ _ _ (f _) (f _) (f _),qOb];simp only[qLh,bV,bf];have e:okD l i k=(!Jg (ca l i) (cb l i) (cb l k)&&!Jg (ca l k) (cb l k) (ca l i)):=by rw[okD,if_neg h,if_pos n]
     rw[ab4,o _ _ _ (f _) (f _) (f _),ab4,qOb];simp only[qLh,bV,bf];cases s:Jg (ca l i) (cb l i) (cb l k)with
     | true =>
      have x:okD l i k=false:=by rw[e,s];rfl
      rw[x];rfl
     | false =>rw[qCf];exact next _ (by rw[e,s];cases Jg (ca l k) (cb l k) (ca l i)<;>rfl)
   . rw[decide_eq_false n,qCf];by_cases h4:i=qx l.length k
     . rw[decide_eq_true h4,qCt];have e:okD l i k=true:=by rw[okD,if_neg h,if_neg n,if_pos h4]
       grind
     . rw[decide_eq_false h4,qCf,t _ _ _ _ (f _) (f _) (f _) (f _),VH,qOb];simp only[qLh,bV,bf];exact next _ (by rw[okD,if_neg h,if_neg n,if_neg h4,Bool.not_not])
theorem l13(l:List V3)(h:3<=l.length)(f:l.length<=64)(b:l.all (rF 1048576)=true):∀ m i,i+m=l.length ->
    L tab (run tab X) 13 [] [.lp [1,1,1,0,1,0]] (DF 0 l.length (i:Int) (wM l l.length))=some ([Ac (pz (λi=>okE l i&&pz (okD l i) 0 l.length) i m)],[]):=by
  intro m;induction m with
  | zero =>intro i g;refine dU ?_;rw[UR,O3 (by omega),qCf];rfl
  | succ m d =>
   intro i g;have a:i<l.length:=by omega
   refine dU ?_;rw[UR,F6 a,qCt];simp only[le0,Bool.and_true,qCt,qIt,qNz,NK l a,ED,GH,qLz,List.getD_cons_succ,toInt_int];have j:=avk X hX l h f b i a _ (d (i+1) (by omega)) l.length 0 (by omega);have c:pz (λi=>okE l i&&pz (okD l i) 0 l.length) i (m+1)=((okE l i&&pz (okD l i) 0 l.length)&&pz (λi=>okE l i&&pz (okD l i) 0 l.length) (i+1) m):=rfl;have e:((flat (ca l i)).z==(flat (cb l i)).z)=true:=rfl;rw[c,Bool.and_assoc,okE,e,Bool.and_true];show(bif ((ca l i).x==(cb l i).x)&&((ca l i).y==(cb l i).y)then _ else _)=_;grind
theorem c13(l:List V3)(b:l.length<=1000000):run tab X 13 [.p (.list true aU (bT l))] []=some ([Ac (Yt l)],[]):=
 aY (hX _ rfl) (by
  rw[e13,lY,Yt,O9];by_cases d:l.length<3
  . grind
  rw[show cu ((l.length:Nat):Int) (3:Int)=false from decide_eq_false (by omega),qCf];by_cases c:64<l.length
  . grind
  rw[show mg ((l.length:Nat):Int) (64:Int)=false from decide_eq_false (by omega),qCf,decide_eq_true (show 3<=l.length/\l.length<=64 by omega),Bool.true_and,c43 X hX l b,qOb];simp only[qLh,bV,bf];cases a:l.all (rF 1048576)with
  | false=>rfl
  | true =>rw[qBt,qCf,Bool.true_and,c44 X hX l b,qOb];simp only[qLh,AV.aI,Fq];exact l13 X hX l (by omega) (by omega) a l.length 0 (by omega))
end
theorem VI(a b c d:V3):tZ a b c d=tZ c d a b:=by grind[tZ]
theorem Z4(l:List V3)(m:3<=l.length){i k:Nat}(g:i<k)(j:k<l.length):ZY l i k=(okD l i k&&okD l k i):=by
 have h:qx l.length i=i+1:=Nat.mod_eq_of_lt (by omega);have d:¬ k=i:=by omega
 have a:¬ i=k:=by omega
 unfold ZY okD;rw[if_neg d,if_neg a,h];by_cases c:k=i+1
 . rw[if_pos c,if_pos c];have f:¬ i=qx l.length k:=by
    by_cases e:k+1=l.length
    . grind[Nat.mod_self,qx]
    . have:qx l.length k=k+1:=Nat.mod_eq_of_lt (by omega);omega
   grind
 . rw[if_neg c,if_neg c];by_cases f:qx l.length k=i
   . grind
   . have b:¬ i=qx l.length k:=λe=>f e.symm;rw[if_neg f,if_neg b,if_neg b,if_neg c,VI (ca l k),qBs]
theorem O8(l:List V3):Yt l=gG l:=by
 unfold Yt gG;cases d:O9 l with
 | false=>rfl
 | true =>
  rw[Bool.true_and,Bool.true_and,Bool.eq_iff_iff,kJ,kJ];have c:3<=l.length:=by unfold O9 at d;grind
  constructor
  . intro h i _ b;have:=h i (by omega) b;simp only[qBa,kJ]at this ⊢;refine⟨this.1,λk g f=>?_⟩;rw[Z4 l c (by omega) (by omega),this.2 k (by omega) (by omega)];have:=h k (by omega) (by omega);simp_all[qBa,kJ]
  . intro h i _ b;have h':=h i (by omega) b;simp only[qBa,kJ]at h' ⊢;refine⟨h'.1,λk g f=>?_⟩;rcases Nat.lt_trichotomy i k with e | e | e
    . have:=h'.2 k (by omega) (by omega);rw[Z4 l c e (by omega),qBa]at this;exact this.1
    . rw[okD,if_pos e.symm]
    . have a:=h k (by omega) (by omega);simp only[qBa,kJ]at a;have:=a.2 i (by omega) (by omega);rw[Z4 l c e (by omega),qBa]at this;exact this.2
end
end Go.Skm.Fen
