import Derived.Test.YtpjaaamhnghloaaGreatDoorP3
import Derived.Test.YtpjaaamhnghloaaGreatDoorSkmG
set_option linter.all false
namespace Go.Skm.Prg
open Go Go.Skm
section
def nmP(c:Int)(i:Nat):Prop:=(97<=c/\c<=122)\/(65<=c/\c<=90)\/(0<i/\((48<=c/\c<=57)\/c=45\/c=95))
instance (c:Int) (i:Nat):Decidable (nmP c i):=by unfold nmP;infer_instance
def aeu(g:List UInt8)(i:Nat):Bool:=decide (nmP ((g.getD i 0).toNat:Int) i)
def G6(g:List UInt8):Nat->Nat->Bool
 |_,0=>true
 |i,n+1=>aeu g i&&G6 g (i+1) n
def NZ(g:List UInt8):Bool:=decide (1<=g.length/\g.length<=32)&&G6 g 0 g.length
theorem Ju(g:List UInt8)(i:Nat):(ba g).data.getD i 0=g.getD i 0:=by show g.toArray.getD i 0=_;simp
section
variable (X:Ext) (hX:Mine X)
include hX
omit hX in
set_option maxHeartbeats 1000000 in
theorem aev(g:List UInt8)(k:g.length<=maxLen):∀(n i:Nat),i+n=g.length ->
    L tab (run tab X) 45 [] [.lp [1,0,1,0]] (dQ (ba g) g.length i)=some ([Ai (decide (1<=g.length/\g.length<=32)&&G6 g i n)],[]):=by
  have j:(maxLen:Int)=9223372036854775807:=δ
  intro n;induction n with
  |zero=>
   intro i hi;refine dN ?_;rw[Xf];simp only[aO,bZ];rw[if_neg ω];by_cases h:(g.length:Int) >= 1
   .have h':1<=g.length:=ω
    rw[if_pos h];by_cases d:g.length<=32
    .have b:(g.length:Int)<=32:=ω
     simp[h',d,b,G6]
    .have b:¬(g.length:Int)<=32:=ω
     simp[d,b]
   .have h':¬1<=g.length:=ω
    rw[if_neg h];simp[h']
  |succ n e=>
   intro i hi;have w:IntKind.i64.wrap ((i:Int)+1)=((i+1:Nat):Int):=by rw[wrap_eq ω ω];omega
   have a:=e (i+1) ω;have b1:(0:Int)<=(i:Int):=ω
   have f:(i:Int)<(g.length:Int):=ω
   refine dN ?_;rw[Xf];simp only[aO,dH,rQ,bZ,Ju,qIt,w,a,if_pos b1,if_pos f,G6,aeu];generalize (((g.getD i 0).toNat:Nat):Int)=c;by_cases hp:nmP c i
   .simp only[hp,decide_true,Bool.true_and];unfold nmP at hp
    repeat' split
    all_goals (first |rfl |(exfalso;omega))
   .simp only[hp,decide_false,Bool.false_and,Bool.and_false];unfold nmP at hp
    repeat' split
    all_goals (first |rfl |(exfalso;omega))
theorem c45(g:List UInt8)(a:g.length<=maxLen):run tab X 45 [.p (.str (ba g))] []=some ([Ai (NZ g)],[]):=
 aV (hX _ rfl) (by rw[e45,bZ];exact aev X g a g.length 0 ω)
omit hX in
set_option maxHeartbeats 2000000 in
theorem aew(g:List UInt8)(k:g.length<=maxLen):∀(n i:Nat),i+n=g.length ->
    L tab (run tab X) 31 [] [.lp [1,0,1,0]] (dP (ba g) i)=some ([Ai (decide (1<=g.length/\g.length<=32)&&G6 g i n)],[]):=by
  have j:(maxLen:Int)=9223372036854775807:=δ
  intro n;induction n with
  |zero=>
   intro i hi;refine dN ?_;rw[Xe];simp only[aO,bZ];rw[if_neg ω];by_cases h:(g.length:Int) >= 1
   .have h':1<=g.length:=ω
    rw[if_pos h];by_cases d:g.length<=32
    .have b:(g.length:Int)<=32:=ω
     simp[h',d,b,G6]
    .have b:¬(g.length:Int)<=32:=ω
     simp[d,b]
   .have h':¬1<=g.length:=ω
    rw[if_neg h];simp[h']
  |succ n e=>
   intro i hi;have w:IntKind.i64.wrap ((i:Int)+1)=((i+1:Nat):Int):=by rw[wrap_eq ω ω];omega
   have a:=e (i+1) ω;have b1:(0:Int)<=(i:Int):=ω
   have f:(i:Int)<(g.length:Int):=ω
   refine dN ?_;rw[Xe];simp only[aO,dH,rQ,xM,jL,bZ,Ju,qIt,w,a,if_pos b1,if_pos f,G6,aeu];generalize (((g.getD i 0).toNat:Nat):Int)=c;by_cases hp:nmP c i
   .simp only[hp,decide_true,Bool.true_and];unfold nmP at hp
    repeat' split
    all_goals (first |rfl |(exfalso;omega))
   .simp only[hp,decide_false,Bool.false_and,Bool.and_false];unfold nmP at hp
    repeat' split
    all_goals (first |rfl |(exfalso;omega))
theorem c31(g:List UInt8)(a:g.length<=maxLen):run tab X 31 [.p (.str (ba g))] []=some ([Ai (NZ g)],[]):=
 aV (hX _ rfl) (by rw[e31];exact aew X g a g.length 0 ω)
theorem aqh (a:V3) (m:Mv) (len:Int) (ha:pt a=true):run tab X 112 [.p (aQ a),.p (eM m),Ab len] []=some ([Ai (mQ a m len)],[]):=by
 obtain⟨a1,a2,a3⟩:=kG.1 ha
 have e1:(PV.agg [Aw a.x,Aw a.y,Aw a.z])=aQ a:=rfl
 have e2:(PV.agg [Aw m.to.x,Aw m.to.y,Aw m.to.z])=aQ m.to:=rfl
 have ex:=apx (run tab X) a.x a.y a.z m.to.x m.to.y m.to.z m.wait m.fl m.rise len
 try dsimp only at ex
 rw[e1,e2,c78 X hX,ace X hX,ace X hX,ace X hX,eqV]at ex
 refine aV (hX _ rfl) ?_
 refine Eq.trans ex ?_
 simp only[qOb,qLh,fK,aJ,jL]
 unfold mQ
 cases h1:pt m.to with
 |false=>rfl
 |true=>
  obtain⟨t1,t2,t3⟩:=kG.1 h1
  cases h2:AZ m.wait with
  |false=>rfl
  |true=>
   cases h3:AZ m.fl with
   |false=>rfl
   |true=>
    cases h4:AZ m.rise with
    |false=>rfl
    |true=>
     have g2:=jP.1 h2
     have g3:=jP.1 h3
     have g4:=jP.1 h4
     simp only[qCt,Bool.true_and]
     rw[wrap_eq ω ω,aO]
     by_cases h5:m.wait+m.fl<=len
     .rw[if_neg ω]
      simp only[h5,decide_true,Bool.true_and]
      rw[rQ]
      by_cases h6:m.fl=0
      .grind
      .rw[if_neg h6,if_neg h6,aO]
       by_cases h8:m.rise=0
       .grind
       .rw[if_pos ω,if_neg h8,rQ]
        by_cases h9:m.fl.tmod 4=0
        .rw[if_pos h9,alq X hX a m.rise ω ω,alq X hX m.to m.rise ω ω]
         simp only[qOb,qLh,fK,aJ,h9,decide_true,Bool.true_and]
         grind
        grind
     grind
theorem c34 (a:V3) (m:Mv) (len:Int) (ha:pt a=true):run tab X 34 [.p (aQ a),.p (eM m),Ab len] []=some ([Ai (mQ a m len)],[]):=by
 have e1:(PV.agg [Aw a.x,Aw a.y,Aw a.z])=aQ a:=rfl
 have e2:(PV.agg [Aw m.to.x,Aw m.to.y,Aw m.to.z])=aQ m.to:=rfl
 have ex:=e34 (run tab X) a.x a.y a.z m.to.x m.to.y m.to.z m.wait m.fl m.rise len
 try dsimp only at ex
 rw[e1,e2,c32 X hX,c67 X hX,c67 X hX,c67 X hX,eqV]at ex
 refine aV (hX _ rfl) ?_
 refine Eq.trans ex ?_
 simp only[qOb,qLh,fK,aJ,jL]
 unfold mQ
 cases h1:pt m.to with
 |false=>rfl
 |true=>
  cases h2:AZ m.wait with
  |false=>rfl
  |true=>
   cases h3:AZ m.fl with
   |false=>rfl
   |true=>
    cases h4:AZ m.rise with
    |false=>rfl
    |true=>
     have g2:=jP.1 h2
     have g3:=jP.1 h3
     have g4:=jP.1 h4
     simp only[qCt,Bool.true_and]
     rw[wrap_eq ω ω,aO]
     by_cases h5:m.wait+m.fl<=len
     .rw[if_neg ω]
      simp only[h5,decide_true,Bool.true_and]
      rw[rQ]
      by_cases h6:m.fl=0
      .grind
      .rw[if_neg h6,if_neg h6,c68 X hX a m.rise g4.1 g4.2 ha,c68 X hX m.to m.rise g4.1 g4.2 h1]
       simp only[qOb,qLh,List.tail_cons,fK,aJ]
       grind
     grind
theorem c80(a:V3)(m:Mv)(t len:Int)(j:-9223372036854775808<=len/\len<=9223372036854775807):run tab X 80 [.p (aQ a),.p (eM m),Ab t,Ab len] []=some ([.fresh true iV (eP (nR a m t len).1),Ab (nR a m t len).2],[]):=by
 have i:(PV.agg [Aw a.x,Aw a.y,Aw a.z])=aQ a:=rfl;have h:(PV.agg [Aw m.to.x,Aw m.to.y,Aw m.to.z,Aw m.wait,Aw m.fl,Aw m.rise])=eM m:=rfl;have b:=e80 (run tab X) a.x a.y a.z m.to.x m.to.y m.to.z m.wait m.fl m.rise t len;try dsimp only at b
 rw[i,h,c78 X hX,ace X hX,ace X hX]at b;refine aV (hX _ rfl) ?_;refine Eq.trans b ?_;simp only[qOb,qLh,fK,aJ,jL];unfold nR;cases d:pt a with
 |false=>rfl
 |true=>
  rw[qCt,aO];by_cases c:1<=len
  .rw[if_neg ω];cases f:AZ len with
   |false=>simp;rfl
   |true=>
    cases h4:AZ t with
    |false=>simp;rfl
    |true=>
     have k:=jP.1 f;have g:=jP.1 h4;rw[aqh X hX a m len d];simp only[qOb,qLh,fK,aJ,qCt];cases h5:mQ a m len with
     |false=>simp;rfl
     |true=>
      rw[qCt,wrap_eq ω ω,ace X hX];simp only[qOb,qLh,fK,aJ,c,decide_true,qBs,if_true];cases e:AZ (t+len)with
      |false=>rfl
      |true=>have g6:=jP.1 e;rw[qCt,aqg X hX a m t len d h5 g.1 g6.2];simp
  .rw[if_pos ω];simp[c];rfl
end
end
section
variable {i:Nat}
instance:Inhabited Mv:=⟨⟨default,0,0,0⟩⟩
structure Ac where
 name:List UInt8
 len:Int
 dG:List Mv
 deriving DecidableEq
instance:Inhabited Ac:=⟨⟨[],0,[]⟩⟩
structure Pg where
 names:List (List UInt8)
 homes:List V3
 acts:List Ac
 deriving DecidableEq
def D8(l:List Mv):List PV:=l.map eM
def eA(a:Ac):PV:=.agg [.str (ba a.name),Aw a.len,.list true yM (D8 a.dG)]
def lH(l:List Ac):List PV:=l.map eA
def eN(l:List (List UInt8)):List PV:=l.map λg=>.str (ba g)
def eG(p:Pg):PV:=.agg [.list false [.str] (eN p.names),.list true dW (dw p.homes),.list true gY (lH p.acts)]
@[simp] theorem dL(l:List Mv):(D8 l).length=l.length:=by simp[D8]
@[simp] theorem bH(l:List Ac):(lH l).length=l.length:=by simp[lH]
@[simp] theorem cu(l:List (List UInt8)):(eN l).length=l.length:=by simp[eN]
theorem aex{α:Type}(f:α->PV)(l:List α)(h:i<l.length):(l.map f).getD i .nil=f l[i]:=θ
theorem sF(l:List (List UInt8))(h:i<l.length):(eN l).getD i .nil=.str (ba l[i]):=aex _ l h
theorem kH(l:List Ac)(h:i<l.length):(lH l).getD i .nil=eA l[i]:=aex _ l h
theorem yZ(l:List Mv)(h:i<l.length):(D8 l).getD i .nil=eM l[i]:=aex _ l h
theorem oJ(l:List V3)(h:i<l.length):(dw l).getD i .nil=aQ l[i]:=aex _ l h
structure Small (p:Pg):Prop where
 names:p.names.length<=100
 homes:p.homes.length<=100
 acts:p.acts.length<=1000
 act:∀a∈p.acts,a.dG.length<=100/\a.name.length<=2000/\(-9223372036854775808<=a.len/\a.len<=9223372036854775807)
 name:∀g∈p.names,g.length<=2000
def jg(p:Pg):Nat->List V3
 |0=>p.homes
 |k+1=>((p.acts.getD k default).dG.map Mv.to)
theorem wP(p:Pg){k:Nat}(h:k<p.acts.length):p.acts.getD k default=p.acts[k]:=θ
theorem y8{n:Nat}(h:n<=2000):n<=maxLen:=by
 have:maxLen=9223372036854775807:=δ
 omega
def gv(t len:Int):List V3->List Mv->List PV
 |v::vs,m::ms=>.agg [.list true iV (eP (nR v m t len).1),Aw (nR v m t len).2]::gv t len vs ms
 |_,_=>[]
theorem cZ(i:Nat)(h:i<=1000000):IntKind.i64.wrap ((i:Int)+1)=((i+1:Nat):Int):=by rw[wrap_eq ω ω];omega
structure jd (X:Ext):Prop where
 c63:∀xs,xs.length<=100000->run tab X 63 [.p (.list true yM xs)] []=some ([.p (.list true yM xs)],[])
 c99:∀xs,xs.length<=100000->run tab X 99 [.p (.list false [.str] xs)] []=some ([.p (.list false [.str] xs)],[])
 c81:∀xs,xs.length<=100000->run tab X 81 [.p (.list true dW xs)] []=some ([.p (.list true dW xs)],[])
 c100:∀xs,xs.length<=100000->run tab X 100 [.p (.list true gY xs)] []=some ([.fresh true gY xs],[])
theorem aco(a b:List UInt8):(ba a==ba b)=decide (a=b):=by
 rw[Bool.eq_iff_iff,qDa];constructor
 .intro h;exact zC.1 (Jy h)
 .intro h;rw[h];exact En _
def sN(l:List (List UInt8)):List (PV × PV):=l.map λg=>(.str (ba g),.bool true)
def sH(l:List V3):List (PV × PV):=l.map λv=>(aQ v,.bool true)
@[simp] theorem akH(l:List (List UInt8)):(sN l).length=l.length:=by simp[sN]
@[simp] theorem akI(l:List V3):(sH l).length=l.length:=by simp[sH]
theorem aqi(a b:V3):TR tab 4 66 [Aw a.x,Aw a.y,Aw a.z] [Aw b.x,Aw b.y,Aw b.z]=some ((a.x==b.x)&&((a.y==b.y)&&((a.z==b.z)&&true))):=τ
theorem aaX(v:V3):∀l,∃o,fH tab 66 [Aw v.x,Aw v.y,Aw v.z] (sH l)=some o/\((v∈l/\∃i,o=some i/\i<l.length)\/(v ∉ l/\o=none))
 |[]=>⟨none,rfl,.inr ⟨σ,rfl⟩⟩
 |x::l=>by
  have a:fH tab 66 [.int .i64 v.x,.int .i64 v.y,.int .i64 v.z] (sH (x::l))=match TR tab 4 66 [.int .i64 v.x,.int .i64 v.y,.int .i64 v.z] [.int .i64 x.x,.int .i64 x.y,.int .i64 x.z]with
   |some true=>some (some 0)
   |some false=>(fH tab 66 [Aw v.x,Aw v.y,Aw v.z] (sH l)).map λi=>i.map (·+1)
   |none=>none:=rfl
  rw[a,aqi,eqV];by_cases e:v=x
  .grind
  .rw[decide_eq_false e];obtain⟨o,c,b⟩:=aaX v l;grind
theorem aqj:und tab 9=some .string:=τ
theorem aaY(g:List UInt8):∀l,∃o,bP tab 9 (.str (ba g)) (sN l)=some o/\((g∈l/\∃i,o=some i/\i<l.length)\/(g ∉ l/\o=none))
 |[]=>⟨none,rfl,.inr ⟨σ,rfl⟩⟩
 |x::l=>by
  have b:bP tab 9 (.str (ba g)) (sN (x::l))=match xR (und tab 9) (.str (ba g)) (.str (ba x))with
   |some true=>some (some 0)
   |some false=>(bP tab 9 (.str (ba g)) (sN l)).map λi=>i.map (·+1)
   |none=>none:=rfl
  have a:xR (und tab 9) (.str (ba g)) (.str (ba x))=some (decide (g=x)):=by rw[aqj,<-aco];rfl
  rw[b,a];by_cases e:g=x
  .grind
  .rw[decide_eq_false e];obtain⟨o,a,c⟩:=aaY g l;grind
theorem aqk(g:List UInt8)(a:List (PV × PV)):iq tab 9 (.str (ba g)) a=bP tab 9 (.str (ba g)) a:=by rfl
theorem alJ(v:V3)(a:List (PV × PV)):iq tab 66 (.agg [Aw v.x,Aw v.y,Aw v.z]) a=fH tab 66 [Aw v.x,Aw v.y,Aw v.z] a:=by rfl
theorem alK{l:List (List UInt8)}(h:i<l.length):lJ (.bool false) (sN l) (some i)=.bool true:=by show((sN l).getD i (.nil,.nil)).2=_;rw[qLb];simp[sN,h]
theorem alL{l:List V3}(h:i<l.length):lJ (.bool false) (sH l) (some i)=.bool true:=by show((sH l).getD i (.nil,.nil)).2=_;rw[qLb];simp[sH,h]
def Bg(sn:List (List UInt8))(sh:List V3):List (List UInt8)->List V3->Bool
 |g::gs,v::vs=>NZ g&&(!decide (g∈sn)&&(pt v&&(!decide (v∈sh)&&Bg (sn++[g]) (sh++[v]) gs vs)))
 |_,_=>true
def Em(p:Pg):Bool:=decide (1<=p.names.length)&&(decide (p.names.length<=64)&&(decide (p.homes.length=p.names.length)&&Bg [] [] p.names p.homes))
section
variable (X:Ext) (hX:Mine X)
include hX
theorem l39(a:List Mv)(g:a.length<=100):∀(k i:Nat) (b:List V3),i+k=a.length->b.length=i ->
    L tab (run tab X) 48 [] [.lp [1,1,1,0,1,0]] (Cc 0 b.length (D8 a) a.length i (dw b))=some ([.p (.list true dW (dw (b++(a.drop i).map Mv.to)))],[]):=by
  intro k;induction k with
  |zero=>intro i b hi e;refine dN ?_;rw[O6,aO,if_neg ω,show a.drop i=[] from List.drop_eq_nil_iff.2 ω,<-bI b,iT];simp
  |succ k d=>
   intro i b hi e;have c:i<a.length:=ω
   refine dN ?_;rw[O6];simp only[dH,aO,qIt,dL,yZ a c];rw[if_pos ω,if_pos ω,if_pos ω,if_pos ω,cZ i ω];have f:((dw b).drop 0).take b.length++([.agg [Aw ((eM a[i]).cell 0).toInt,Aw ((eM a[i]).cell 1).toInt,Aw ((eM a[i]).cell 2).toInt]]:List PV)=dw (b++[a[i].to]):=by rw[<-bI b,iT,<-MP];rfl
   rw[f];have:=d (i+1) (b++[a[i].to]) ω (by simp;omega);simp only[qLp,List.length_singleton]at this;rw[this,qLc c];simp only[List.map_cons,List.append_assoc,List.singleton_append]
theorem c48(b:jd X)(p:Pg)(hp:Small p)(k:Nat)(e:k<=p.acts.length):run tab X 48 [.p (eG p),Ab k] []=some ([.p (.list true dW (dw (jg p k)))],[]):=by
 refine aV (hX _ rfl) ?_;rw[eG,e48,rQ];cases k with
 |zero=>rw[if_pos (by simp),b.c81 _ (by rw[bI];have:=hp.homes;omega)];rfl
 |succ k=>
  have a:k<p.acts.length:=by omega
  have f:=hp.acts;obtain⟨c,_⟩:=hp.act p.acts[k] (List.getElem_mem a);rw[if_neg (by omega),wrap_eq (by omega) (by omega),show((k+1:Nat):Int)-1=(k:Int) by omega];simp only[dH,aO,qIt,bH,kH p.acts a];rw[if_pos (by omega),if_pos (by omega)];have d:((eA p.acts[k]).cell 2).toList=D8 p.acts[k].dG:=rfl;rw[d,dL];have:=l39 X hX p.acts[k].dG c p.acts[k].dG.length 0 [] (by omega) rfl;simp_all[jg]
theorem l17(p:Pg)(hp:Small p)(j:Nat)(d:j<p.acts.length):∀(k i:Nat) (a:List V3),i+k=p.acts[j].dG.length->a.length=i ->
    L tab (run tab X) 33 [] [.lp [1,1,1,0,1,0]] (BZ ((j+1:Nat):Int) 0 a.length i (eN p.names) (dw p.homes) (lH p.acts) (dw a))=some ([.fresh true dW (dw (a++(p.acts[j].dG.drop i).map Mv.to))],[]):=by
  have l:=hp.acts;obtain⟨m,_⟩:=hp.act p.acts[j] (List.getElem_mem d);have b:IntKind.i64.wrap (((j+1:Nat):Int)-1)=(j:Int):=by rw[wrap_eq ω ω];omega
  have e:((eA p.acts[j]).cell 2).toList=D8 p.acts[j].dG:=rfl;intro k;induction k with
  |zero=>intro i a hi g;refine dN ?_;rw[O5,b];simp only[dH,aO,qIt,bH,kH p.acts d,e,dL];rw[if_pos ω,if_pos ω,if_neg ω,show p.acts[j].dG.drop i=[] from List.drop_eq_nil_iff.2 ω,<-bI a,iT];simp
  |succ k f=>
   intro i a hi g;have c:i<p.acts[j].dG.length:=ω
   refine dN ?_;rw[O5,b];simp only[dH,aO,qIt,bH,kH p.acts d,e,dL,yZ p.acts[j].dG c];rw[if_pos ω,if_pos ω,if_pos ω,if_pos ω,if_pos ω,if_pos ω,if_pos ω,if_pos ω,cZ i ω];have h:((dw a).drop 0).take a.length++([.agg [Aw ((eM p.acts[j].dG[i]).cell 0).toInt,Aw ((eM p.acts[j].dG[i]).cell 1).toInt,Aw ((eM p.acts[j].dG[i]).cell 2).toInt]]:List PV)=dw (a++[p.acts[j].dG[i].to]):=by rw[<-bI a,iT,<-MP];rfl
   rw[h];have:=f (i+1) (a++[p.acts[j].dG[i].to]) ω (by simp;omega);simp only[qLp,List.length_singleton]at this;rw[this,qLc c];simp only[List.map_cons,List.append_assoc,List.singleton_append]
theorem c33(p:Pg)(hp:Small p)(k:Nat)(b:k<=p.acts.length):run tab X 33 [.p (eG p),Ab k] []=some ([.fresh true dW (dw (jg p k))],[]):=by
 refine aV (hX _ rfl) ?_;rw[eG,e33,rQ];cases k with
 |zero=>have c:=hp.homes;rw[if_pos σ,iT,aO,bI,if_pos ω];rfl
 |succ k=>
  have a:k<p.acts.length:=ω
  rw[if_neg ω];have:=l17 X hX p hp k a p.acts[k].dG.length 0 [] ω rfl;simp_all[jg]
theorem c46(p:Pg)(k t:Int):run tab X 46 [.p (eG p),Ab k,Ab t] []=some ([.p (.fn 79 [.ref [.list false [.str] (eN p.names),.list true dW (dw p.homes),.list true gY (lH p.acts)],.ref [Aw k],.ref [Aw t]])],[]):=
 aV (hX _ rfl) (by rw[eG,e46])
theorem l59(nm:ByteArray)(t len:Int)(b:List V3)(a:List Mv)(f:-9223372036854775808<=len/\len<=9223372036854775807)(l:b.length<=a.length)(j:a.length<=100):∀(k i:Nat) (ys:List PV),i+k=b.length ->
    L tab (run tab X) 79 [.log true []] [.lp [1,1,0]] (Cj t nm len (D8 a) (dw b) b.length i ys)=some ([],[.log true (ys++gv t len (b.drop i) (a.drop i))]):=by
  intro k;induction k with
  |zero=>intro i ys hi;refine dN ?_;rw[Pj,aO,if_neg ω,show b.drop i=[] from List.drop_eq_nil_iff.2 ω];simp[gv]
  |succ k e=>
   intro i ys hi;have c:i<b.length:=ω
   have d:i<a.length:=ω
   have h:(PV.agg [Aw ((aQ b[i]).cell 0).toInt,Aw ((aQ b[i]).cell 1).toInt,Aw ((aQ b[i]).cell 2).toInt])=aQ b[i]:=rfl;have g:(PV.agg [Aw ((eM a[i]).cell 0).toInt,Aw ((eM a[i]).cell 1).toInt,Aw ((eM a[i]).cell 2).toInt,Aw ((eM a[i]).cell 3).toInt,Aw ((eM a[i]).cell 4).toInt,Aw ((eM a[i]).cell 5).toInt])=eM a[i]:=rfl;refine dN ?_;rw[Pj];simp only[dH,aO,qIt,bI,dL,oJ b c,yZ a d,h,g];rw[if_pos ω,if_pos ω,if_pos ω,if_pos ω,if_pos ω,c80 X hX b[i] a[i] t len f];simp only[qOb,qLh,List.tail_cons,fK,bK,toInt_int,iT,fork];rw[cZ i ω,e (i+1) _ ω,qLc c,qLc d];simp[gv]
theorem aql(nm:ByteArray)(t len:Int)(a:List V3)(b:List Mv)(c:-9223372036854775808<=len/\len<=9223372036854775807)(d:a.length<=b.length)(e:b.length<=100) :
    L tab (run tab X) 79 [.log true []] [.lp [1,1,0]] (U3 t (dw a) a.length 0 [] nm len (D8 b))=some ([],[.log true (gv t len a b)]):=by
  refine dN ?_;rw[agp];cases a with
  |nil=>rfl
  |cons v a=>
   cases b with
   |nil=>simp at d
   |cons m b=>have h:(PV.agg [Aw ((aQ v).cell 0).toInt,Aw ((aQ v).cell 1).toInt,Aw ((aQ v).cell 2).toInt])=aQ v:=rfl;have g:(PV.agg [Aw ((eM m).cell 0).toInt,Aw ((eM m).cell 1).toInt,Aw ((eM m).cell 2).toInt,Aw ((eM m).cell 3).toInt,Aw ((eM m).cell 4).toInt,Aw ((eM m).cell 5).toInt])=eM m:=rfl;have e3:(dw (v::a)).getD (0:Int).toNat .nil=aQ v:=rfl;have f:(D8 (m::b)).getD (0:Int).toNat .nil=eM m:=rfl;simp only[dH,aO,bI,dL,e3,f,h,g];simp only[qLl]at d e ⊢;rw[if_pos ω,if_pos ω,if_pos ω,if_pos ω,if_pos ω,c80 X hX v m t len c];simp only[qOb,qLh,List.tail_cons,fK,bK,toInt_int,iT,fork];have:=l59 X hX nm t len (v::a) (m::b) c (by simp only[qLl];omega) (by simp only[qLl];omega) a.length 1 ([]++[.agg [.list true iV (eP (nR v m t len).1),Aw (nR v m t len).2]]) (by simp only[qLl];omega);rw[show IntKind.i64.wrap (0+1)=((1:Nat):Int) by decide];simp only[qLl]at this;rw[this];simp[gv]
theorem c79(d:jd X)(p:Pg)(hp:Small p)(k:Nat)(b:k<p.acts.length)(t:Int)(c:(jg p k).length<=p.acts[k].dG.length) :
    run tab X 79 [.AB,.p (.ref [.list false [.str] (eN p.names),.list true dW (dw p.homes),.list true gY (lH p.acts)]),.p (.ref [Aw k]),.p (.ref [Aw t])] [.log true []]=some ([],[.log true (gv t p.acts[k].len (jg p k) p.acts[k].dG)]):=by
  obtain⟨f,g,e⟩:=hp.act p.acts[k] (List.getElem_mem b);have a:=c48 X hX d p hp k ω;rw[eG]at a;refine aV (hX _ rfl) ?_;rw[e79];simp only[dH,aO,qIt,bH,kH p.acts b];rw[if_pos ω,if_pos ω,a];simp only[qOb,qLh,fK,uH,bI];exact aql X hX (ba p.acts[k].name) t p.acts[k].len (jg p k) p.acts[k].dG e c f
end
end
section
variable {i:Nat}{α:Type}
theorem agO(l:List (List UInt8))(h:i<l.length):sN (l.take i)++[(.str (ba l[i]),.bool true)]=sN (l.take (i+1)):=by rw[List.take_succ_eq_append_getElem h,sN,sN,List.map_append];rfl
theorem agP(l:List V3)(h:i<l.length):sH (l.take i)++[(aQ l[i],.bool true)]=sH (l.take (i+1)):=by rw[List.take_succ_eq_append_getElem h,sH,sH,List.map_append];rfl
theorem aey(l:List α)(x y:α):(l++[x]).set l.length y=l++[y]:=σ
def cntF(t len:Int):List V3->List Mv->List Int->Option (List Int)
 |v::vs,m::ms,c::cs=>if(nR v m t len).2=0 then(if c+(nR v m t len).1.length<=256 then(cntF t len vs ms cs).map ((c+(nR v m t len).1.length)::·)else none)else none
 |_,_,_=>some []
def Dw(n:Nat):Int->List V3->List Int->List Ac->Bool
 |_,_,_,[]=>true
 |t,fr,many,a::r=>NZ a.name&&(decide (1<=a.len)&&(decide (a.len<=3600000-t)&&(decide (a.dG.length=n)&&match cntF t a.len fr a.dG many with
  |some many'=>Dw n (t+a.len) (a.dG.map Mv.to) many' r
  |none=>false)))
def bU(p:Pg):Bool:=Em p&&(decide (p.acts.length<=60)&&Dw p.names.length 0 p.homes (List.replicate p.names.length 0) p.acts)
theorem Om(t len:Int):∀(vs:List V3) (b:List Mv) (cs a:List Int),vs.length=cs.length->b.length=cs.length->cntF t len vs b cs=some a->a.length=cs.length
 |[],b,[],a,_,_,h=>by cases b<;>(simp only[cntF,qOa]at h;subst h;rfl)
 |v::vs,m::b,c::cs,a,h1,h2,h=>by
  simp only[cntF]at h;split at h
  .split at h
   .obtain⟨w,d,rfl⟩:=Option.map_eq_some_iff.1 h;simp only[qLl,Nat.add_right_cancel_iff]at h1 h2;have:=Om t len vs b cs w h1 h2 d;simp[this]
   .cases h
  .cases h
 |[],[],_::_,_,h,_,_=>by simp at h
 |[],_::_,_::_,_,h,_,_=>by simp at h
 |_::_,[],_::_,_,_,h,_=>by simp at h
 |_::_,_,[],_,h,_,_=>by simp at h
theorem cnt_le(t len:Int):∀(vs:List V3) (b:List Mv) (cs a:List Int),(∀c∈cs,0<=c/\c<=256)->cntF t len vs b cs=some a->∀c∈a,0<=c/\c<=256
 |[],b,cs,a,_,h=>by cases b<;>(simp only[cntF,qOa]at h;subst h;simp)
 |v::vs,[],cs,a,_,h=>by simp only[cntF,qOa]at h;subst h;simp
 |v::vs,m::b,[],a,_,h=>by simp only[cntF,qOa]at h;subst h;simp
 |v::vs,m::b,c::cs,a,h1,h=>by
  simp only[cntF]at h;split at h
  .split at h
   .next h3=>obtain⟨w,e,rfl⟩:=Option.map_eq_some_iff.1 h;have:=cnt_le t len vs b cs w (λc d=>h1 c (by simp[d])) e;have d:=h1 c σ;grind
   .cases h
  .cases h
theorem XB{p:Pg}(h:Em p=true):1<=p.names.length/\p.names.length<=64/\p.homes.length=p.names.length:=by grind[Em]
theorem aaZ(l:List Int)(h:i<l.length):(encI l).getD i .nil=Aw l[i]:=aex _ l h
theorem XC(l:List Int)(i:Nat)(x:Int):(encI l).set i (Aw x)=encI (l.set i x):=by rw[encI,encI,List.map_set]
theorem XD(n:Nat):List.replicate n (Aw 0)=encI (List.replicate n 0):=by rw[encI,List.map_replicate]
theorem aa0(d:List α)(c x:α)(cs:List α):(d++c::cs).set d.length x=(d++[x])++cs:=σ
theorem aqm(X:Ext)(t len:Int)(f:List PV)(e d:Int)(A z y:List PV)(c1 I:Int)(b0 b1 u:List PV)(n:Nat)(J:n<=64)(q:ByteArray)(p:List PV):∀(vs:List V3) (b:List Mv) (cs a:List Int),vs.length=cs.length->b.length=cs.length->a.length+cs.length=n->(∀c∈cs,0<=c/\c<=256) ->
    L tab (run tab X) 13 [] [.lp [1,1,1,1,0,1,0],.rg [1,1,0,0,1,1,1,0,1,0] [(false,[.slice true iV]),(false,[.int .i64])] (gv t len vs b)] (fG t f e d A z y c1 I b0 b1 u false (encI (a++cs)) 0 n q len p a.length) =
     match cntF t len vs b cs with
     |some o=>L tab (run tab X) 13 [] [.lp [1,1,1,1,0,1,0]] (uz (IntKind.i64.wrap (t+len)) f e (IntKind.i64.wrap (d+1)) b0 b1 u false (encI (a++o)) 0 n)
     |none=>some ([Ai false],[]):=by
  intro vs;induction vs with
  |nil=>intro b cs a h j s h4;have:cs=[]:=List.length_eq_zero_iff.1 (by simpa using h.symm);subst this;rw[gv,xE,cntF];all_goals simp
  |cons v vs B=>
   intro b cs a h j s h4;cases cs with
   |nil=>simp at h
   |cons c cs=>
    cases b with
    |nil=>simp at j
    |cons m b=>
     simp only[qLl,Nat.add_right_cancel_iff]at h j s;have K:=h4 c σ;have hd:a.length<(a++c::cs).length:=σ
     have F:(a++c::cs)[a.length]=c:=σ
     have H:∀x:Int,(Aw x).cell 0=Aw x:=λ_=>rfl;have E:(nR v m t len).1.length<=5:=by unfold nR;have:=Je v m t len;grind
     have D:IntKind.i64.wrap (c+((nR v m t len).1.length:Int))=c+((nR v m t len).1.length:Int):=wrap_eq ω ω;have g:(encI (a++c::cs)).set a.length (Aw (c+((nR v m t len).1.length:Int)))=encI ((a++[c+((nR v m t len).1.length:Int)])++cs):=by rw[XC,aa0]
     have k:∀x:Int,(encI ((a++[x])++cs)).getD a.length .nil=Aw x:=λx=>by rw[aaZ _ σ];simp
     have l:(encI (a++c::cs)).getD a.length .nil=Aw c:=θ
     rw[gv,vU,cntF];simp only[dH,aO,xM,qIt,qNz,l,H,toInt_int,jM,D,g,k];rw[if_pos ω,if_pos ω,if_pos ω,if_pos ω];by_cases r:(nR v m t len).2=0
     .rw[if_pos r,if_pos r,if_pos ω,if_pos ω];by_cases G:c+((nR v m t len).1.length:Int)<=256
      .rw[if_neg ω,if_pos G,cZ _ ω];have:=B b cs (a++[c+((nR v m t len).1.length:Int)]) h j (by simp;omega) (λx C=>h4 x (by simp[C]));simp only[qLp,List.length_singleton]at this;rw[this];cases cntF t len vs b cs with
       |none=>rfl
       |some w=>simp
      grind
     grind
section
variable (X:Ext) (hX:Mine X)
include hX
theorem l36(p:Pg)(hp:Small p)(H:p.homes.length=p.names.length):∀(k i:Nat),i+k=p.names.length ->
    L tab (run tab X) 44 [] [.lp [1,1,1,1,0,1,0]] (yU (eN p.names) p.names.length i (eN p.names) (dw p.homes) (lH p.acts) (sN (p.names.take i)) (sH (p.homes.take i))) =
     some ([Ai (Bg (p.names.take i) (p.homes.take i) (p.names.drop i) (p.homes.drop i))],[]):=by
  have G:=hp.names;intro k;induction k with
  |zero=>intro i hi;refine dN ?_;rw[MF,aO,if_neg ω,show p.names.drop i=[] from List.drop_eq_nil_iff.2 ω];simp[Bg]
  |succ k t=>
   intro i hi;have c:i<p.names.length:=ω
   have m:i<p.homes.length:=ω
   have A:=hp.name p.names[i] (List.getElem_mem c);have F:(PV.str (ba p.names[i])).cell 0=.str (ba p.names[i]):=rfl;have E:(PV.str (ba p.names[i])).toStr=ba p.names[i]:=rfl;have e3:((aQ p.homes[i]).cell 0).toInt=p.homes[i].x:=rfl;have D:((aQ p.homes[i]).cell 1).toInt=p.homes[i].y:=rfl;have e5:((aQ p.homes[i]).cell 2).toInt=p.homes[i].z:=rfl;have B:(PV.agg [Aw p.homes[i].x,Aw p.homes[i].y,Aw p.homes[i].z])=aQ p.homes[i]:=rfl;obtain⟨o,w,f⟩:=aaY p.names[i] (p.names.take i);obtain⟨q,v,e⟩:=aaX p.homes[i] (p.homes.take i);have s:=c78 X hX p.homes[i];rw[aQ]at s;refine dN ?_;rw[MF,qLc c,qLc m,Bg];simp only[dH,aO,qIt,cu,bI,sF p.names c,oJ p.homes m,F,E,e3,D,e5,aqk,alJ,w,v];rw[if_pos ω,if_pos ω,if_pos ω,c45 X hX _ (y8 A)];simp only[qOb,qLh,fK,aJ,jL,Option.isSome_some,qCt,Option.getD_some];cases NZ p.names[i]with
   |false=>simp
   |true=>
    simp only[qCt,Bool.true_and];rcases f with⟨g,j,rfl,h⟩ |⟨g,rfl⟩
    .rw[alK (by simpa using h)];simp[g,kindOk]
    .have C:lJ (.bool false) (sN (p.names.take i)) none=.bool false:=rfl;rw[C];have b:kindOk .bool (.bool false)=true:=rfl;simp only[b,qCt,aJ,qCf,g,decide_false,qBf,Bool.true_and];rw[if_pos ω,if_pos ω,s];simp only[qOb,qLh,fK,aJ,jL];cases pt p.homes[i]with
     |false=>simp
     |true=>
      simp only[qCt,Bool.true_and];rw[if_pos ω,if_pos ω];rcases e with⟨a,j,rfl,h⟩ |⟨a,rfl⟩
      .rw[alL (by simpa using h)];simp[a,kindOk]
      .have n:lJ (.bool false) (sH (p.homes.take i)) none=.bool false:=rfl;rw[n];have r:(sH (p.homes.take i)).length=i:=by simp;omega
       simp only[b,qCt,aJ,qCf,a,decide_false,qBf,Bool.true_and,Option.getD_none,r,dA,B,qIt,leI,dM,ltN];rw[if_pos ω,if_pos ω];have u:((sH (p.homes.take i))++[(aQ p.homes[i],PV.bool false)]).length=i+1:=by simp;omega
       have l:((sH (p.homes.take i))++[(aQ p.homes[i],PV.bool false)]).getD i (.nil,.nil)=(aQ p.homes[i],PV.bool false):=by simp_all
       have d:((sH (p.homes.take i))++[(aQ p.homes[i],PV.bool false)]).set i (aQ p.homes[i],PV.bool true)=sH (p.homes.take (i+1)):=by have:=aey (sH (p.homes.take i)) (aQ p.homes[i],PV.bool false) (aQ p.homes[i],PV.bool true);rw[r]at this;rw[this,agP _ m]
       rw[u,l,d,agO _ c,if_pos ω,if_pos ω,cZ i ω,t (i+1) ω];simp
theorem c44(p:Pg)(hp:Small p):run tab X 44 [.p (eG p)] []=some ([Ai (Em p)],[]):=by
 refine aV (hX _ rfl) ?_;have b:=hp.names;have c:=hp.homes;rw[eG,e44];simp only[aO,xM,cu,bI];by_cases e:1<=p.names.length
 .rw[if_neg ω];by_cases d:p.names.length<=64
  .rw[if_neg ω];by_cases a:p.homes.length=p.names.length
   .rw[if_pos ω,show((0:Int))=((0:Nat):Int) from rfl];have:=l36 X hX p hp a p.names.length 0 ω;simp only[List.take_zero,qLy]at this;have g:([]:List (PV × PV))=sN []:=rfl;have f:([]:List (PV × PV))=sH []:=rfl;grind[Em]
   grind[Em]
  grind[Em]
 grind[Em]
theorem l10(E:jd X)(p:Pg)(hp:Small p):∀(k i:Nat) (t:Int) (d:List Int),i+k=p.acts.length->d.length=p.names.length->p.names.length<=64->(jg p i).length=p.names.length->(∀c∈d,0<=c/\c<=256)->0<=t->t<=3600000 ->
    L tab (run tab X) 13 [] [.lp [1,1,1,1,0,1,0]] (uz t (lH p.acts) p.acts.length i (eN p.names) (dw p.homes) (lH p.acts) false (encI d) 0 p.names.length) =
     some ([Ai (Dw p.names.length t (jg p i) d (p.acts.drop i))],[]):=by
  have N:=hp.acts;intro k;induction k with
  |zero=>intro i t d hi _ _ _ _ _ _;refine dN ?_;rw[MC,aO,if_neg ω,show p.acts.drop i=[] from List.drop_eq_nil_iff.2 ω];simp[Dw]
  |succ k A=>
   intro i t d hi K v M y D C;have e:i<p.acts.length:=ω
   obtain⟨q1,z,J⟩:=hp.act p.acts[i] (List.getElem_mem e);have I:((eA p.acts[i]).cell 0).toStr=ba p.acts[i].name:=rfl;have H:((eA p.acts[i]).cell 1).toInt=p.acts[i].len:=rfl;have e3:((eA p.acts[i]).cell 2).toList=D8 p.acts[i].dG:=rfl;have g:=c46 X hX p i t;rw[eG]at g;refine dN ?_;rw[MC,qLc e,Dw];simp only[dH,aO,xM,qIt,bH,kH p.acts e,I,H,e3,dL,cu];rw[if_pos ω,if_pos ω,if_pos ω,c45 X hX _ (y8 z)];simp only[qOb,qLh,fK,aJ,jL];cases NZ p.acts[i].name with
   |false=>simp
   |true=>
    simp only[qCt,Bool.true_and];by_cases G:1<=p.acts[i].len
    .rw[if_neg ω,wrap_eq ω ω];by_cases F:p.acts[i].len<=3600000-t
     .rw[if_neg ω];by_cases O:p.acts[i].dG.length=p.names.length
      .rw[if_pos ω,g];simp only[qOb,qLh,fK];have r:((PV.fn 79 [.ref [.list false [.str] (eN p.names),.list true dW (dw p.homes),.list true gY (lH p.acts)],.ref [Aw (i:Int)],.ref [Aw t]]).cap 0)=.ref [.list false [.str] (eN p.names),.list true dW (dw p.homes),.list true gY (lH p.acts)]:=rfl;have q:((PV.fn 79 [.ref [.list false [.str] (eN p.names),.list true dW (dw p.homes),.list true gY (lH p.acts)],.ref [Aw (i:Int)],.ref [Aw t]]).cap 1)=.ref [Aw (i:Int)]:=rfl;have o:((PV.fn 79 [.ref [.list false [.str] (eN p.names),.list true dW (dw p.homes),.list true gY (lH p.acts)],.ref [Aw (i:Int)],.ref [Aw t]]).cap 2)=.ref [Aw t]:=rfl;have n:∀a b c:PV,(PV.ref [a,b,c]).nP 0=a:=λ_ _ _=>rfl;have m:∀a b c:PV,(PV.ref [a,b,c]).nP 1=b:=λ_ _ _=>rfl;have l:∀a b c:PV,(PV.ref [a,b,c]).nP 2=c:=λ_ _ _=>rfl;have j:∀a:PV,(PV.ref [a]).nP 0=a:=λ_=>rfl;simp only[r,q,o,n,m,l,j,uH,toInt_int];rw[c79 X hX E p hp i e t ω];simp only[qOb];have s:rP [aH.log true (gv t p.acts[i].len (jg p i) p.acts[i].dG)]=gv t p.acts[i].len (jg p i) p.acts[i].dG:=rfl;rw[s];have:=aqm X t p.acts[i].len (lH p.acts) p.acts.length i (eN p.names) (dw p.homes) (lH p.acts) i t (eN p.names) (dw p.homes) (lH p.acts) p.names.length v (ba p.acts[i].name) (D8 p.acts[i].dG) (jg p i) p.acts[i].dG d [] ω ω (by simp;omega) y;refine(show L tab (run tab X) 13 [] [.lp [1,1,1,1,0,1,0],.rg [1,1,0,0,1,1,1,0,1,0] [(false,[.slice true iV]),(false,[.int .i64])] (gv t p.acts[i].len (jg p i) p.acts[i].dG)] (fG t (lH p.acts) p.acts.length i (eN p.names) (dw p.homes) (lH p.acts) i t (eN p.names) (dw p.homes) (lH p.acts) false (encI ([]++d)) 0 p.names.length (ba p.acts[i].name) p.acts[i].len (D8 p.acts[i].dG) ((List.length ([]:List Int):Nat):Int))=_ from this).trans ?_;have f:jg p (i+1)=p.acts[i].dG.map Mv.to:=by rw[jg,wP p e]
       cases u:cntF t p.acts[i].len (jg p i) p.acts[i].dG d with
       |none=>simp[G,F]
       |some w=>have B:=Om _ _ _ _ _ _ ω ω u;have h:=cnt_le _ _ _ _ _ _ y u;simp only[List.nil_append];rw[wrap_eq (x:=t+p.acts[i].len) ω ω,cZ i ω,A (i+1) (t+p.acts[i].len) w ω ω v (by rw[f];simp;omega) h ω ω,f];grind
      grind
     grind
    grind
theorem c13(d:jd X)(p:Pg)(hp:Small p):run tab X 13 [.p (eG p)] []=some ([Ai (bU p)],[]):=by
 refine aV (hX _ rfl) ?_;have a:=c44 X hX p hp;rw[eG]at a;rw[eG,e13,a];simp only[qOb,qLh,fK,aJ,jL,aO,dH,bH,cu];rw[bU];cases b:Em p with
 |false=>simp
 |true=>
  obtain⟨g,f,e⟩:=XB b;simp only[qCt,Bool.true_and];by_cases h4:p.acts.length<=60
  .rw[if_neg ω,if_pos ω,if_pos ω,if_pos ω,qIt,XD];have:=l10 X hX d p hp p.acts.length 0 0 (List.replicate p.names.length 0) ω σ f e (by intro c b;rw[List.mem_replicate]at b;omega) ω ω;grind[jg]
  grind
end
end
end Go.Skm.Prg
