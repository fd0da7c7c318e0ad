import Derived.Test.YtpjaaamhnghloaaGreatDoorP6
set_option linter.all false
namespace Go.Skm.Prg
open Go Go.Skm
section
def frB{α:Type}[DecidableEq α](x:α):List α->Bool
 |[]=>true
 |y::l=>!decide (y=x)&&frB x l
theorem XE{α:Type}[DecidableEq α](x:α)(l:List α){k:Nat}(h:k<l.length):frB x (l.drop k)=(!decide (l[k]=x)&&frB x (l.drop (k+1))):=by rw[qLc h,frB]
theorem Jz{α:Type}[DecidableEq α](x:α):∀l:List α,frB x l=true↔x ∉ l
 |[]=>by simp[frB]
 |y::l=>by rw[frB,qBa,Jz x l];grind
theorem WZ(a:V3)(m:Mv)(t len:Int)(b:pt a=true)(c:1<=len)(g:0<=t)(f:t+len<=3600000) :
    nR a m t len=if mQ a m len=true then(uq a m t len,0)else([],2):=by
  have e:AZ len=true:=jP.2 ⟨ω,ω⟩;have d:AZ t=true:=jP.2 ⟨ω,ω⟩;have e3:AZ (t+len)=true:=jP.2 ⟨ω,ω⟩;rw[nR,b,e,d,e3,decide_eq_true c];simp
theorem acp{a:V3}{m:Mv}{len:Int}(h:mQ a m len=true):pt m.to=true:=by unfold mQ at h;grind
theorem aeA(t len:Int):∀(vs:List V3) (b:List Mv) (cs a:List Int),vs.length=cs.length->b.length=cs.length->cntF t len vs b cs=some a->∀w∈b.map Mv.to,pt w=true
 |[],b,[],a,_,h2,_=>θ
 |v::vs,m::b,c::cs,a,h1,h2,h=>by
  simp only[cntF]at h;split at h
  .next h0=>
   split at h
   .obtain⟨w,e,rfl⟩:=Option.map_eq_some_iff.1 h;simp only[qLl,Nat.add_right_cancel_iff]at h1 h2;have f:=aeA t len vs b cs w h1 h2 e;intro x d;simp only[List.map_cons,List.mem_cons]at d;rcases d with rfl |d
    .unfold nR at h0;split at h0
     .next h5=>simp only[qBa]at h5;exact acp h5.2.2.2.2
     .simp at h0
    grind
   .cases h
  .cases h
 |[],_,_::_,_,h,_,_=>by simp at h
 |_::_,[],_::_,_,_,h,_=>by simp at h
 |_::_,_,[],_,h,_,_=>by simp at h
theorem XF:∀(c:List (List UInt8)) (vs:List V3) (a:List (List UInt8)) (b:List V3),vs.length=c.length->Bg a b c vs=true->∀v∈vs,pt v=true
 |[],[],_,_,_,_=>σ
 |g::c,v::vs,a,b,h,hc=>by
  simp only[Bg,qBa]at hc;simp only[qLl,Nat.add_right_cancel_iff]at h;intro w d;rcases List.mem_cons.1 d with rfl |d
  .grind
  .exact XF c vs _ _ h hc.2.2.2.2 w d
 |[],_::_,_,_,h,_=>by simp at h
 |_::_,[],_,_,h,_=>by simp at h
section
variable (X:Ext) (hX:Mine X)
include hX
theorem aqn(p:Pg)(hp:Small p)(u:p.homes.length=p.names.length)(i:Nat)(hi:i<p.names.length)(r:List AV × List aH):∀(k j:Nat),j+k=i ->
    (if (frB p.names[i] ((p.names.take i).drop j) && frB (p.homes[i]'ω) ((p.homes.take i).drop j))=true then
        L tab (run tab X) 8 [] [.lp [1,1,1,0,1,0]] (wQ p.names.length ((i+1:Nat):Int) (eN p.names) (dw p.homes) (lH p.acts))else some ([Ai false],[]))=some r ->
    L tab (run tab X) 8 [] [.lp [1,1,1,0,1,0],.lp [1,0,0,1,1,0]] (kP p.names.length i j (eN p.names) (dw p.homes) (lH p.acts))=some r:=by
  have t:=hp.names;have b:i<p.homes.length:=ω
  intro k;induction k with
  |zero=>intro j h a;refine dN ?_;rw[<-a];rw[Aq,aO,if_neg ω,cZ i ω,show(p.names.take i).drop j=[] from List.drop_eq_nil_iff.2 (by simp;omega),show(p.homes.take i).drop j=[] from List.drop_eq_nil_iff.2 (by simp;omega)];simp[frB]
  |succ k f=>
   intro j h a;have n:j<p.names.length:=ω
   have m:j<p.homes.length:=ω
   have s:∀x:List UInt8,(PV.str (ba x)).cell 0=.str (ba x):=λ_=>rfl;have q:∀x:List UInt8,(PV.str (ba x)).toStr=ba x:=λ_=>rfl;have e3:∀v:V3,((aQ v).cell 0).toInt=v.x:=λ_=>rfl;have o:∀v:V3,((aQ v).cell 1).toInt=v.y:=λ_=>rfl;have e5:∀v:V3,((aQ v).cell 2).toInt=v.z:=λ_=>rfl;have d:j<(p.names.take i).length:=by simp;omega
   have c:j<(p.homes.take i).length:=by simp;omega
   rw[XE _ _ d,XE _ _ c,List.getElem_take,List.getElem_take]at a;refine dN ?_;rw[<-a,Aq];simp only[dH,aO,qIt,cu,bI,sF p.names n,sF p.names hi,oJ p.homes m,oJ p.homes b,s,q,e3,o,e5];rw[if_pos ω,if_pos ω,if_pos ω,if_pos ω,if_pos ω];have l:((ba p.names[j]).toList==(ba p.names[i]).toList)=decide (p.names[j]=p.names[i]):=by simp[KX,zC]
   rw[l,aO];by_cases q1:p.names[j]=p.names[i]
   .grind
   .rw[if_neg q1,if_pos ω,if_pos ω,if_pos ω,if_pos ω];have g:=@eqV p.homes[j] p.homes[i];simp only[<-dH];rw[g,aO];by_cases e:p.homes[j]=p.homes[i]
    .grind
    .rw[if_neg e,cZ j ω,a];refine f (j+1) ω ?_;simp_all
theorem aqo(p:Pg)(hp:Small p)(j:p.homes.length=p.names.length)(r:List AV × List aH):∀(k i:Nat),i+k=p.names.length ->
    (if Bg (p.names.take i) (p.homes.take i) (p.names.drop i) (p.homes.drop i)=true then
        L tab (run tab X) 8 [] [.lp [1,1,1,1,1,1,0,1,0]] (oI p.names.length 0 0 p.names.length 0 (eN p.names) (dw p.homes) (lH p.acts) (encI (List.replicate p.names.length 0)))else some ([Ai false],[]))=some r ->
    L tab (run tab X) 8 [] [.lp [1,1,1,0,1,0]] (wQ p.names.length i (eN p.names) (dw p.homes) (lH p.acts))=some r:=by
  have q:=hp.names;intro k;induction k with
  |zero=>intro i hi a;refine dN ?_;rw[<-a];rw[SX];simp only[aO,dH,qIt,XD];grind[Bg]
  |succ k f=>
   intro i hi a;have b:i<p.names.length:=ω
   have d:i<p.homes.length:=ω
   have l:=hp.name p.names[i] (List.getElem_mem b);have o:(PV.str (ba p.names[i])).cell 0=.str (ba p.names[i]):=rfl;have n:(PV.str (ba p.names[i])).toStr=ba p.names[i]:=rfl;have e3:((aQ p.homes[i]).cell 0).toInt=p.homes[i].x:=rfl;have m:((aQ p.homes[i]).cell 1).toInt=p.homes[i].y:=rfl;have e5:((aQ p.homes[i]).cell 2).toInt=p.homes[i].z:=rfl;have c:=c32 X hX p.homes[i];rw[aQ]at c;rw[qLc b,qLc d,Bg]at a;refine dN ?_;rw[<-a,SX];simp only[dH,aO,qIt,cu,bI,sF p.names b,oJ p.homes d,o,n,e3,m,e5];rw[if_pos ω,if_pos ω,if_pos ω,c31 X hX _ (y8 l)];simp only[qOb,qLh,fK,aJ,jL];cases h:NZ p.names[i]with
   |false=>simp
   |true=>
    rw[h]at a;simp only[qCt,Bool.true_and];rw[if_pos ω,if_pos ω,c];simp only[qOb,qLh,fK,aJ,jL];cases g:pt p.homes[i]with
    |false=>simp
    |true=>
     rw[g]at a;simp only[qCt,Bool.true_and];simp only[Bool.true_and]at a;rw[a];refine(show L tab (run tab X) 8 [] [.lp [1,1,1,0,1,0],.lp [1,0,0,1,1,0]] (kP p.names.length i (0:Nat) (eN p.names) (dw p.homes) (lH p.acts))=_ from aqn X hX p hp j i b r i 0 ω ?_);simp only[qLy];by_cases q1:p.names[i]∈p.names.take i
     .simp_all[qBa,Jz]
     .by_cases e:p.homes[i]∈p.homes.take i
      .simp_all[qBa,Jz]
      .rw[(Jz _ _).2 q1,(Jz _ _).2 e,qBs,if_pos rfl];refine f (i+1) ω ?_;simp_all
theorem aqp(p:Pg)(n:Nat)(Q:n<=64)(t len:Int)(D:0<=t)(J:1<=len)(B:t+len<=3600000)(a':Int)(u:ByteArray)(d:List V3)(b:List Mv)(M:d.length=n)(I:b.length=n)(j:∀v∈d,pt v=true)(r:List AV × List aH):∀(k i:Nat) (cs a:List Int),i+k=n->a.length=i->cs.length=k->(∀c∈cs,0<=c/\c<=256) ->
    ((cntF t len (d.drop i) (b.drop i) cs).elim (some ([Ai false],[])) λs=>L tab (run tab X) 8 [] [.lp [1,1,1,1,1,1,0,1,0]] (oI n (IntKind.i64.wrap (t+len)) 0 n (IntKind.i64.wrap (a'+1)) (eN p.names) (dw p.homes) (lH p.acts) (encI (a++s))))=some r ->
    L tab (run tab X) 8 [] [.lp [1,1,1,1,1,1,0,1,0],.lp [1,0,0,1,1,1,0,1,0]] (ig n t 0 n a' 0 n i (eN p.names) (dw p.homes) (lH p.acts) (encI (a++cs)) u len (D8 b) (dw d))=some r:=by
  intro k;induction k with
  |zero=>intro i cs a hi hd h h4 e;have:cs=[]:=List.length_eq_zero_iff.1 h;subst this;refine dN ?_;rw[<-e,qO,aO,if_neg ω,show d.drop i=[] from List.drop_eq_nil_iff.2 ω,cntF];all_goals simp
  |succ k G=>
   intro i cs a hi hd h h4 e;cases cs with
   |nil=>simp at h
   |cons c cs=>
    subst hd;have q:a.length<d.length:=ω
    have E:a.length<b.length:=ω
    simp only[qLl,Nat.add_right_cancel_iff]at h;have O:=h4 c σ;have f:=j d[a.length] (List.getElem_mem q);have N:a.length<(a++c::cs).length:=σ
    have K:(a++c::cs)[a.length]=c:=σ
    have F:∀x:Int,(Aw x).cell 0=Aw x:=λ_=>rfl;have H:∀x:Nat,x<=5->IntKind.i64.wrap (c+(x:Int))=c+(x:Int):=λx z=>wrap_eq ω ω;have g:∀y:Int,(encI (a++c::cs)).set a.length (Aw y)=encI ((a++[y])++cs):=λy=>by rw[XC,aa0]
    have m:∀x:Int,(encI ((a++[x])++cs)).getD a.length .nil=Aw x:=λx=>by rw[aaZ _ σ];simp
    have o:(encI (a++c::cs)).getD a.length .nil=Aw c:=by simp_all
    have P:(PV.agg [Aw ((aQ d[a.length]).cell 0).toInt,Aw ((aQ d[a.length]).cell 1).toInt,Aw ((aQ d[a.length]).cell 2).toInt])=aQ d[a.length]:=rfl;have em:(PV.agg [Aw ((eM b[a.length]).cell 0).toInt,Aw ((eM b[a.length]).cell 1).toInt,Aw ((eM b[a.length]).cell 2).toInt,Aw ((eM b[a.length]).cell 3).toInt,Aw ((eM b[a.length]).cell 4).toInt,Aw ((eM b[a.length]).cell 5).toInt])=eM b[a.length]:=rfl;rw[qLc q,qLc E,cntF,WZ _ _ _ _ f J D B]at e;refine dN ?_;rw[<-e,qO];simp only[dH,aO,qIt,qNz,oJ d q,yZ b E,P,em,dL,o,F,toInt_int];rw[if_pos ω,if_pos ω,if_pos ω,if_pos ω,if_pos ω,c34 X hX _ _ _ f];simp only[qOb,qLh,fK,aJ,jL];cases A:mQ d[a.length] b[a.length] len with
    |false=>simp
    |true=>
     have l:=Je d[a.length] b[a.length] t len;simp only[qCt,if_true];rw[if_pos ω,if_pos ω,if_pos ω,if_pos ω,if_pos ω,if_pos ω,c35 X hX _ _ _ _ f A D B];simp only[qOb,qLh,bK,jM,H _ l,g,m,F,toInt_int];rw[if_pos ω,if_pos ω,if_pos ω,if_pos ω];by_cases C:c+((uq d[a.length] b[a.length] t len).length:Int)<=256
     .rw[if_neg ω,if_pos C,cZ _ ω];have:=G (a.length+1) cs (a++[c+((uq d[a.length] b[a.length] t len).length:Int)]) ω σ ω (λx z=>h4 x (by simp[z]));rw[A,if_pos rfl,if_pos rfl,if_pos C]at e;rw[e];refine this ?_;rw[<-e];cases cntF t len (d.drop (a.length+1)) (b.drop (a.length+1)) cs with
      |none=>rfl
      |some w=>simp
     grind
theorem l15(p:Pg)(hp:Small p):∀(k i:Nat) (t:Int) (a:List Int),i+k=p.acts.length->a.length=p.names.length->p.names.length<=64->(jg p i).length=p.names.length->(∀v∈jg p i,pt v=true)->(∀c∈a,0<=c/\c<=256)->0<=t->t<=3600000 ->
    L tab (run tab X) 8 [] [.lp [1,1,1,1,1,1,0,1,0]] (oI p.names.length t 0 p.names.length i (eN p.names) (dw p.homes) (lH p.acts) (encI a)) =
     some ([Ai (Dw p.names.length t (jg p i) a (p.acts.drop i))],[]):=by
  have F:=hp.acts;intro k;induction k with
  |zero=>intro i t a hi _ _ _ _ _ _ _;refine dN ?_;rw[Ji,aO,bH,if_neg ω,show p.acts.drop i=[] from List.drop_eq_nil_iff.2 ω];simp[Dw]
  |succ k s=>
   intro i t a hi z m n l o h y;have b:i<p.acts.length:=ω
   obtain⟨q1,r,E⟩:=hp.act p.acts[i] (List.getElem_mem b);have D:((eA p.acts[i]).cell 0).toStr=ba p.acts[i].name:=rfl;have C:((eA p.acts[i]).cell 1).toInt=p.acts[i].len:=rfl;have e3:((eA p.acts[i]).cell 2).toList=D8 p.acts[i].dG:=rfl;have e:=c33 X hX p hp i ω;rw[eG]at e;refine dN ?_;rw[Ji,qLc b,Dw];simp only[dH,aO,xM,qIt,bH,kH p.acts b,D,C,e3,dL];rw[if_pos ω,if_pos ω,if_pos ω,c31 X hX _ (y8 r)];simp only[qOb,qLh,fK,aJ,jL];cases NZ p.acts[i].name with
   |false=>simp
   |true=>
    simp only[qCt,Bool.true_and];by_cases q:1<=p.acts[i].len
    .rw[if_neg ω,wrap_eq ω ω];by_cases B:p.acts[i].len<=3600000-t
     .rw[if_neg ω];by_cases A:p.acts[i].dG.length=p.names.length
      .rw[if_pos ω,e];simp only[qOb,qLh,bK,bI];have d:jg p (i+1)=p.acts[i].dG.map Mv.to:=by rw[jg,wP p b]
       rw[n];refine(show L tab (run tab X) 8 [] [.lp [1,1,1,1,1,1,0,1,0],.lp [1,0,0,1,1,1,0,1,0]] (ig p.names.length t 0 p.names.length i 0 p.names.length (0:Nat) (eN p.names) (dw p.homes) (lH p.acts) (encI ([]++a)) (ba p.acts[i].name) p.acts[i].len (D8 p.acts[i].dG) (dw (jg p i)))=_ from aqp X hX p p.names.length m t p.acts[i].len h q ω i (ba p.acts[i].name) (jg p i) p.acts[i].dG n A l _ p.names.length 0 a [] ω rfl z o ?_);simp only[qLy];cases j:cntF t p.acts[i].len (jg p i) p.acts[i].dG a with
       |none=>simp[q,B]
       |some w=>have u:=Om _ _ _ _ _ _ ω ω j;have g:=cnt_le _ _ _ _ _ _ o j;have f:=aeA _ _ _ _ _ _ ω ω j;simp only[List.nil_append,Option.elim_some];rw[wrap_eq (x:=t+p.acts[i].len) ω ω,cZ i ω,s (i+1) (t+p.acts[i].len) w ω ω m (by rw[d];simp;omega) (by rw[d];exact f) g ω ω,d];grind
      grind
     grind
    grind
theorem c8(p:Pg)(hp:Small p):run tab X 8 [.p (eG p)] []=some ([Ai (bU p)],[]):=by
 refine aV (hX _ rfl) ?_;have f:=hp.names;have g:=hp.homes;rw[eG,e8];simp only[aO,xM,cu,bI,bH];rw[bU,Em];by_cases h:1<=p.names.length
 .rw[if_neg ω];by_cases e:p.names.length<=64
  .rw[if_neg ω];by_cases d:p.homes.length=p.names.length
   .rw[if_pos ω];by_cases h4:p.acts.length<=60
    .rw[if_neg ω];refine(show L tab (run tab X) 8 [] [.lp [1,1,1,0,1,0]] (wQ p.names.length (0:Nat) (eN p.names) (dw p.homes) (lH p.acts))=_ from aqo X hX p hp d _ p.names.length 0 ω ?_);simp only[List.take_zero,qLy];cases b:Bg [] [] p.names p.homes with
     |false=>simp
     |true=>rw[if_pos rfl];have a:=XF _ _ _ _ ω b;have:=l15 X hX p hp p.acts.length 0 0 (List.replicate p.names.length 0) ω σ e d a (by intro c b;rw[List.mem_replicate]at b;omega) ω ω;grind[jg]
    grind
   grind
  grind
 grind
end
end
section
structure Fits (p:Pg):Prop where
 names:p.names.length<=9223372036854775807
 homes:p.homes.length<=9223372036854775807
 acts:p.acts.length<=9223372036854775807
 len:∀a∈p.acts,-9223372036854775808<=a.len/\a.len<=9223372036854775807
def XG(p:Pg)(n m:Nat):Bool:=decide (p.names.length<=n)&&(decide (p.homes.length<=n)&&(decide (p.acts.length<=m)&&(p.names.all (λg=>decide (g.length<=60))&&p.acts.all λa=>decide (a.name.length<=60)&&decide (a.dG.length<=n+2))))
theorem acr{p:Pg}{n m:Nat}(e:n<=98)(f:m<=100)(d:Fits p)(h:XG p n m=true):Small p:=by simp only[XG,qBa,qDa,List.all_eq_true]at h;obtain⟨k,j,i,h4,h5⟩:=h;exact⟨ω,ω,ω,λa b=>⟨by have:=(h5 a b).2;omega,by have:=(h5 a b).1;omega,d.len a b⟩,λg c=>by have:=h4 g c;omega⟩
def jI:List Ac->Int
 |[]=>0
 |a::r=>a.len+jI r
def Ij(p:Pg):Int:=jI p.acts
theorem XH(n:Nat):∀(c:List Ac) (t:Int) (fr:List V3) (b:List Int),t<=3600000->Dw n t fr b c=true->(∀a∈c,NZ a.name=true/\1<=a.len/\a.dG.length=n)/\t+jI c<=3600000
 |[],t,fr,b,ht,_=>⟨σ,by simp[jI,ht]⟩
 |a::r,t,fr,b,ht,h=>by
  simp only[Dw,qBa,qDa]at h;obtain⟨j,i,g,h4,h5⟩:=h;cases d:cntF t a.len fr a.dG b with
  |none=>rw[d]at h5;cases h5
  |some w=>rw[d]at h5;obtain⟨f,e⟩:=XH n r _ _ _ ω h5;grind[jI]
theorem um{p:Pg}(h:bU p=true):(1<=p.names.length/\p.names.length<=64/\p.homes.length=p.names.length)/\p.acts.length<=60/\(∀a∈p.acts,NZ a.name=true/\1<=a.len/\a.dG.length=p.names.length)/\Ij p<=3600000:=by simp only[bU,qBa,qDa]at h;obtain⟨d,c,b⟩:=h;obtain⟨h4,h5⟩:=XH _ _ _ _ _ ω b;exact⟨XB d,c,h4,by rw[Ij];omega⟩
theorem uM:∀c:List Ac,(∀a∈c,1<=a.len)->(c.length:Int)<=jI c
 |[],_=>by simp[jI]
 |a::r,h=>by have:=uM r (λb d=>h b (by simp[d]));grind[jI,qLl]
theorem KZ(a:List Ac){i:Nat}(h:i<a.length):jI (a.drop i)=a[i].len+jI (a.drop (i+1)):=by rw[qLc h,jI]
def MN(p:Pg)(k:Int):List V3 × Int:=if bU p then(if 0<=k/\k<=p.acts.length then(jg p k.toNat,0)else([],3))else([],2)
def N7(t:Int):Nat->Int->List Ac->Int × Int × Int
 |_,_,[]=>(0,0,3)
 |k,f,[a]=>if t<=f+a.len then(k,f,0)else(0,0,3)
 |k,f,a::b::r=>if t<f+a.len then(k,f,0)else N7 t (k+1) (f+a.len) (b::r)
def ach(p:Pg)(t:Int):Int × Int × Int:=if bU p then(if 0<=t then N7 t 0 0 p.acts else(0,0,3))else(0,0,2)
def acs(g:List UInt8):Nat->List (List UInt8)->Int
 |_,[]=>-1
 |i,x::r=>if x=g then(i:Int)else acs g (i+1) r
def aaU(p:Pg)(g:List UInt8):Int × Int:=if bU p then(if acs g 0 p.names<0 then(0,9)else(acs g 0 p.names,0))else(0,2)
theorem XI(t:Int):∀(e:List Ac) (k:Nat) (f:Int),(∀a∈e,1<=a.len)->f+jI e<t->N7 t k f e=(0,0,3)
 |[],_,_,_,_=>rfl
 |[a],k,f,h,ht=>by grind[jI,N7]
 |a::b::r,k,f,h,ht=>by have g:=uM (b::r) (λc d=>h c (by simp only[List.mem_cons]at d ⊢;exact .inr d));have i:jI (a::b::r)=a.len+jI (b::r):=rfl;simp only[qLl]at g;rw[N7,if_neg ω];exact XI t (b::r) (k+1) (f+a.len) (λc d=>h c (by simp only[List.mem_cons]at d ⊢;exact .inr d)) ω
section
variable (X:Ext) (hX:Mine X)
include hX
theorem aqr(p:Pg)(d:Fits p)(n:Nat)(h:n<=1000):∀(k i:Nat),i+k=p.acts.length ->
    L tab (run tab X) 5 [] [.lp [1,1,1,0,1,0]] (Fz n i (eN p.names) (dw p.homes) (lH p.acts))=some ([Ai ((p.acts.drop i).all λa=>decide (a.name.length<=60)&&decide (a.dG.length<=n+2))],[]):=by
  have j:=d.acts;intro k;induction k with
  |zero=>intro i hi;refine dN ?_;rw[SV,aO,bH,if_neg (by omega),show p.acts.drop i=[] from List.drop_eq_nil_iff.2 (by omega)];simp
  |succ k c=>
   intro i hi;have b:i<p.acts.length:=by omega
   have g:((eA p.acts[i]).cell 0).toStr=ba p.acts[i].name:=rfl;have e3:((eA p.acts[i]).cell 2).toList=D8 p.acts[i].dG:=rfl;refine dN ?_;rw[SV,qLc b];simp only[dH,aO,qIt,bH,kH p.acts b,g,e3,dL,bZ,List.all_cons];rw[if_pos (by omega),if_pos (by omega),if_pos (by omega)];by_cases f:p.acts[i].name.length<=60
   .rw[if_neg (by omega),if_pos (by omega),if_pos (by omega),wrap_eq (by omega) (by omega)];by_cases e:p.acts[i].dG.length<=n+2
    .rw[if_neg (by omega),wrap_eq (by omega) (by omega),show(i:Int)+1=((i+1:Nat):Int) by omega,c (i+1) (by omega)];simp[f,e]
    grind
   grind
theorem aqs(p:Pg)(c:Fits p)(n:Nat)(e:n<=1000):∀(k i:Nat),i+k=p.names.length ->
    L tab (run tab X) 5 [] [.lp [1,1,0,1,0]] (Jh n i (eN p.names) (dw p.homes) (lH p.acts))=some ([Ai ((p.names.drop i).all (λg=>decide (g.length<=60))&&p.acts.all λa=>decide (a.name.length<=60)&&decide (a.dG.length<=n+2))],[]):=by
  have j:=c.names;intro k;induction k with
  |zero=>intro i hi;refine dN ?_;rw[Xc,aO,cu,if_neg (by omega),show p.names.drop i=[] from List.drop_eq_nil_iff.2 (by omega)];have:=aqr X hX p c n e p.acts.length 0 (by omega);grind
  |succ k d=>
   intro i hi;have b:i<p.names.length:=by omega
   have h:((PV.str (ba p.names[i])).cell 0).toStr=ba p.names[i]:=rfl;refine dN ?_;rw[Xc,qLc b];simp only[dH,aO,qIt,cu,sF p.names b,h,bZ,List.all_cons];rw[if_pos (by omega),if_pos (by omega),if_pos (by omega)];by_cases f:p.names[i].length<=60
   .rw[if_neg (by omega),wrap_eq (by omega) (by omega),show(i:Int)+1=((i+1:Nat):Int) by omega,d (i+1) (by omega)];simp[f]
   grind
theorem c5(p:Pg)(b:Fits p)(n m:Nat)(a:n<=1000):run tab X 5 [.p (eG p),Ab n,Ab m] []=some ([Ai (XG p n m)],[]):=by
 refine aV (hX _ rfl) ?_;rw[eG,e5];simp only[aO,cu,bI,bH];by_cases e:p.names.length<=n
 .rw[if_neg ω];by_cases d:p.homes.length<=n
  .rw[if_neg ω];by_cases c:p.acts.length<=m
   .rw[if_neg ω];have:=aqs X hX p b n a p.names.length 0 ω;grind[XG]
   grind[XG]
  grind[XG]
 grind[XG]
theorem c16(c:jd X)(p:Pg)(hp:Small p)(k:Int):run tab X 16 [.p (eG p),Ab k] []=some ([.p (.list true dW (dw (MN p k).1)),Ab (MN p k).2],[]):=by
 have a:=c13 X hX c p hp;rw[eG]at a;refine aV (hX _ rfl) ?_;rw[eG,e16,a];simp only[qOb,qLh,fK,aJ,jL,aO,bH];cases d:bU p with
 |false=>simp[MN,d,dw]
 |true=>
  simp only[qCt];by_cases e:0<=k
  .rw[if_neg ω];by_cases f:k<=p.acts.length
   .rw[if_neg ω];have b:=c48 X hX c p hp k.toNat ω;rw[eG,Int.toNat_of_nonneg e]at b;simp_all[MN]
   grind[MN,dw]
  grind[MN,dw]
theorem l23(p:Pg)(hp:Small p)(l:Ij p<=3600000)(d:∀a∈p.acts,1<=a.len):∀(k i:Nat) (n:Int),i+k=p.acts.length->0<=n->n+jI (p.acts.drop i)<=3600000 ->
    L tab (run tab X) 14 [] [.lp [1,1,1,0,1,0]] (BX n (lH p.acts) p.acts.length i)=some ([Ab (n+jI (p.acts.drop i)),Ab 0],[]):=by
  have q:=hp.acts;intro k;induction k with
  |zero=>intro i n hi h f;refine dN ?_;rw[O4,aO,if_neg ω,show p.acts.drop i=[] from List.drop_eq_nil_iff.2 ω];simp[jI]
  |succ k e=>
   intro i n hi h f;have c:i<p.acts.length:=ω
   have j:((eA p.acts[i]).cell 1).toInt=p.acts[i].len:=rfl;have o:=d p.acts[i] (List.getElem_mem c);have hd:=KZ p.acts c;have m:=uM (p.acts.drop (i+1)) (λb g=>d b (List.mem_of_mem_drop g));refine dN ?_;rw[O4];simp only[dH,aO,qIt,bH,kH p.acts c,j];rw[if_pos ω,if_pos ω,if_pos ω,wrap_eq (x:=n+p.acts[i].len) ω ω,cZ i ω,e (i+1) (n+p.acts[i].len) ω ω ω,hd];grind
theorem c14(e:jd X)(p:Pg)(hp:Small p):run tab X 14 [.p (eG p)] []=some ([Ab (if bU p then Ij p else 0),Ab (if bU p then 0 else 2)],[]):=by
 have b:=c13 X hX e p hp;rw[eG]at b;refine aV (hX _ rfl) ?_;rw[eG,e14,b];simp only[qOb,qLh,fK,aJ,jL,bH];cases c:bU p with
 |false=>simp
 |true=>obtain⟨_,_,f,h4⟩:=um c;have:=l23 X hX p hp h4 (λa d=>(f a d).2.1) p.acts.length 0 0 ω ω (by simpa[Ij] using h4);simp_all[qCt,Ij]
theorem l13(p:Pg)(hp:Small p)(r:Ij p<=3600000)(h:∀a∈p.acts,1<=a.len)(t:Int):∀(k i:Nat) (f:Int),i+(k+1)=p.acts.length->0<=f->f+jI (p.acts.drop i)<=3600000->t<=f+jI (p.acts.drop i) ->
    L tab (run tab X) 24 [] [.lp [1,1,1,0,0]] (FD t i f (eN p.names) (dw p.homes) (lH p.acts))=some ([Ab (N7 t i f (p.acts.drop i)).1,Ab (N7 t i f (p.acts.drop i)).2.1,Ab (N7 t i f (p.acts.drop i)).2.2],[]):=by
  have v:=hp.acts;intro k;induction k with
  |zero=>
   intro i f hi o l e;have c:i<p.acts.length:=ω
   have hd:=KZ p.acts c;have g:p.acts.drop (i+1)=[]:=List.drop_eq_nil_iff.2 ω;rw[g,jI]at hd;refine dN ?_;rw[Td,aO,bH,wrap_eq ω ω,if_neg ω,qLc c,g,N7,if_pos ω]
  |succ k j=>
   intro i f hi o l e;have c:i<p.acts.length:=ω
   have d:i+1<p.acts.length:=ω
   have hd:=KZ p.acts c;have u:=h p.acts[i] (List.getElem_mem c);have s:=uM (p.acts.drop (i+1)) (λb m=>h b (List.mem_of_mem_drop m));have q:((eA p.acts[i]).cell 1).toInt=p.acts[i].len:=rfl;have e3:N7 t i f (p.acts.drop i)=if t<f+p.acts[i].len then((i:Int),f,(0:Int))else N7 t (i+1) (f+p.acts[i].len) (p.acts.drop (i+1)):=by rw[qLc c,qLc d,N7]
   refine dN ?_;rw[Td];simp only[dH,aO,qIt,bH,kH p.acts c,q,e3];rw[wrap_eq (x:=(p.acts.length:Int)-1) ω ω,if_pos ω,if_pos ω,if_pos ω,wrap_eq (x:=f+p.acts[i].len) ω ω];by_cases n:f+p.acts[i].len<=t
   .rw[if_pos n,if_pos ω,if_pos ω,cZ i ω,j (i+1) (f+p.acts[i].len) ω ω ω ω,if_neg ω]
   grind
theorem c24(h:jd X)(p:Pg)(hp:Small p)(t:Int):run tab X 24 [.p (eG p),Ab t] []=some ([Ab (ach p t).1,Ab (ach p t).2.1,Ab (ach p t).2.2],[]):=by
 have b:=c14 X hX h p hp;rw[eG]at b;refine aV (hX _ rfl) ?_;rw[eG,e24,b];simp only[qOb,qLh,List.tail_cons,fK,toInt_int,xM,aO,rQ];rw[ach];cases f:bU p with
 |false=>simp
 |true=>
  obtain⟨_,_,i,h4⟩:=um f;have c:∀a∈p.acts,1<=a.len:=λa g=>(i a g).2.1;have k:=uM p.acts c;simp only[if_true];by_cases j:0<=t
  .rw[if_neg ω,if_pos j];by_cases e:t<=Ij p
   .rw[if_neg ω];by_cases d:p.acts=[]
    .have:Ij p=0:=by rw[Ij,d];rfl
     rw[if_pos this,d];rfl
    .have l:1<=p.acts.length:=by have:=List.length_pos_iff.2 d;omega
     rw[if_neg (by rw[Ij];omega)];have:=l13 X hX p hp h4 c t (p.acts.length-1) 0 0 ω ω (by simpa[Ij] using h4) (by simpa[Ij] using e);grind
   .rw[if_pos ω,XI t p.acts 0 0 c (by rw[Ij]at e;omega)]
  grind
theorem l40(l:List (List UInt8))(e:l.length<=100)(g:List UInt8):∀(k i:Nat),i+k=l.length ->
    L tab (run tab X) 61 [] [.lp [1,0,1,0]] (Jo (eN l) (ba g) l.length i)=some ([Ab (acs g i (l.drop i))],[]):=by
  intro k;induction k with
  |zero=>intro i hi;refine dN ?_;rw[Xg,aO,if_neg ω,show l.drop i=[] from List.drop_eq_nil_iff.2 ω];rfl
  |succ k b=>
   intro i hi;have a:i<l.length:=ω
   have d:((PV.str (ba l[i])).cell 0).toStr=ba l[i]:=rfl;have c:((ba g).toList==(ba l[i]).toList)=decide (l[i]=g):=by simp[KX,zC,eq_comm]
   refine dN ?_;rw[Xg,qLc a,acs];simp only[dH,aO,qIt,cu,sF l a,d,c];rw[if_pos ω,if_pos ω,if_pos ω];by_cases h:l[i]=g
   .grind
   .rw[if_neg h,if_neg h,cZ i ω,b (i+1) ω]
theorem c61(l:List (List UInt8))(a:l.length<=100)(g:List UInt8):run tab X 61 [.p (.list false [.str] (eN l)),.p (.str (ba g))] []=some ([Ab (acs g 0 l)],[]):=by refine aV (hX _ rfl) ?_;have:=l40 X hX l a g l.length 0 ω;rw[e61,cu];grind
theorem c25(b:jd X)(p:Pg)(hp:Small p)(g:List UInt8):run tab X 25 [.p (eG p),.p (.str (ba g))] []=some ([Ab (aaU p g).1,Ab (aaU p g).2],[]):=by have a:=c13 X hX b p hp;rw[eG]at a;refine aV (hX _ rfl) ?_;rw[eG,e25,a,c61 X hX p.names hp.names g];simp only[qOb,qLh,fK,aJ,jL,aO,toInt_int];grind[aaU]
theorem l16(a b:List V3)(f:a.length=b.length)(j:a.length<=1000):∀(k i:Nat),i+k=a.length ->
    L tab (run tab X) 26 [] [.lp [1,1,0,1,0]] (FH (dw a) (dw b) i)=some ([Ai (decide (a.drop i=b.drop i))],[]):=by
  intro k;induction k with
  |zero=>intro i hi;refine dN ?_;rw[Tf,aO,bI,if_neg ω,show a.drop i=[] from List.drop_eq_nil_iff.2 ω,show b.drop i=[] from List.drop_eq_nil_iff.2 ω];simp
  |succ k e=>
   intro i hi;have d:i<a.length:=ω
   have c:i<b.length:=ω
   have e3:∀v:V3,((aQ v).cell 0).toInt=v.x:=λ_=>rfl;have g:∀v:V3,((aQ v).cell 1).toInt=v.y:=λ_=>rfl;have e5:∀v:V3,((aQ v).cell 2).toInt=v.z:=λ_=>rfl;refine dN ?_;rw[Tf];simp only[aO,qIt,bI,oJ a d,oJ b c,e3,g,e5,eqV];rw[if_pos ω,dH,dH];simp only[aO,jL];rw[if_pos ω,if_pos ω,if_pos ω,if_pos ω,cZ i ω,e (i+1) ω,qLc d,qLc c];by_cases h:a[i]=b[i];all_goals grind[List.cons.injEq]
theorem c26(a b:List V3)(c:a.length<=1000):run tab X 26 [.p (.list true dW (dw a)),.p (.list true dW (dw b))] []=some ([Ai (decide (a=b))],[]):=by
 refine aV (hX _ rfl) ?_;rw[e26,xM,bI,bI];by_cases h:a.length=b.length
 .rw[if_pos ω];have:=l16 X hX a b h c a.length 0 ω;grind
 .rw[if_neg ω,decide_eq_false (λe=>h (by rw[e]))]
end
end
end Go.Skm.Prg
