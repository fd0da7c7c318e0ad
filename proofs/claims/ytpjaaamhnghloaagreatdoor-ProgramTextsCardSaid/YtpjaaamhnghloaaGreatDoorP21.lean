import Derived.Test.YtpjaaamhnghloaaGreatDoorP8
import Derived.Test.YtpjaaamhnghloaaGreatDoorSkmF
import Derived.Test.YtpjaaamhnghloaaGreatDoorTab
import Derived.KernelRfl
import Derived.Lib.ItoaLen
set_option linter.all false
namespace Go.Skm.Prg
open Go Go.Skm
section
def RQ(p:Pg)(a:Ac):Pg:=⟨p.names,p.homes,p.acts++[a]⟩
def ajd:PV:=.agg [.nil,.nil,.nil]
def Zr(p:Pg)(a:Ac):PV × Int:=if bU p then(if bU (RQ p a)then(eG (RQ p a),0)else(ajd,10))else(ajd,2)
theorem Zu(l:List Ac)(a:Ac):lH l++[eA a]=lH (l++[a]):=by simp[lH]
theorem Vj(l:List Ac):((lH l).drop 0).take l.length=lH l:=by rw[<-bH l,iT]
theorem eqM{a b:Mv}:(((a.to.x==b.to.x)&&((a.to.y==b.to.y)&&((a.to.z==b.to.z)&&true)))&&((a.wait==b.wait)&&((a.fl==b.fl)&&((a.rise==b.rise)&&true))))=decide (a=b):=by
 rw[eqV];cases a with
 |mk t w f r=>
  cases b with
  |mk c w' e d=>grind
section
variable (X:Ext) (hX:Mine X)
include hX
theorem l32(d:jd X)(p:Pg)(hp:Small p):∀(k i:Nat),i+k=p.acts.length ->
    L tab (run tab X) 62 [] [.lp [1,1,0,1,0]] (FP p.acts.length i (eN p.names) (dw p.homes) 0 p.acts.length (lH p.acts))=some ([.agg [.p (.list false [.str] (eN p.names)),.p (.list true dW (dw p.homes)),.fresh true gY (lH p.acts)]],[]):=by
  have j:=hp.acts;intro k;induction k with
  |zero=>intro i hi;refine dN ?_;rw[Tz,aO,if_neg ω,Vj]
  |succ k c=>
   intro i hi;have a:i<p.acts.length:=ω
   have g:((eA p.acts[i]).cell 0).toStr=ba p.acts[i].name:=rfl;have f:((eA p.acts[i]).cell 1).toInt=p.acts[i].len:=rfl;have e3:((eA p.acts[i]).cell 2).toList=D8 p.acts[i].dG:=rfl;have e:(lH p.acts).set i (.agg [.str (ba p.acts[i].name),Aw p.acts[i].len,.list true yM (D8 p.acts[i].dG)])=lH p.acts:=by
    have:(lH p.acts)[i]'(by rw[bH];exact a)=.agg [.str (ba p.acts[i].name),Aw p.acts[i].len,.list true yM (D8 p.acts[i].dG)]:=by simp[lH,eA]
    rw[<-this,List.set_getElem_self]
   have h:=(hp.act p.acts[i] (List.getElem_mem a)).1;have b:=d.c63 (D8 p.acts[i].dG) (by rw[dL];omega);refine dN ?_;rw[Tz];simp only[dH,aO,qIt,qNz,kH p.acts a,g,f,e3,b,qOb,qLh,fK,uH,e];rw[if_pos ω,if_pos ω,if_pos ω,if_pos ω,if_pos ω,cZ i ω,c (i+1) ω]
theorem c62(a:jd X)(p:Pg)(hp:Small p):run tab X 62 [.p (eG p)] []=some ([.agg [.p (.list false [.str] (eN p.names)),.p (.list true dW (dw p.homes)),.fresh true gY (lH p.acts)]],[]):=by refine aV (hX _ rfl) ?_;have q1:=hp.names;have c:=hp.homes;have b:=hp.acts;rw[eG,e62,a.c99 _ (by rw[cu];omega),a.c81 _ (by rw[bI];omega),a.c100 _ (by rw[bH];omega)];have:=l32 X hX a p hp p.acts.length 0 ω;simp_all
theorem c28(e:jd X)(p:Pg)(hp:Small p)(a:Ac)(g:Small (RQ p a)):run tab X 28 [.p (eG p),.p (eA a)] []=some ([.p (Zr p a).1,Ab (Zr p a).2],[]):=by
 have c:=c13 X hX e p hp;have d:=c13 X hX e (RQ p a) g;have b:=c62 X hX e p hp;have o:=hp.acts;rw[eG]at c d b;refine aV (hX _ rfl) ?_;have n:=(g.act a (by show a∈p.acts++[a];simp)).1;rw[eG,eA,e28,c,b,e.c63 _ (by rw[dL];omega)];have l:(AV.agg [.p (.list false [.str] (eN p.names)),.p (.list true dW (dw p.homes)),.fresh true gY (lH p.acts)]).pV=lH p.acts:=rfl;have k:((AV.agg [.p (.list false [.str] (eN p.names)),.p (.list true dW (dw p.homes)),.fresh true gY (lH p.acts)]).Eb.cell 0).toList=eN p.names:=rfl;have e3:((AV.agg [.p (.list false [.str] (eN p.names)),.p (.list true dW (dw p.homes)),.fresh true gY (lH p.acts)]).Eb.cell 1).toList=dw p.homes:=rfl;simp only[qOb,qLh,fK,aJ,jL,l,k,e3,bH,uH];rw[Zr];cases m:bU p with
 |false=>rfl
 |true=>
  simp only[qCt,if_true];have j:(((((lH p.acts).drop 0).take p.acts.length)++([.agg [.str (ba a.name),Aw a.len,.list true yM (D8 a.dG)]]:List PV)).drop 0).take (p.acts.length+1)=lH (p.acts++[a]):=by rw[Vj];have h:=Zu p.acts a;rw[eA]at h;rw[h];have:=Vj (p.acts++[a]);grind
  rw[TN ω rfl,j];have e5:(RQ p a).acts=p.acts++[a]:=rfl;rw[<-e5];have f:run tab X 13 [.p (.agg [.list false [.str] (eN p.names),.list true dW (dw p.homes),.list true gY (lH (RQ p a).acts)])] []=some ([Ai (bU (RQ p a))],[]):=d;rw[f];simp only[qOb,qLh,fK,aJ];cases i:bU (RQ p a)with
  |false=>rfl
  |true=>rfl
theorem l46(a b:List Mv)(n:a.length=b.length)(o:a.length<=1000):∀(k i:Nat),i+k=a.length ->
    L tab (run tab X) 43 [] [.lp [1,1,0,1,0]] (FN (D8 a) (D8 b) i)=some ([Ai (decide (a.drop i=b.drop i))],[]):=by
  intro k;induction k with
  |zero=>intro i hi;refine dN ?_;rw[Tv,aO,dL,if_neg ω,show a.drop i=[] from List.drop_eq_nil_iff.2 ω,show b.drop i=[] from List.drop_eq_nil_iff.2 ω];simp
  |succ k l=>
   intro i hi;have d:i<a.length:=ω
   have c:i<b.length:=ω
   have q0:∀m:Mv,((eM m).cell 0).toInt=m.to.x:=λ_=>rfl;have q1:∀m:Mv,((eM m).cell 1).toInt=m.to.y:=λ_=>rfl;have j:∀m:Mv,((eM m).cell 2).toInt=m.to.z:=λ_=>rfl;have g:∀m:Mv,((eM m).cell 3).toInt=m.wait:=λ_=>rfl;have f:∀m:Mv,((eM m).cell 4).toInt=m.fl:=λ_=>rfl;have e:∀m:Mv,((eM m).cell 5).toInt=m.rise:=λ_=>rfl;refine dN ?_;rw[Tv];simp only[qIt,dL,yZ a d,yZ b c,q0,q1,j,g,f,e,eqM];rw[aO,if_pos ω,dH,dH];simp only[aO,jL];rw[if_pos ω,if_pos ω,if_pos ω,if_pos ω,cZ i ω,l (i+1) ω,qLc d,qLc c];by_cases h:a[i]=b[i];all_goals grind[List.cons.injEq]
theorem c43(a b:List Mv)(c:a.length<=1000):run tab X 43 [.p (.list true yM (D8 a)),.p (.list true yM (D8 b))] []=some ([Ai (decide (a=b))],[]):=by
 refine aV (hX _ rfl) ?_;rw[e43,xM,dL,dL];by_cases h:a.length=b.length
 .rw[if_pos ω];have:=l46 X hX a b h c a.length 0 ω;grind
 .rw[if_neg ω,decide_eq_false (λe=>h (by rw[e]))]
theorem aqu(p q:Pg)(hp:Small p)(r:p.acts.length=q.acts.length):∀(k i:Nat),i+k=p.acts.length ->
    L tab (run tab X) 12 [] [.lp [1,1,1,1,0,1,0]] (yT i (eN p.names) (dw p.homes) (lH p.acts) (eN q.names) (dw q.homes) (lH q.acts))=some ([Ai (decide (p.acts.drop i=q.acts.drop i))],[]):=by
  have o:=hp.acts;intro k;induction k with
  |zero=>intro i hi;refine dN ?_;rw[MB,aO,bH,if_neg ω,show p.acts.drop i=[] from List.drop_eq_nil_iff.2 ω,show q.acts.drop i=[] from List.drop_eq_nil_iff.2 ω];simp
  |succ k h=>
   intro i hi;have c:i<p.acts.length:=ω
   have d:i<q.acts.length:=ω
   have n:=(hp.act p.acts[i] (List.getElem_mem c)).1;have m:∀a:Ac,((eA a).cell 0).toStr=ba a.name:=λ_=>rfl;have l:∀a:Ac,((eA a).cell 1).toInt=a.len:=λ_=>rfl;have e3:∀a:Ac,((eA a).cell 2).toList=D8 a.dG:=λ_=>rfl;have j:((ba p.acts[i].name).toList==(ba q.acts[i].name).toList)=decide (p.acts[i].name=q.acts[i].name):=by simp[KX,zC]
   have b:p.acts[i]=q.acts[i]↔p.acts[i].name=q.acts[i].name/\p.acts[i].len=q.acts[i].len/\p.acts[i].dG=q.acts[i].dG:=by cases p.acts[i];cases q.acts[i];simp
   refine dN ?_;rw[MB];simp only[dH,aO,jL,xM,qIt,bH,kH p.acts c,kH q.acts d,m,l,e3,j];rw[if_pos ω,if_pos ω,if_pos ω,if_pos ω,if_pos ω,qLc c,qLc d];by_cases g:p.acts[i].name=q.acts[i].name
   .rw[if_pos g];by_cases f:p.acts[i].len=q.acts[i].len
    .rw[if_pos f,c43 X hX _ _ ω];simp only[qOb,qLh,fK,aJ,aO];by_cases e:p.acts[i].dG=q.acts[i].dG
     .rw[if_pos e,cZ i ω,h (i+1) ω];simp only[List.cons.injEq,b.2 ⟨g,f,e⟩,true_and]
     grind[List.cons.injEq]
    grind[List.cons.injEq]
   grind[List.cons.injEq]
theorem aqv(p q:Pg)(hp:Small p)(e:p.acts.length=q.acts.length)(d:p.homes.length=q.homes.length):∀(k i:Nat),i+k=p.homes.length ->
    L tab (run tab X) 12 [] [.lp [1,1,1,0,1,0]] (BU i (eN p.names) (dw p.homes) (lH p.acts) (eN q.names) (dw q.homes) (lH q.acts))=some ([Ai (decide (p.homes.drop i=q.homes.drop i)&&decide (p.acts=q.acts))],[]):=by
  have g:=hp.homes;intro k;induction k with
  |zero=>intro i hi;refine dN ?_;rw[O1,aO,bI,if_neg ω,show p.homes.drop i=[] from List.drop_eq_nil_iff.2 ω,show q.homes.drop i=[] from List.drop_eq_nil_iff.2 ω];have:=aqu X hX p q hp e p.acts.length 0 ω;grind
  |succ k c=>
   intro i hi;have b:i<p.homes.length:=ω
   have a:i<q.homes.length:=ω
   have e3:∀v:V3,((aQ v).cell 0).toInt=v.x:=λ_=>rfl;have f:∀v:V3,((aQ v).cell 1).toInt=v.y:=λ_=>rfl;have e5:∀v:V3,((aQ v).cell 2).toInt=v.z:=λ_=>rfl;refine dN ?_;rw[O1];simp only[qIt,bI,oJ p.homes b,oJ q.homes a,e3,f,e5,eqV];rw[aO,if_pos ω,dH,dH];simp only[aO,jL];rw[if_pos ω,if_pos ω,if_pos ω,if_pos ω,cZ i ω,c (i+1) ω,qLc b,qLc a];by_cases h:p.homes[i]=q.homes[i];all_goals grind[List.cons.injEq]
theorem aqw(p q:Pg)(hp:Small p)(f:p.acts.length=q.acts.length)(a:p.homes.length=q.homes.length)(j:p.names.length=q.names.length):∀(k i:Nat),i+k=p.names.length ->
    L tab (run tab X) 12 [] [.lp [1,1,0,1,0]] (FC i (eN p.names) (dw p.homes) (lH p.acts) (eN q.names) (dw q.homes) (lH q.acts))=some ([Ai (decide (p.names.drop i=q.names.drop i/\p.homes=q.homes/\p.acts=q.acts))],[]):=by
  have l:=hp.names;intro k;induction k with
  |zero=>intro i hi;refine dN ?_;rw[Tc,aO,cu,if_neg ω,show p.names.drop i=[] from List.drop_eq_nil_iff.2 ω,show q.names.drop i=[] from List.drop_eq_nil_iff.2 ω];have:=aqv X hX p q hp f a p.homes.length 0 ω;simp_all
  |succ k d=>
   intro i hi;have c:i<p.names.length:=ω
   have b:i<q.names.length:=ω
   have g:∀x:List UInt8,((PV.str (ba x)).cell 0).toStr=ba x:=λ_=>rfl;have e:((ba p.names[i]).toList==(ba q.names[i]).toList)=decide (p.names[i]=q.names[i]):=by simp[KX,zC]
   refine dN ?_;rw[Tc];simp only[dH,aO,jL,qIt,cu,sF p.names c,sF q.names b,g,e];rw[if_pos ω,if_pos ω,if_pos ω,if_pos ω,if_pos ω,cZ i ω,d (i+1) ω,qLc c,qLc b];by_cases h:p.names[i]=q.names[i];all_goals grind[List.cons.injEq]
theorem c12(p q:Pg)(hp:Small p):run tab X 12 [.p (eG p),.p (eG q)] []=some ([Ai (decide (p=q))],[]):=by
 have a:p=q↔p.names=q.names/\p.homes=q.homes/\p.acts=q.acts:=by cases p;cases q;simp
 refine aV (hX _ rfl) ?_;rw[eG,eG,e12];simp only[xM,cu,bI,bH];by_cases d:p.names.length=q.names.length
 .rw[if_pos ω];by_cases c:p.homes.length=q.homes.length
  .rw[if_pos ω];by_cases b:p.acts.length=q.acts.length
   .rw[if_pos ω];have:=aqw X hX p q hp b c d p.names.length 0 ω;grind
   grind
  grind
 grind
end
end
section
def vk(i:Nat):Int->List V3->List Ac->List Sg
 |_,_,[]=>[]
 |t,fr,a::r=>uq (fr.getD i default) (a.dG.getD i default) t a.len++vk i (t+a.len) (a.dG.map Mv.to) r
def OZ(p:Pg)(i:Nat):List Sg:=vk i 0 p.homes p.acts
def allL(l:List (List Sg)):List PV:=l.map λs=>.list true iV (eP s)
def H7(p:Pg):List PV:=allL ((List.range p.names.length).map (OZ p))
structure ad8 (X:Ext):Prop where
 c47:∀p,Small p->bU p=true->run tab X 47 [.p (eG p)] []=some ([.fresh false [.slice true iV] (H7 p)],[])
theorem apS{α:Type}[Inhabited α](l:List α){i:Nat}(h:i<l.length):l.getD i default=l[i]:=θ
theorem SS(i:Nat):∀(b:List Ac) (t:Int) (fr:List V3),(vk i t fr b).length<=5*b.length
 |[],_,_=>by simp[vk]
 |a::r,t,fr=>by have d:=Je (fr.getD i default) (a.dG.getD i default) t a.len;have c:=SS i r (t+a.len) (a.dG.map Mv.to);grind[vk]
theorem SQ(t len:Int):∀(vs:List V3) (a:List Mv) (cs b:List Int),vs.length=cs.length->a.length=cs.length->cntF t len vs a cs=some b->∀i,i<cs.length->pt (vs.getD i default)=true/\mQ (vs.getD i default) (a.getD i default) len=true
 |v::vs,m::a,c::cs,b,h1,h2,h=>by
  simp only[cntF]at h;split at h
  .next h0=>
   split at h
   .obtain⟨w,e,rfl⟩:=Option.map_eq_some_iff.1 h;simp only[qLl,Nat.add_right_cancel_iff]at h1 h2;have d:=SQ t len vs a cs w h1 h2 e;intro i hi;cases i with
    |zero=>unfold nR at h0;grind
    |succ i=>exact d i (by simpa using hi)
   .cases h
  .cases h
 |_,_,[],_,_,_,_=>by intro i hi;simp at hi
 |[],_,_::_,_,h,_,_=>by simp at h
 |_::_,[],_::_,_,_,h,_=>by simp at h
section
variable (X:Ext) (hX:Mine X)
include hX
def ML(p:Pg)(j:Int):List Sg × Int:=if bU p then(if 0<=j/\j<p.names.length then(if p.acts=[]then([],9)else(OZ p j.toNat,0))else([],3))else([],2)
theorem c23(f:jd X)(hA:ad8 X)(p:Pg)(hp:Small p)(j:Int):run tab X 23 [.p (eG p),Ab j] []=some ([.p (.list true iV (eP (ML p j).1)),Ab (ML p j).2],[]):=by
 have a:=c13 X hX f p hp;rw[eG]at a;refine aV (hX _ rfl) ?_;rw[eG,e23,a];simp only[qOb,qLh,fK,aJ,jL,aO,rQ,cu,bH];cases b:bU p with
 |false=>
  have:ML p j=([],2):=by rw[ML,b];rfl
  rw[this];rfl
 |true=>
  have e:ML p j=if 0<=j/\j<p.names.length then(if p.acts=[]then([],9)else(OZ p j.toNat,0))else([],3):=by rw[ML,b,if_pos rfl]
  simp only[qCt];by_cases h:0<=j
  .rw[if_neg ω];by_cases g:j<p.names.length
   .rw[if_neg ω];by_cases d:p.acts=[]
    .rw[if_pos (by rw[d];rfl),e,if_pos ⟨h,g⟩,if_pos d];rfl
    .have:1<=p.acts.length:=by have:=List.length_pos_iff.2 d;omega
     have c:=hA.c47 p hp b;rw[eG]at c;have i:(H7 p).length=p.names.length:=by simp[H7,allL]
     have k:(H7 p).getD j.toNat .nil=.list true iV (eP (OZ p j.toNat)):=by simp_all[H7,allL,qLb,this]
     simp_all[qOb,qLh,bK,qNz,dH,aO]
   .rw[if_pos ω,e,if_neg ω];rfl
  .rw[if_pos ω,e,if_neg ω];rfl
end
end
section
def bv(l:List UInt8):List PV:=l.map λx=>.int .u8 ((x.toNat:Nat):Int)
theorem FX(l:List UInt8):xI (ba l)=bv l:=rfl
theorem KU(x y:List UInt8):bv x++bv y=bv (x++y):=by simp[bv]
@[simp] theorem KW(x:List UInt8):(bv x).length=x.length:=by simp[bv]
theorem aja(x:UInt8):UInt8.ofNat (PV.int .u8 ((x.toNat:Nat):Int)).toInt.toNat=x:=by simp[PV.toInt]
theorem Zq(l:List UInt8):bytesOf (bv l)=ba l:=by unfold bytesOf ba bv;rw[List.map_map];congr 2;exact(List.map_congr_left λx _=>aja x).trans (List.map_id _)
theorem ajb(l:List UInt8):(bv l).all PV.isByte=true:=by rw[List.all_eq_true];intro x a;obtain⟨u,_,rfl⟩:=List.mem_map.1 a;have:=u.toNat_lt;grind[PV.isByte]
def i64(n:Int):Prop:=-9223372036854775808<=n/\n<=9223372036854775807
structure Rng (p:Pg):Prop where
 homes:∀v∈p.homes,i64 v.x/\i64 v.y/\i64 v.z
 dG:∀a∈p.acts,∀m∈a.dG,(i64 m.to.x/\i64 m.to.y/\i64 m.to.z)/\i64 m.wait/\i64 m.fl/\i64 m.rise
def vY:List UInt8:=[97,105,114,99,114,97,102,116]
def uI:List UInt8:=[97,99,116]
def vZ:List UInt8:=[109,111,118,101]
def Pv(g:List UInt8)(v:V3):List UInt8:=oV [vY,g,Lib.itoa v.x,Lib.itoa v.y,Lib.itoa v.z]++[10]
def Xw(a:Ac):List UInt8:=oV [uI,a.name,Lib.itoa a.len]++[10]
def Px(m:Mv):List UInt8:=oV [vZ,Lib.itoa m.to.x,Lib.itoa m.to.y,Lib.itoa m.to.z,Lib.itoa m.wait,Lib.itoa m.fl,Lib.itoa m.rise]++[10]
def yY:List (List UInt8)->List V3->List UInt8
 |g::gs,v::vs=>Pv g v++yY gs vs
 |_,_=>[]
def uJ:List Mv->List UInt8
 |[]=>[]
 |m::r=>Px m++uJ r
def A8:List Ac->List UInt8
 |[]=>[]
 |a::r=>Xw a++uJ a.dG++A8 r
def kT(p:Pg):List UInt8:=yY p.names p.homes++A8 p.acts
theorem alu(v:V3):(⟨v.x,v.y,v.z⟩:V3)=v:=rfl
theorem apT(m:Mv):(⟨⟨m.to.x,m.to.y,m.to.z⟩,m.wait,m.fl,m.rise⟩:Mv)=m:=rfl
theorem TM(g:List UInt8)(x y z:Int):uD [.str ⟨#[97,105,114,99,114,97,102,116]⟩,.str (ba g)] [Aw x,Aw y,Aw z]=ba (Pv g ⟨x,y,z⟩):=by simp[uD,ByteArray.toList_eq,Pv,vY,ba,PV.toStr,PV.toInt]
theorem acf(g:List UInt8)(n:Int):uD [.str ⟨#[97,99,116]⟩,.str (ba g)] [Aw n]=ba (oV [uI,g,Lib.itoa n]++[10]):=by simp[uD,ByteArray.toList_eq,uI,ba,PV.toStr,PV.toInt]
theorem acg(x y z a b c:Int):uD [.str ⟨#[109,111,118,101]⟩] [Aw x,Aw y,Aw z,Aw a,Aw b,Aw c]=ba (Px ⟨⟨x,y,z⟩,a,b,c⟩):=by simp[uD,ByteArray.toList_eq,Px,vZ,ba,PV.toStr,PV.toInt]
theorem all1{n:Int}(h:i64 n):([Aw n]:List PV).all PV.Dy=true:=by simp only[List.all_cons,List.all_nil,PV.Dy,Bool.and_true,qBa,qDa];exact h
theorem alv{x y z:Int}(h:i64 x/\i64 y/\i64 z):([Aw x,Aw y,Aw z]:List PV).all PV.Dy=true:=by simp only[List.all_cons,List.all_nil,PV.Dy,Bool.and_true,qBa,qDa];exact h
theorem apU{x y z a b c:Int}(h:(i64 x/\i64 y/\i64 z)/\i64 a/\i64 b/\i64 c):([Aw x,Aw y,Aw z,Aw a,Aw b,Aw c]:List PV).all PV.Dy=true:=by obtain⟨⟨g,f,e⟩,h4,h5,d⟩:=h;simp only[List.all_cons,List.all_nil,PV.Dy,Bool.and_true,qBa,qDa];exact⟨g,f,e,h4,h5,d⟩
theorem aaT(g:List UInt8)(v:V3)(a:i64 v.x/\i64 v.y/\i64 v.z):(Pv g v).length<=g.length+90:=by have d:=Lib.itoa_length_le v.x a.1.1 a.1.2;have c:=Lib.itoa_length_le v.y a.2.1.1 a.2.1.2;have b:=Lib.itoa_length_le v.z a.2.2.1 a.2.2.2;simp only[Pv,oV,vY,qLp,qLl,List.length_nil];omega
theorem agM(a:Ac)(h:i64 a.len):(Xw a).length<=a.name.length+90:=by have b:=Lib.itoa_length_le a.len h.1 h.2;simp only[Xw,oV,uI,qLp,qLl,List.length_nil];omega
theorem Ve(m:Mv)(f:(i64 m.to.x/\i64 m.to.y/\i64 m.to.z)/\i64 m.wait/\i64 m.fl/\i64 m.rise):(Px m).length<=200:=by obtain⟨⟨q1,e,d⟩,c,b,a⟩:=f;have j:=Lib.itoa_length_le m.to.x q1.1 q1.2;have i:=Lib.itoa_length_le m.to.y e.1 e.2;have h:=Lib.itoa_length_le m.to.z d.1 d.2;have h4:=Lib.itoa_length_le m.wait c.1 c.2;have h5:=Lib.itoa_length_le m.fl b.1 b.2;have g:=Lib.itoa_length_le m.rise a.1 a.2;simp only[Px,oV,vZ,qLp,qLl,List.length_nil];omega
section
variable (X:Ext) (hX:Mine X)
include hX
theorem apV(p:Pg)(hp:Small p)(d:Rng p)(i:Nat)(hi:i<p.acts.length)(r:List AV × List aH):∀(k j:Nat) (a:List UInt8),j+k=p.acts[i].dG.length->a.length<=200000000+200*j ->
    L tab (run tab X) 30 [] [.lp [1,1,1,0,1,0]] (o8 (lH p.acts) p.acts.length ((i+1:Nat):Int) (bv (a++uJ (p.acts[i].dG.drop j))))=some r ->
    L tab (run tab X) 30 [] [.lp [1,1,1,0,1,0],.lp [1,1,0,0,1,1,1,0]] (jh (lH p.acts) p.acts.length i (D8 p.acts[i].dG) p.acts[i].dG.length j (bv a))=some r:=by
  have u:=hp.acts;obtain⟨q1,s,q⟩:=hp.act p.acts[i] (List.getElem_mem hi);intro k;induction k with
  |zero=>intro j a g f h;refine dN ?_;rw[vO,aO,if_neg ω,cZ i ω,<-h,show p.acts[i].dG.drop j=[] from List.drop_eq_nil_iff.2 ω,uJ,List.append_nil]
  |succ k e=>
   intro j a g f h;have b:j<p.acts[i].dG.length:=ω
   have c:=apU (d.dG _ (List.getElem_mem hi) _ (List.getElem_mem b));have t:=Ve p.acts[i].dG[j] (d.dG _ (List.getElem_mem hi) _ (List.getElem_mem b));have c0:∀m:Mv,((eM m).cell 0).toInt=m.to.x:=λ_=>rfl;have c1:∀m:Mv,((eM m).cell 1).toInt=m.to.y:=λ_=>rfl;have o:∀m:Mv,((eM m).cell 2).toInt=m.to.z:=λ_=>rfl;have n:∀m:Mv,((eM m).cell 3).toInt=m.wait:=λ_=>rfl;have l:∀m:Mv,((eM m).cell 4).toInt=m.fl:=λ_=>rfl;have c5:∀m:Mv,((eM m).cell 5).toInt=m.rise:=λ_=>rfl;refine dN ?_;rw[vO];simp only[qIt,yZ _ b,dL,c0,c1,o,n,l,c5,acg,apT,c,qCt,bZ,FX,KU,KW];rw[aO,if_pos ω,dH,aO,if_pos ω,aO,if_pos ω,TN ω rfl,cZ j ω];refine e (j+1) _ ω (by simp only[qLp];omega) ?_;rw[qLc b,uJ]at h;grind
theorem apW(p:Pg)(hp:Small p)(f:Rng p):∀(k i:Nat) (a:List UInt8),i+k=p.acts.length->a.length<=1000000+100000*i ->
    L tab (run tab X) 30 [] [.lp [1,1,1,0,1,0]] (o8 (lH p.acts) p.acts.length i (bv a))=some ([.p (.str (ba (a++A8 (p.acts.drop i))))],[]):=by
  have v:=hp.acts;intro k;induction k with
  |zero=>intro i a hi j;refine dN ?_;rw[GZ,aO,if_neg ω,TN (by simp;omega) rfl,Js (ajb a) rfl,Zq,show p.acts.drop i=[] from List.drop_eq_nil_iff.2 ω,A8,List.append_nil]
  |succ k h=>
   intro i a hi j;have b:i<p.acts.length:=ω
   obtain⟨q1,u,e⟩:=hp.act p.acts[i] (List.getElem_mem b);have q:=agM p.acts[i] e;have d:=all1 e;have t:((eA p.acts[i]).cell 0).toStr=ba p.acts[i].name:=rfl;have s:((eA p.acts[i]).cell 1).toInt=p.acts[i].len:=rfl;have e3:((eA p.acts[i]).cell 2).toList=D8 p.acts[i].dG:=rfl;have r:oV [uI,p.acts[i].name,Lib.itoa p.acts[i].len]++[10]=Xw p.acts[i]:=rfl;refine dN ?_;rw[GZ];simp only[qIt,kH _ b,bH,t,s,e3,acf,d,qCt,bZ,FX,KU,KW,r,dL];rw[aO,if_pos ω,dH,aO,if_pos ω,aO,if_pos ω,TN ω rfl];refine(show L tab (run tab X) 30 [] [.lp [1,1,1,0,1,0],.lp [1,1,0,0,1,1,1,0]] (jh (lH p.acts) p.acts.length i (D8 p.acts[i].dG) p.acts[i].dG.length (0:Nat) (bv (a++Xw p.acts[i])))=_ from ?_);refine apV X hX p hp f i b _ p.acts[i].dG.length 0 _ ω (by simp only[qLp];omega) ?_;have c:∀l:List Mv,(∀m∈l,(Px m).length<=200)->(uJ l).length<=200*l.length:=by
    intro l;induction l with
    |nil=>intro _;simp[uJ]
    |cons m l g=>grind[uJ]
   have n:=c p.acts[i].dG λm o=>Ve m (f.dG _ (List.getElem_mem b) m o);rw[qLy,h (i+1) _ ω (by simp only[qLp];omega),qLc b,A8];simp
theorem apX(p:Pg)(hp:Small p)(c:Rng p)(n:p.homes.length=p.names.length):∀(k i:Nat) (a:List UInt8),i+k=p.names.length->a.length<=3000*i ->
    L tab (run tab X) 30 [] [.lp [1,1,0,1,0]] (qQ (eN p.names) p.names.length i (eN p.names) (dw p.homes) (lH p.acts) (bv a))=some ([.p (.str (ba (a++yY (p.names.drop i) (p.homes.drop i)++A8 p.acts)))],[]):=by
  have m:=hp.names;intro k;induction k with
  |zero=>intro i a hi g;refine dN ?_;rw[Jk,aO,if_neg ω,show p.names.drop i=[] from List.drop_eq_nil_iff.2 ω,bH];have:=apW X hX p hp c p.acts.length 0 a ω ω;grind[yY]
  |succ k f=>
   intro i a hi g;have e:i<p.names.length:=ω
   have b:i<p.homes.length:=ω
   have o:=hp.name p.names[i] (List.getElem_mem e);have d:=alv (c.homes _ (List.getElem_mem b));have h:=aaT p.names[i] p.homes[i] (c.homes _ (List.getElem_mem b));have l:((PV.str (ba p.names[i])).cell 0).toStr=ba p.names[i]:=rfl;have e3:∀v:V3,((aQ v).cell 0).toInt=v.x:=λ_=>rfl;have j:∀v:V3,((aQ v).cell 1).toInt=v.y:=λ_=>rfl;have e5:∀v:V3,((aQ v).cell 2).toInt=v.z:=λ_=>rfl;refine dN ?_;rw[Jk];simp only[qIt,sF _ e,oJ _ b,cu,bI,l,e3,j,e5,TM,alu,d,qCt,bZ,FX,KU,KW];rw[aO,if_pos ω,dH,aO,if_pos ω,aO,if_pos ω,dH,aO,if_pos ω,aO,if_pos ω,TN ω rfl];simp only[dH,aO];rw[if_pos ω,if_pos ω,if_pos ω,if_pos ω,cZ i ω,f (i+1) _ ω (by simp only[qLp];omega),qLc e,qLc b,yY];simp
theorem c30(p:Pg)(hp:Small p)(b:Rng p)(e:1<=p.names.length)(f:p.homes.length=p.names.length):run tab X 30 [.p (eG p)] []=some ([.p (.str (ba (kT p)))],[]):=by
 have j:=hp.names;have d:0<p.names.length:=ω
 have a:0<p.homes.length:=ω
 have k:=hp.name p.names[0] (List.getElem_mem d);have c:=alv (b.homes _ (List.getElem_mem a));have g:=aaT p.names[0] p.homes[0] (b.homes _ (List.getElem_mem a));have i:((PV.str (ba p.names[0])).cell 0).toStr=ba p.names[0]:=rfl;have e3:∀v:V3,((aQ v).cell 0).toInt=v.x:=λ_=>rfl;have h:∀v:V3,((aQ v).cell 1).toInt=v.y:=λ_=>rfl;have e5:∀v:V3,((aQ v).cell 2).toInt=v.z:=λ_=>rfl;refine aV (hX _ rfl) ?_;rw[eG,e30,cu];refine dN ?_;rw[abW];simp only[Int.toNat_zero,sF _ d,oJ _ a,cu,bI,i,e3,h,e5,TM,alu,c,qCt,bZ,FX];rw[aO,if_pos ω,dH,aO,if_pos ω,aO,if_pos ω,dH,aO,if_pos ω,aO,if_pos ω];simp only[dH,aO];rw[if_pos ω,if_pos ω,if_pos ω,if_pos ω,if_pos ω];have:=apX X hX p hp b f (p.names.length-1) 1 (Pv p.names[0] p.homes[0]) ω ω;refine(show L tab (run tab X) 30 [] [.lp [1,1,0,1,0]] (qQ (eN p.names) p.names.length (1:Nat) (eN p.names) (dw p.homes) (lH p.acts) (bv (Pv p.names[0] p.homes[0])))=_ from this).trans ?_;have e6:p.names=p.names[0]::p.names.drop 1:=by rw[<-qLc d,qLy]
 have e7:p.homes=p.homes[0]::p.homes.drop 1:=by rw[<-qLc a,qLy]
 have e8:Pv p.names[0] p.homes[0]++yY (p.names.drop 1) (p.homes.drop 1)=yY p.names p.homes:=by grind[yY]
 rw[e8];rfl
theorem c7(e:jd X)(p:Pg)(hp:Small p)(d:Rng p)(c:bU p=true):run tab X 7 [.p (eG p)] []=some ([.p (.str (ba (kT p))),Ab 0],[]):=by have b:=c13 X hX e p hp;obtain⟨⟨g,h,f⟩,_⟩:=um c;have a:=c30 X hX p hp d g f;rw[eG]at b a;refine aV (hX _ rfl) ?_;rw[eG,e7,b,a,c];rfl
end
end
section
theorem sG{u:Nat}(h:u<10):Lib.decDigits u=[UInt8.ofNat (48+u)]:=by rw[Lib.decDigits];simp[h]
theorem u8w{k:Int}(b:0<=k)(a:k<10):IntKind.u8.wrap (IntKind.i64.wrap (48+k))=48+k:=by
 rw[wrap_eq ω ω];have:∀y:Int,y=(48+k)%2^8->(if(false&&decide (y >= 2^(8-1)))=true then y-2^8 else y)=48+k:=θ
 exact this _ rfl
theorem ahK(u:Nat)(h:u<10):bytesOf [.int .u8 (IntKind.u8.wrap (IntKind.i64.wrap (48+(u:Int))))]=ba (Lib.decDigits u):=by rw[u8w (k:=(u:Int)) ω ω,sG h];rfl
section
variable (X:Ext) (hX:Mine X)
include hX
theorem l37:∀(u:Nat) (s:List UInt8),u<=9223372036854775807->s.length+(Lib.decDigits u).length<=1000000 ->
    L tab (run tab X) 37 [] [.lp [1,1,1,0,0]] (FK (u:Int) (ba s))=some ([.p (.str (ba (Lib.decDigits u++s)))],[]):=by
  have _:=hX;intro u;induction u using Nat.strongRecOn with
  |ind u a=>
   intro s e b;refine dN ?_;rw[abX];by_cases h:u<10
   .rw[show zD (u:Int) 9=false from decide_eq_false ω,qCf,ahK u h,iY,bZ,bZ,
      show rZ ((Lib.decDigits u).length+s.length) 4611686018427387904=true from decide_eq_true ω,qCt]
   .have d:(u:Int).tmod 10=((u%10:Nat):Int):=by rw[Int.tmod_eq_emod_of_nonneg ω];omega
    have c:(u:Int).tdiv 10=((u / 10:Nat):Int):=by rw[Int.tdiv_eq_ediv_of_nonneg ω];omega
    have e3:=bT (show 10<=u by omega);have f:(Lib.decDigits (u%10)).length=1:=by rw[sG ω];rfl
    rw[e3,qLp]at b;have:=a (u / 10) ω (Lib.decDigits (u%10)++s) ω (by rw[qLp];omega)
    rw[show zD (u:Int) 9=true from decide_eq_true ω,qCt,d,ahK (u%10) ω,iY,bZ,bZ,
     show rZ ((Lib.decDigits (u%10)).length+s.length) 4611686018427387904=true from decide_eq_true ω,qCt,c,wrap_eq (x:=((u / 10:Nat):Int)) ω ω,this,e3,List.append_assoc]
theorem alF(u:Nat)(a:u<=9223372036854775807):run tab X 37 [Ab (u:Int)] []=some ([.p (.str (ba (Lib.decDigits u)))],[]):=
 aV (hX _ rfl) (by
  rw[e37,show dM (u:Int) 0=false from decide_eq_false ω,qCf];have b:(Lib.decDigits u).length<=21:=by have:=Lib.itoa_length_le (u:Int) ω ω;grind[Lib.itoa]
  have:=l37 X hX u [] a (by simp;omega);rw[List.append_nil]at this;exact this)
theorem c37(n:Int)(c:-9223372036854775807<=n)(b:n<=9223372036854775807):run tab X 37 [Ab n] []=some ([.p (.str (ba (Lib.itoa n)))],[]):=by
 by_cases h:n<0
 .have q:=alF X hX n.natAbs ω;rw[show((n.natAbs:Nat):Int)=-n by omega]at q;have a:(Lib.decDigits n.natAbs).length<=20:=by have:=Lib.itoa_length_le n ω ω;grind[qLl,Lib.itoa]
  refine aV (hX _ rfl) ?_;rw[e37,show dM n 0=true from decide_eq_true h,qCt,wrap_eq (x:=0-n) ω ω,show 0-n=-n by omega,q,qOb];simp only[qLh,fK,kU];have e:(⟨#[45]⟩:ByteArray)=ba [45]:=rfl;rw[e,iY,bZ,bZ,show rZ (([45]:List UInt8).length+(Lib.decDigits n.natAbs).length) 4611686018427387904=true from decide_eq_true (by simp;omega),qCt];grind[Lib.itoa]
 .have q:=alF X hX n.toNat ω;grind[Lib.itoa]
theorem c36(v:V3)(h:i64 v.x/\i64 v.y/\i64 v.z)(g:v.x≠-9223372036854775808/\v.y≠-9223372036854775808/\v.z≠-9223372036854775808):run tab X 36 [.p (aQ v)] []=some ([.p (.str (ba (oV [Lib.itoa v.x,Lib.itoa v.y,Lib.itoa v.z])))],[]):=
 aV (hX _ rfl) (by
  obtain⟨⟨e,d⟩,⟨b1,c⟩,c1,b⟩:=h;have k:=Lib.itoa_length_le v.x e d;have j:=Lib.itoa_length_le v.y b1 c;have i:=Lib.itoa_length_le v.z c1 b;have a:(⟨#[32]⟩:ByteArray)=ba [32]:=rfl;rw[aQ,e36,c37 X hX v.x ω ω,qOb];simp only[qLh,fK,kU];rw[c37 X hX v.y ω ω,qOb];simp only[qLh,fK,kU];rw[c37 X hX v.z ω ω,qOb];simp only[qLh,fK,kU,a,iY,bZ,qLp,qLl,List.length_nil];repeat rw[show ∀n:Nat,n<=1000->rZ n 4611686018427387904=true from λn f=>decide_eq_true ω]
  all_goals first |(simp[oV];done) |omega |skip)
end
end
section
theorem ajg(l:List UInt8){i:Nat}(h:i<l.length):(ba l).extract i (i+1)=ba [l[i]]:=by rw[ba_eq];simp[ba,ByteArray.data_extract,List.extract_eq_take_drop];rw[qLc h];rfl
section
variable (X:Ext) (hX:Mine X)
include hX
theorem aes(c:UInt8)(l:List UInt8)(r:l.length<=1000000000):∀(d i:Nat) (a:List (List UInt8)) (b:List UInt8),i+d=l.length->a.length+b.length<=i->c ∉ b ->
    L tab (run tab X) 41 [] [.lp [1,1,0,1,0]] (AQ (ba l) ((c.toNat:Nat):Int) 0 (a.length+1) i ((a++[b]).map λp=>.str (ba p)))=some ([.fresh false [.str] ((a++bG c (b++l.drop i)).map λp=>.str (ba p))],[]):=by
  have _:=hX;intro d;induction d with
  |zero=>intro i a b hi q j;refine dN ?_;rw[Tq];simp only[aO,bZ];rw[if_neg ω,List.drop_eq_nil_of_le (show l.length<=i by omega),List.append_nil,uK j,qLy,List.take_of_length_le σ]
  |succ d m=>
   intro i a b hi q j;have f:i<l.length:=ω
   have o:l.getD i 0=l[i]:=by simp[qLb,f]
   have w:IntKind.i64.wrap ((i:Int)+1)=((i+1:Nat):Int):=by rw[wrap_eq ω ω];omega
   have n:IntKind.i64.wrap (((a.length+1:Nat):Int)-1)=((a.length:Nat):Int):=by rw[wrap_eq ω ω];omega
   have g:((((a++[b]).map λp=>PV.str (ba p)).getD (0+a.length) .nil).cell 0).toStr=ba b:=by rw[qNz,qLb,List.getElem?_map,List.getElem?_append_right (qNr _),Nat.sub_self];rfl
   rw[qLc f];refine dN ?_;rw[Tq];simp only[aO,dH,rQ,bZ,Ju,qIt,o,w,n,g,ajg l f,iY];rw[if_pos ω,if_pos ω,if_pos ω];by_cases e:((l[i]).toNat:Int)=((c.toNat:Nat):Int)
   .have k:l[i]=c:=by apply UInt8.toNat_inj.1;omega
    refine alG e ?_;rw[if_pos ω,k,sK _ j,qLy,List.take_of_length_le σ];have:=m (i+1) (a++[b]) [] ω (by simp;omega) σ;simp only[qLp,qLl,List.length_nil,List.nil_append]at this;simp only[List.map_append,List.map_cons,List.map_nil,List.append_assoc,List.cons_append,List.nil_append]at this ⊢;exact this
   .have k:l[i]≠c:=λh=>e (by rw[h]);refine aqd e ?_;rw[if_pos ω,if_pos ω,if_pos ω,if_pos ω,if_pos ω];refine alG (by simp;omega) ?_;rw[if_pos ω,if_pos ω];have:=m (i+1) a (b++[l[i]]) ω (by simp;omega) (by simp[j,Ne.symm k]);grind
theorem c41(c:UInt8)(l:List UInt8)(a:l.length<=1000000000):run tab X 41 [.p (.str (ba l)),.p (.int .u8 ((c.toNat:Nat):Int))] []=some ([.fresh false [.str] ((bG c l).map λp=>.str (ba p))],[]):=
 aV (hX _ rfl) (by rw[e41];exact aes X hX c l a l.length 0 [] [] ω σ σ)
end
end
end Go.Skm.Prg
