import Derived.Test.YtpjaaamhnghloaaGreatDoorAll3
import Derived.Test.YtpjaaamhnghloaaGreatDoorAll1
set_option linter.all false
namespace Go.Skm.Prg
open Go Go.Skm
section
variable {p:Pg}{k:Nat}
def Me(fr:List V3):List Ac->Nat->List V3
 |_,0=>fr
 |[],_+1=>fr
 |a::r,k+1=>Me (a.dG.map Mv.to) r k
theorem OW(fr:List V3):∀(b:List Ac) (k:Nat),k<b.length->Me fr b (k+1)=(b.getD k default).dG.map Mv.to
 |[],k,h=>by simp at h
 |a::r,0,_=>by cases r<;>rfl
 |a::r,k+1,h=>by
  have c:k<r.length:=by simpa using h
  have:=OW (a.dG.map Mv.to) r k c;rw[List.getD_cons_succ,<-this];rfl
theorem OX(p:Pg)(k:Nat)(h:k<=p.acts.length):Me p.homes p.acts k=jg p k:=by
 cases k with
 |zero=>cases a:p.acts<;>rfl
 |succ k=>rw[OW _ _ _ ω,jg]
theorem U2(n:Nat):∀(b:List Ac) (t:Int) (fr:List V3) (cs:List Int),Dw n t fr cs b=true->fr.length=n->cs.length=n->0<=t->t<=3600000->∀k,k<b.length ->
    (Me fr b k).length=n/\(b.getD k default).dG.length=n/\1<=(b.getD k default).len/\0<=t+jI (b.take k)/\t+jI (b.take k)+(b.getD k default).len<=3600000 /\
      ∀j,j<n->pt ((Me fr b k).getD j default)=true/\mQ ((Me fr b k).getD j default) ((b.getD k default).dG.getD j default) (b.getD k default).len=true
  |[],_,_,_,_,_,_,_,_,k,hk=>by simp at hk
  |a::r,t,fr,cs,h,hf,hc,h0,h1,k,hk=>by
   simp only[Dw,qBa,qDa]at h;obtain⟨q1,f,l,e,c⟩:=h;cases d:cntF t a.len fr a.dG cs with
   |none=>rw[d]at c;cases c
   |some w=>
    rw[d]at c;have i:=Om _ _ _ _ _ _ ω ω d;cases k with
    |zero=>
     refine⟨hf,e,f,by simpa[jI] using h0,?_,λj m=>?_⟩
     .grind[jI,qLz]
     .exact SQ _ _ _ _ _ _ ω ω d j ω
    |succ k=>have g:=U2 n r (t+a.len) (a.dG.map Mv.to) w c (by simp;omega) ω ω ω k (by simpa using hk);simp only[List.getD_cons_succ,List.take_succ_cons,jI];rw[<-Int.add_assoc];exact g
theorem OY(i:Nat):∀(b:List Ac) (t:Int) (fr:List V3) (k:Nat),k<b.length ->
    vk i t fr (b.take (k+1))=vk i t fr (b.take k)++uq ((Me fr b k).getD i default) ((b.getD k default).dG.getD i default) (t+jI (b.take k)) (b.getD k default).len
  |[],_,_,k,h=>by simp at h
  |a::r,t,fr,0,_=>by simp[vk,jI,Me]
  |a::r,t,fr,k+1,h=>by have:=OY i r (t+a.len) (a.dG.map Mv.to) k (by simpa using h);simp only[List.take_succ_cons,vk,List.getD_cons_succ,jI,List.append_assoc]at this ⊢;rw[this,<-Int.add_assoc];rfl
def mY(p:Pg)(k:Nat):List (List Sg):=(List.range p.names.length).map λj=>vk j 0 p.homes (p.acts.take k)
def vg(p:Pg)(k:Nat):List (List Sg):=(List.range p.names.length).map λj=>uq ((jg p k).getD j default) ((p.acts.getD k default).dG.getD j default) (jI (p.acts.take k)) (p.acts.getD k default).len
theorem oD(p:Pg)(k:Nat):(mY p k).length=p.names.length:=by simp[mY]
theorem xw(p:Pg)(k:Nat):(vg p k).length=p.names.length:=by simp[vg]
theorem Za(p:Pg):mY p 0=List.replicate p.names.length []:=by
 rw[mY];apply List.ext_getElem
 .simp
 simp[vk]
theorem abV(p:Pg):mY p p.acts.length=(List.range p.names.length).map (OZ p):=by rw[mY,List.take_length];rfl
theorem RJ(qs ps:List (List Sg))(h:ps.length=qs.length)(i:Nat)(hi:i<qs.length):(lI qs ps)[i]'(by rw[Fv];exact hi)=qs[i]++ps[i]'ω:=by have a:=KF qs ps i;grind
theorem Zb(p:Pg)(k:Nat)(b:k<p.acts.length):lI (mY p k) (vg p k)=mY p (k+1):=by
 apply List.ext_getElem
 .simp[Fv,oD]
 .intro j d a;have c:j<p.names.length:=by rw[oD]at a;exact a
  rw[RJ _ _ (by rw[xw,oD]) j (by rw[oD];exact c)];simp only[mY,vg,List.getElem_map,List.getElem_range];rw[OY j p.acts 0 p.homes k b,OX p k ω,Int.zero_add]
theorem Y8(f:bU p=true)(g:k<p.acts.length):(jg p k).length=p.names.length/\p.acts[k].dG.length=p.names.length/\1<=p.acts[k].len/\0<=jI (p.acts.take k)/\jI (p.acts.take k)+p.acts[k].len<=3600000 /\
    gv (jI (p.acts.take k)) p.acts[k].len (jg p k) p.acts[k].dG=(vg p k).map OT:=by
  obtain⟨⟨_,_,x⟩,_,_,_⟩:=um f;obtain⟨q1,l,e,d,b,c⟩:=U2 p.names.length p.acts 0 p.homes (List.replicate p.names.length 0) (by simp only[bU,qBa]at f;exact f.2.2) x σ ω ω k g;rw[OX p k ω]at q1 c;rw[wP p g]at l e b c;rw[Int.zero_add]at d b;refine⟨q1,l,e,d,b,?_⟩
  have key:∀(t len:Int) (vs:List V3) (a:List Mv),vs.length=a.length->1<=len->0<=t->t+len<=3600000->(∀j,j<vs.length->pt (vs.getD j default)=true/\mQ (vs.getD j default) (a.getD j default) len=true) ->
      gv t len vs a=((List.range vs.length).map λj=>uq (vs.getD j default) (a.getD j default) t len).map OT:=by
    intro t len vs;induction vs with
    |nil=>intro a _ _ _ _ _;rfl
    |cons v vs w=>
     intro a n c1 u s i;cases a with
     |nil=>simp at n
     |cons m a=>obtain⟨r,q⟩:=i 0 σ;simp only[qLz]at r q;have o:=WZ v m t len r c1 u s;rw[if_pos q]at o;rw[gv,o,w a (by simpa using n) c1 u s λj h=>by have:=i (j+1) (by simpa using h);grind];rw[qLl,List.range_succ_eq_map,List.map_cons,List.map_cons];refine congrArg (List.cons _) ?_;simp
  rw[key _ _ _ _ ω e d b (λj i=>c j ω),vg,q1,wP p g]
theorem agj(a:V3)(m:Mv)(t len:Int)(h:1<=len):uq a m t len≠[]:=by
 unfold uq;split
 .grind[l7]
 .split;all_goals simp[RN]
theorem abS(b:bU p=true)(a:k<p.acts.length):∀q∈vg p k,q≠[]:=by intro q c;obtain⟨j,_,rfl⟩:=List.mem_map.1 c;have:=(Y8 b a).2.2.1;rw[wP p a];exact agj _ _ _ _ this
theorem adE(p:Pg)(k:Nat)(a:k<=p.acts.length)(j:Nat):((mY p k).getD j []).length<=5*k:=by
 by_cases b:j<p.names.length
 .have:(mY p k).getD j []=vk j 0 p.homes (p.acts.take k):=by grind[oD,mY]
  rw[this];have:=SS j (p.acts.take k) 0 p.homes;grind
 grind[oD]
theorem abT(p:Pg)(k j:Nat):((vg p k).getD j []).length<=5:=by
 by_cases a:j<p.names.length
 .have:(vg p k).getD j []=uq ((jg p k).getD j default) ((p.acts.getD k default).dG.getD j default) (jI (p.acts.take k)) (p.acts.getD k default).len:=by grind[xw,vg]
  rw[this];exact Je _ _ _ _
 grind[xw]
end
section
variable {p:Pg}{v:V3}
structure acn (p:Pg):Prop where
 names:∀g∈p.names,NZ g=true
 homes:∀v∈p.homes,pt v=true
 len:p.homes.length=p.names.length
 few:p.names.length<=64/\p.acts.length<=60
 acts:∀a∈p.acts,NZ a.name=true/\1<=a.len/\a.len<=3600000/\a.dG.length<=64/\∀m∈a.dG,pt m.to=true/\AZ m.wait=true/\AZ m.fl=true/\AZ m.rise=true
theorem MO:∀(a:List (List UInt8)) (vs sh:List V3) (b:List (List UInt8)),vs.length=a.length->Bg b sh a vs=true->(∀g∈a,NZ g=true)/\∀v∈vs,pt v=true
 |[],[],_,_,_,_=>⟨σ,σ⟩
 |[],_::_,_,_,h,_=>by simp at h
 |_::_,[],_,_,h,_=>by simp at h
 |g::a,v::vs,sh,b,hl,h=>by simp only[Bg,qBa]at h;obtain⟨f,_,e,_,h5⟩:=h;obtain⟨d,c⟩:=MO a vs _ _ (by simpa using hl) h5;grind
theorem Jw(b:bU p=true):acn p:=by obtain⟨⟨C,r,c⟩,q,o,B⟩:=um b;have u:=b;simp only[bU,qBa]at b;obtain⟨i,_,hA⟩:=b;simp only[Em,qBa]at i;obtain⟨c1,y⟩:=MO p.names p.homes [] [] c i.2.2.2;refine⟨c1,y,c,⟨r,q⟩,λa l=>?_⟩;obtain⟨k,g,rfl⟩:=List.mem_iff_getElem.1 l;obtain⟨q1,t,f,D,s,d⟩:=U2 p.names.length p.acts 0 p.homes (List.replicate p.names.length 0) hA c σ ω ω k g;rw[wP p g]at t f s d;obtain⟨n,A,z⟩:=o _ l;refine⟨n,f,ω,ω,λm w=>?_⟩;obtain⟨j,x,rfl⟩:=List.mem_iff_getElem.1 w;have h:=(d j ω).2;have e:p.acts[k].dG.getD j default=p.acts[k].dG[j]:=apS _ x;rw[e]at h;simp_all[mQ,qBa]
theorem XA(h:pt v=true):(-1048576<=v.x/\v.x<=1048576)/\(-1048576<=v.y/\v.y<=1048576)/\(-1048576<=v.z/\v.z<=1048576):=kG.1 h
theorem KY(h:pt v=true):(i64 v.x/\i64 v.y/\i64 v.z)/\v.x≠-9223372036854775808/\v.y≠-9223372036854775808/\v.z≠-9223372036854775808:=by obtain⟨⟨d,c⟩,⟨b1,b⟩,c1,a⟩:=XA h;exact⟨⟨⟨ω,ω⟩,⟨ω,ω⟩,ω,ω⟩,ω,ω,ω⟩
theorem acn.rng(h:acn p):Rng p:=by refine⟨λv e=>(KY (h.homes v e)).1,λa g m f=>?_⟩;obtain⟨_,_,_,_,q⟩:=h.acts a g;obtain⟨q1,d,c,b⟩:=q m f;rw[jP]at d c b;exact⟨(KY q1).1,⟨ω,ω⟩,⟨ω,ω⟩,ω,ω⟩
theorem Vg{n:Nat}(h:n<=1000000000):rZ n 4611686018427387904=true:=decide_eq_true ω
theorem jW{n:Int}(h:-100000000<n/\n<100000000):(Lib.itoa n).length<=21:=Lib.itoa_length_le n ω ω
section
variable (X:Ext) (hX:Mine X)
include hX
theorem l9m(p:Pg)(g:acn p)(i:Nat)(hi:i<p.acts.length)(r:List AV × List aH):∀(k j:Nat) (s:List UInt8),j+k=p.acts[i].dG.length->s.length<=100000000+200*j ->
    L tab (run tab X) 9 [] [.lp [1,1,1,0,1,0]] (Ar (ba (s++uJ (p.acts[i].dG.drop j))) ((i+1:Nat):Int) (eN p.names) (dw p.homes) (lH p.acts))=some r ->
    L tab (run tab X) 9 [] [.lp [1,1,1,0,1,0],.lp [1,0,0,1,1,0]] (kQ (ba s) (i:Int) (j:Int) (eN p.names) (dw p.homes) (lH p.acts))=some r:=by
  have S:=g.few.2;obtain⟨_,_,_,K,A⟩:=g.acts p.acts[i] (List.getElem_mem hi);have e3:((eA p.acts[i]).cell 2).toList=D8 p.acts[i].dG:=rfl;have a:(leI (0:Int) (i:Int)&&dM (i:Int) ((p.acts.length:Nat):Int))=true:=θ
  intro k;induction k with
  |zero=>intro j s G F h;refine dN ?_;rw[Au,bH,a,qCt,qIt,kH _ hi,e3,dL,show dM (j:Int) ((p.acts[i].dG.length:Nat):Int)=false from decide_eq_false ω,qCf,cZ i ω,<-h,show p.acts[i].dG.drop j=[] from List.drop_eq_nil_iff.2 ω,uJ,List.append_nil]
  |succ k E=>
   intro j s G F h;have f:j<p.acts[i].dG.length:=ω
   obtain⟨c,D,C,B⟩:=A _ (List.getElem_mem f);rw[jP]at D C B;have d:dM (j:Int) ((p.acts[i].dG.length:Nat):Int)=true:=decide_eq_true ω;have c0:∀m:Mv,((eM m).cell 0).toInt=m.to.x:=λ_=>rfl;have c1:∀m:Mv,((eM m).cell 1).toInt=m.to.y:=λ_=>rfl;have J:∀m:Mv,((eM m).cell 2).toInt=m.to.z:=λ_=>rfl;have I:∀m:Mv,((eM m).cell 3).toInt=m.wait:=λ_=>rfl;have H:∀m:Mv,((eM m).cell 4).toInt=m.fl:=λ_=>rfl;have c5:∀m:Mv,((eM m).cell 5).toInt=m.rise:=λ_=>rfl;have b:=c36 X hX p.acts[i].dG[j].to (KY c).1 (KY c).2;have q:=c37 X hX p.acts[i].dG[j].wait ω ω;have o:=c37 X hX p.acts[i].dG[j].fl ω ω;have l:=c37 X hX p.acts[i].dG[j].rise ω ω;obtain⟨⟨b1,Y⟩,⟨W,V⟩,U,T⟩:=XA c;have R:=jW (n:=p.acts[i].dG[j].to.x) ω;have Q:=jW (n:=p.acts[i].dG[j].to.y) ω;have P:=jW (n:=p.acts[i].dG[j].to.z) ω;have O:=jW (n:=p.acts[i].dG[j].wait) ω;have N:=jW (n:=p.acts[i].dG[j].fl) ω;have M:=jW (n:=p.acts[i].dG[j].rise) ω;have w0:(⟨#[109,111,118,101,32]⟩:ByteArray)=ba [109,111,118,101,32]:=rfl;have w:(⟨#[32]⟩:ByteArray)=ba [32]:=rfl;have u:(⟨#[10]⟩:ByteArray)=ba [10]:=rfl;refine dN ?_;rw[Au,bH,a,qCt,qIt,qIt,kH _ hi,e3,dL,d,qCt,qCt,show leI (0:Int) (j:Int)=true from decide_eq_true ω,qBs,qCt,yZ _ f,c0,c1,J,I,H,c5,w0,w,u,bZ,bZ,Vg (by simp;omega),qCt];show(run tab X 36 [.p (aQ p.acts[i].dG[j].to)] []).bind _=_;rw[b,qOb];simp only[qLh,fK,kU,iY,bZ];rw[Vg (by simp[oV];omega),qCt,Vg (by simp[oV];omega),qCt,q,qOb];simp only[qLh,fK,kU,iY,bZ];rw[Vg (by simp[oV];omega),qCt,Vg (by simp[oV];omega),qCt,o,qOb];simp only[qLh,fK,kU,iY,bZ];rw[Vg (by simp[oV];omega),qCt,Vg (by simp[oV];omega),qCt,l,qOb];simp only[qLh,fK,kU,iY,bZ];rw[Vg (by simp[oV];omega),qCt,Vg (by simp[oV];omega),qCt,cZ j ω];rw[qLc f,uJ]at h;have e:∀t,s++[109,111,118,101,32]++oV [Lib.itoa p.acts[i].dG[j].to.x,Lib.itoa p.acts[i].dG[j].to.y,Lib.itoa p.acts[i].dG[j].to.z]++[32]++Lib.itoa p.acts[i].dG[j].wait++[32]++Lib.itoa p.acts[i].dG[j].fl++[32]++Lib.itoa p.acts[i].dG[j].rise++[10]++t=s++(Px p.acts[i].dG[j]++t):=λt=>by simp[Px,vZ,oV]
   refine E (j+1) _ ω (by simp[oV];omega) ?_;grind
theorem l9c(p:Pg)(b:acn p):∀(k i:Nat) (s:List UInt8),i+k=p.acts.length->s.length<=1000000+100000*i ->
    L tab (run tab X) 9 [] [.lp [1,1,1,0,1,0]] (Ar (ba s) (i:Int) (eN p.names) (dw p.homes) (lH p.acts))=some ([.p (.str (ba (s++A8 (p.acts.drop i))))],[]):=by
  have B:=b.few.2;intro k;induction k with
  |zero=>intro i s hi j;refine dN ?_;rw[SY,bH,show dM (i:Int) ((p.acts.length:Nat):Int)=false from decide_eq_false ω,qCf,show p.acts.drop i=[] from List.drop_eq_nil_iff.2 ω,A8,List.append_nil]
  |succ k h=>
   intro i s hi j;have a:i<p.acts.length:=ω
   obtain⟨q1,z,y,x,w⟩:=b.acts p.acts[i] (List.getElem_mem a);have o:p.acts[i].name.length<=32:=by simp only[NZ,qBa,qDa]at q1;exact q1.1.2
   have u:((eA p.acts[i]).cell 0).toStr=ba p.acts[i].name:=rfl;have t:((eA p.acts[i]).cell 1).toInt=p.acts[i].len:=rfl;have d:=c37 X hX p.acts[i].len ω ω;have A:=jW (n:=p.acts[i].len) ω;have w0:(⟨#[97,99,116,32]⟩:ByteArray)=ba [97,99,116,32]:=rfl;have f:(⟨#[32]⟩:ByteArray)=ba [32]:=rfl;have e:(⟨#[10]⟩:ByteArray)=ba [10]:=rfl;refine dN ?_;rw[SY,bH,show dM (i:Int) ((p.acts.length:Nat):Int)=true from decide_eq_true ω,qCt,show leI (0:Int) (i:Int)=true from decide_eq_true ω,qBs,qIt,kH _ a,u,t,w0,f,e];simp only[qCt,iY,bZ];rw[Vg (by simp;omega),qCt,Vg (by simp;omega),qCt,Vg (by simp;omega),qCt,d,qOb];simp only[qLh,fK,kU,iY,bZ];rw[Vg (by simp;omega),qCt,Vg (by simp;omega),qCt];have c:∀l:List Mv,(∀m∈l,(Px m).length<=200)->(uJ l).length<=200*l.length:=by
    intro l;induction l with
    |nil=>intro _;simp[uJ]
    |cons m l g=>grind[uJ]
   have q:=c p.acts[i].dG λm r=>Ve m (b.rng.dG _ (List.getElem_mem a) m r);refine(show L tab (run tab X) 9 [] [.lp [1,1,1,0,1,0],.lp [1,0,0,1,1,0]] (kQ (ba (s++[97,99,116,32]++p.acts[i].name++[32]++Lib.itoa p.acts[i].len++[10])) (i:Int) ((0:Nat):Int) (eN p.names) (dw p.homes) (lH p.acts))=_ from ?_);refine l9m X hX p b i a _ p.acts[i].dG.length 0 _ ω (by simp;omega) ?_;rw[qLy,h (i+1) _ ω (by simp;omega),qLc a,A8];simp[Xw,uI,oV]
theorem l9a(p:Pg)(a:acn p):∀(k i:Nat) (s:List UInt8),i+k=p.names.length->s.length<=2000*i ->
    L tab (run tab X) 9 [] [.lp [1,1,0,1,0]] (Jj (ba s) (i:Int) (eN p.names) (dw p.homes) (lH p.acts))=some ([.p (.str (ba (s++yY (p.names.drop i) (p.homes.drop i)++A8 p.acts)))],[]):=by
  have u:=a.few.1;intro k;induction k with
  |zero=>intro i s hi j;refine dN ?_;rw[Xd,cu,show dM (i:Int) ((p.names.length:Nat):Int)=false from decide_eq_false ω,qCf,show p.names.drop i=[] from List.drop_eq_nil_iff.2 ω];have:=l9c X hX p a p.acts.length 0 s ω ω;grind[yY]
  |succ k h=>
   intro i s hi j;have e:i<p.names.length:=ω
   have d:i<p.homes.length:=by have:=a.len;omega
   have q1:=a.names _ (List.getElem_mem e);have l:p.names[i].length<=32:=by simp only[NZ,qBa,qDa]at q1;exact q1.1.2
   have c:=a.homes _ (List.getElem_mem d);have b:=c36 X hX p.homes[i] (KY c).1 (KY c).2;obtain⟨⟨b1,D⟩,⟨C,B⟩,A,w⟩:=XA c;have t:=jW (n:=p.homes[i].x) ω;have r:=jW (n:=p.homes[i].y) ω;have q:=jW (n:=p.homes[i].z) ω;have o:((PV.str (ba p.names[i])).cell 0).toStr=ba p.names[i]:=rfl;have e3:∀v:V3,((aQ v).cell 0).toInt=v.x:=λ_=>rfl;have m:∀v:V3,((aQ v).cell 1).toInt=v.y:=λ_=>rfl;have e5:∀v:V3,((aQ v).cell 2).toInt=v.z:=λ_=>rfl;have w0:(⟨#[97,105,114,99,114,97,102,116,32]⟩:ByteArray)=ba [97,105,114,99,114,97,102,116,32]:=rfl;have g:(⟨#[32]⟩:ByteArray)=ba [32]:=rfl;have f:(⟨#[10]⟩:ByteArray)=ba [10]:=rfl;refine dN ?_;rw[Xd,cu,bI,show dM (i:Int) ((p.names.length:Nat):Int)=true from decide_eq_true ω,qCt,show dM (i:Int) ((p.homes.length:Nat):Int)=true from decide_eq_true ω,show leI (0:Int) (i:Int)=true from decide_eq_true ω,qBs,qIt,sF _ e,oJ _ d,o,e3,m,e5,w0,g,f];simp only[qCt,iY,bZ];rw[Vg (by simp;omega),qCt,Vg (by simp;omega),qCt,Vg (by simp;omega),qCt];show(run tab X 36 [.p (aQ p.homes[i])] []).bind _=_;rw[b,qOb];simp only[qLh,fK,kU,iY,bZ];rw[Vg (by simp[oV];omega),qCt,Vg (by simp[oV];omega),qCt,cZ i ω,h (i+1) _ ω (by simp[oV];omega),qLc e,qLc d,yY];simp[Pv,vY,oV]
theorem c9(p:Pg)(a:bU p=true):run tab X 9 [.p (eG p)] []=some ([.p (.str (ba (kT p)))],[]):=
 aV (hX _ rfl) (by rw[eG,e9];have:=l9a X hX p (Jw a) p.names.length 0 [] ω σ;exact this)
end
end
section
open Go.Proofs
variable {n:Int}{c:UInt8}{g:List UInt8}{p:Pg}{w:List (List UInt8)}
def DJ(l:List Ac)(m:Mv):List Ac:=l.dropLast++l.getLast?.toList.map λa=>{a with dG:=a.dG++[m]}
theorem CP(l:List Ac)(a:Ac)(m:Mv):DJ (l++[a]) m=l++[{a with dG:=a.dG++[m]}]:=by simp[DJ]
def g6(n:List Int):Mv:=⟨⟨n.getD 0 0,n.getD 1 0,n.getD 2 0⟩,n.getD 3 0,n.getD 4 0,n.getD 5 0⟩
def jQ(p:Pg)(w:List (List UInt8))(n:List Int):Option Pg:=
 if w.headD []=vY/\n.length=3 then some ⟨p.names++[w.getD 1 []],p.homes++[⟨n.getD 0 0,n.getD 1 0,n.getD 2 0⟩],p.acts⟩
 else if w.headD []=uI/\n.length=1 then some ⟨p.names,p.homes,p.acts++[⟨w.getD 1 [],n.getD 0 0,[]⟩]⟩
 else if w.headD []=vZ/\n.length=6/\p.acts≠[]then some ⟨p.names,p.homes,DJ p.acts (g6 n)⟩else none
def DK(w:List (List UInt8)):Nat:=if w.headD []=vZ then 1 else 2
def Vk(p:Pg)(w:List (List UInt8)):Option Pg:=if DK w<=w.length then(qp (w.drop (DK w))).bind (jQ p w)else none
def rdR(p:Pg)(s:List UInt8):Option Pg:=Vk p (bG 32 s)
def WO(p:Pg)(w:List (List UInt8)):Option Pg:=
 if w.headD []=vY then(mF (w.drop 2) 3).bind (jQ p w)else if w.headD []=uI then(mF (w.drop 2) 1).bind (jQ p w)else if w.headD []=vZ then(mF (w.drop 1) 6).bind (jQ p w)else none
def N8(p:Pg)(s:List UInt8):Option Pg:=WO p (bG 32 s)
def iw(f:Pg->List UInt8->Option Pg):Pg->List (List UInt8)->Option Pg
 |p,[]=>some p
 |p,x::r=>(f p x).bind λq=>iw f q r
theorem sO(f:Pg->List UInt8->Option Pg):∀(a b:List (List UInt8)) (p:Pg),iw f p (a++b)=(iw f p a).bind λq=>iw f q b
 |[],_,_=>rfl
 |x::a,b,p=>by
  rw[List.cons_append,iw,iw];cases f p x with
  |none=>rfl
  |some q=>exact sO f a b q
def lY(s:List UInt8):List (List UInt8):=(bG 10 s).dropLast
def vC(s:List UInt8):List (List UInt8):=if(bG 10 s).getLast?=some []then(bG 10 s).dropLast else bG 10 s
def chk(s:List UInt8)(o:Option Pg):Option Pg:=o.bind λp=>if bU p=true/\kT p=s then some p else none
def N9(s:List UInt8):Option Pg:=chk s (iw rdR ⟨[],[],[]⟩ (lY s))
def D6(s:List UInt8):Option Pg:=chk s (iw N8 ⟨[],[],[]⟩ (vC s))
def Oa:List (List UInt8)->List V3->List (List UInt8)
 |g::gs,v::vs=>oV [vY,g,Lib.itoa v.x,Lib.itoa v.y,Lib.itoa v.z]::Oa gs vs
 |_,_=>[]
def XJ(l:List Mv):List (List UInt8):=l.map λm=>oV [vZ,Lib.itoa m.to.x,Lib.itoa m.to.y,Lib.itoa m.to.z,Lib.itoa m.wait,Lib.itoa m.fl,Lib.itoa m.rise]
def RS:List Ac->List (List UInt8)
 |[]=>[]
 |a::r=>(oV [uI,a.name,Lib.itoa a.len]::XJ a.dG)++RS r
def flat(l:List (List UInt8)):List UInt8:=l.flatMap λx=>x++[10]
theorem XK(a b:List (List UInt8)):flat (a++b)=flat a++flat b:=by simp[flat]
theorem PD:∀(a:List (List UInt8)) (vs:List V3),yY a vs=flat (Oa a vs)
 |[],[]=>rfl
 |[],_::_=>rfl
 |_::_,[]=>rfl
 |g::a,v::vs=>by have:=PD a vs;simp[yY,Pv,Oa,flat,List.flatMap_cons,this]
theorem PE:∀l:List Mv,uJ l=flat (XJ l)
 |[]=>rfl
 |m::r=>by have:=PE r;simp[uJ,Px,XJ,flat,List.flatMap_cons,List.map_cons,this]
theorem PG:∀l:List Ac,A8 l=flat (RS l)
 |[]=>rfl
 |a::r=>by have d:=PG r;have b:=PE a.dG;grind[RS,XK,A8,Xw,flat]
def lnP(p:Pg):List (List UInt8):=Oa p.names p.homes++RS p.acts
theorem Zv(p:Pg):kT p=flat (lnP p):=by rw[kT,PD,PG,lnP,XK]
theorem PI:∀l:List (List UInt8),(∀x∈l,10 ∉ x)->bG 10 (flat l)=l++[[]]
 |[],_=>rfl
 |x::r,h=>by
  have e:flat (x::r)=x++10::flat r:=by simp[flat]
  rw[e,sK _ (h x σ),PI r λy a=>h y (by simp[a])];rfl
theorem wX(a:c.toNat<45):c ∉ Lib.itoa n:=λh=>by have:=acu c h;omega
theorem y9:∀(w:List (List UInt8)),w≠[]->(∀x∈w,(32:UInt8) ∉ x)->bG 32 (oV w)=w
 |[],h,_=>absurd rfl h
 |[x],_,h=>uK (h x σ)
 |x::y::r,_,h=>by have e:oV (x::y::r)=x++32::oV (y::r):=rfl;rw[e,sK _ (h x σ),y9 (y::r) σ λz a=>h z (by simp[a])]
theorem Vl{c:UInt8}(b:c≠32):∀(w:List (List UInt8)),(∀x∈w,c ∉ x)->c ∉ oV w
 |[],_=>by simp[oV]
 |[x],h=>h x σ
 |x::y::r,h=>by have e:oV (x::y::r)=x++32::oV (y::r):=rfl;rw[e];have:=Vl b (y::r) λz a=>h z (by simp[a]);grind
theorem XL(g:List UInt8):∀(k i:Nat),G6 g i k=true->∀j,i<=j->j<i+k->aeu g j=true
 |0,_,_=>by intro j b a;omega
 |k+1,i,h=>by
  intro j b a;simp only[G6,qBa]at h;by_cases e:j=i
  .grind
  .exact XL g k (i+1) h.2 j ω ω
theorem Vm(h:NZ g=true)(b:c.toNat<45):c ∉ g:=λa=>by simp only[NZ,qBa]at h;obtain⟨i,hi,rfl⟩:=List.getElem_of_mem a;have:=XL g _ 0 h.2 i ω ω;simp only[aeu,qLb,qLd hi,Option.getD_some,qDa,nmP]at this;omega
structure Rd (f:Pg->List UInt8->Option Pg):Prop where
 air:∀(p:Pg) g v,NZ g=true->pt v=true->f p (oV [vY,g,Lib.itoa v.x,Lib.itoa v.y,Lib.itoa v.z])=some ⟨p.names++[g],p.homes++[v],p.acts⟩
 act:∀(p:Pg) g n,NZ g=true->1<=n->n<=3600000->f p (oV [uI,g,Lib.itoa n])=some ⟨p.names,p.homes,p.acts++[⟨g,n,[]⟩]⟩
 mov:∀ns hs (l:List Ac) (a:Ac) (m:Mv),pt m.to=true->AZ m.wait=true->AZ m.fl=true->AZ m.rise=true->f ⟨ns,hs,l++[a]⟩ (oV [vZ,Lib.itoa m.to.x,Lib.itoa m.to.y,Lib.itoa m.to.z,Lib.itoa m.wait,Lib.itoa m.fl,Lib.itoa m.rise])=some ⟨ns,hs,l++[{ a with dG:=a.dG++[m] }]⟩
section
variable {f:Pg->List UInt8->Option Pg} (hf:Rd f)
include hf
theorem XM:∀(a:List (List UInt8)) (vs:List V3) (p:Pg),vs.length=a.length->(∀g∈a,NZ g=true)->(∀v∈vs,pt v=true)->iw f p (Oa a vs)=some ⟨p.names++a,p.homes++vs,p.acts⟩
 |[],[],p,_,_,_=>by simp[Oa,iw]
 |[],_::_,_,h,_,_=>by simp at h
 |_::_,[],_,h,_,_=>by simp at h
 |g::a,v::vs,p,h,h1,h2=>by rw[Oa,iw,hf.air p g v (h1 g σ) (h2 v σ),qOb,XM a vs _ (by simpa using h) (λx b=>h1 x (by simp[b])) λx b=>h2 x (by simp[b])];simp
theorem XO:∀(e:List Mv) (b:List (List UInt8)) (d:List V3) (l:List Ac) (a:Ac),(∀m∈e,pt m.to=true/\AZ m.wait=true/\AZ m.fl=true/\AZ m.rise=true)->iw f ⟨b,d,l++[a]⟩ (XJ e)=some ⟨b,d,l++[{a with dG:=a.dG++e}]⟩
 |[],b,d,l,a,_=>by simp[XJ,iw]
 |m::e,b,d,l,a,h=>by obtain⟨o,k,j,h4⟩:=h m σ;have:=XO e b d l {a with dG:=a.dG++[m]} λx i=>h x (by simp[i]);rw[XJ,List.map_cons,iw,hf.mov b d l a m o k j h4,qOb];simp_all[XJ,this]
theorem XP(b:List (List UInt8))(d:List V3):∀(e l:List Ac),(∀a∈e,NZ a.name=true/\1<=a.len/\a.len<=3600000/\a.dG.length<=64/\∀m∈a.dG,pt m.to=true/\AZ m.wait=true/\AZ m.fl=true/\AZ m.rise=true)->iw f ⟨b,d,l⟩ (RS e)=some ⟨b,d,l++e⟩
 |[],l,_=>by simp[RS,iw]
 |a::e,l,h=>by obtain⟨o,k,j,-,h5⟩:=h a σ;rw[RS,sO,iw,hf.act ⟨b,d,l⟩ a.name a.len o k j,qOb,XO hf a.dG b d l _ h5,qOb,XP b d e _ λx i=>h x (by simp[i])];simp
theorem TS(a:bU p=true):iw f ⟨[],[],[]⟩ (lnP p)=some p:=by have n:=Jw a;rw[lnP,sO,XM hf p.names p.homes _ n.len n.names n.homes,qOb,XP hf _ _ p.acts _ n.acts];simp
end
theorem aeB(h:AZ n=true):-100000000<n/\n<100000000:=by simp only[AZ,qBa,qDa]at h;omega
theorem CQ:∀l:List Int,(∀n∈l,-100000000<n/\n<100000000)->qp (l.map Lib.itoa)=some l
 |[],_=>rfl
 |n::l,h=>by have a:=h n σ;rw[List.map_cons,qp,acj a.1 a.2,CQ l λx b=>h x (by simp[b])];rfl
theorem agQ(h:-100000000<n/\n<100000000):TP (Lib.itoa n)=true/\Py (Lib.itoa n)=n:=by have:=acv (n:=n) ω ω;simp[this,TP,Py,Bd]
theorem CS:∀l:List Int,(∀n∈l,-100000000<n/\n<100000000)->Bf (l.map Lib.itoa)=some l
 |[],_=>rfl
 |n::l,h=>by have a:=agQ (h n σ);rw[List.map_cons,Bf,a.1,a.2,CS l λx b=>h x (by simp[b])];rfl
theorem ahM{v:V3}(h:pt v=true):∀n∈[v.x,v.y,v.z],-100000000<n/\n<100000000:=by have:=XA h;simp;omega
theorem XQ(h:NZ g=true)(v:V3):bG 32 (oV [vY,g,Lib.itoa v.x,Lib.itoa v.y,Lib.itoa v.z])=[vY,g]++[v.x,v.y,v.z].map Lib.itoa:=
 y9 _ σ (by
  have:=Vm h (c:=32) δ;simp only[List.mem_cons,List.not_mem_nil,or_false];rintro x (rfl|rfl|rfl|rfl|rfl)
  .decide
  .exact this
  all_goals exact wX δ)
theorem XR(h:NZ g=true)(n:Int):bG 32 (oV [uI,g,Lib.itoa n])=[uI,g]++[n].map Lib.itoa:=
 y9 _ σ (by
  have:=Vm h (c:=32) δ;simp only[List.mem_cons,List.not_mem_nil,or_false];rintro x (rfl|rfl|rfl)
  .decide
  .exact this
  all_goals exact wX δ)
def m6(m:Mv):List Int:=[m.to.x,m.to.y,m.to.z,m.wait,m.fl,m.rise]
theorem XT(m:Mv):bG 32 (oV [vZ,Lib.itoa m.to.x,Lib.itoa m.to.y,Lib.itoa m.to.z,Lib.itoa m.wait,Lib.itoa m.fl,Lib.itoa m.rise])=vZ::(m6 m).map Lib.itoa:=
 y9 _ σ (by
  simp only[List.mem_cons,List.not_mem_nil,or_false];rintro x (rfl|rfl|rfl|rfl|rfl|rfl|rfl)
  .decide
  all_goals exact wX δ)
theorem ahN{m:Mv}(i:pt m.to=true)(h:AZ m.wait=true)(e:AZ m.fl=true)(h4:AZ m.rise=true):∀n∈m6 m,-100000000<n/\n<100000000:=by have a:=XA i;have b:=aeB h;have c:=aeB e;have d:=aeB h4;simp[m6];omega
theorem XU(b:List (List UInt8))(d:List V3)(l:List Ac)(a:Ac)(m:Mv)(w:List (List UInt8))(h:w.headD []=vZ):jQ ⟨b,d,l++[a]⟩ w (m6 m)=some ⟨b,d,l++[{a with dG:=a.dG++[m]}]⟩:=by unfold jQ;rw[h,if_neg (λe=>absurd e.1 δ),if_neg (λe=>absurd e.1 δ),if_pos ⟨rfl,rfl,σ⟩,CP];rfl
theorem aji:Rd rdR where
 air p g v h1 h2:=by rw[rdR,XQ h1,Vk];have e:DK ([vY,g]++[v.x,v.y,v.z].map Lib.itoa)=2:=rfl;rw[e,if_pos σ,show([vY,g]++[v.x,v.y,v.z].map Lib.itoa).drop 2=[v.x,v.y,v.z].map Lib.itoa from rfl,CQ _ (ahM h2)];rfl
 act p g n h1 h2 h3:=by rw[rdR,XR h1,Vk];have e:DK ([uI,g]++[n].map Lib.itoa)=2:=rfl;rw[e,if_pos σ,show([uI,g]++[n].map Lib.itoa).drop 2=[n].map Lib.itoa from rfl,CQ _ (by simp;omega)];rfl
 mov ns hs l a m h1 h2 h3 h4:=by rw[rdR,XT,Vk];have e:DK (vZ::(m6 m).map Lib.itoa)=1:=rfl;rw[e,if_pos σ,show(vZ::(m6 m).map Lib.itoa).drop 1=(m6 m).map Lib.itoa from rfl,CQ _ (ahN h1 h2 h3 h4)];exact XU ns hs l a m _ rfl
theorem aa2(h:w.headD []=vY):WO p w=(mF (w.drop 2) 3).bind (jQ p w):=by unfold WO;rw[if_pos h]
theorem aa3(h:w.headD []=uI):WO p w=(mF (w.drop 2) 1).bind (jQ p w):=by unfold WO;rw[if_neg (by rw[h];decide),if_pos h]
theorem aa4(h:w.headD []=vZ):WO p w=(mF (w.drop 1) 6).bind (jQ p w):=by unfold WO;rw[if_neg (by rw[h];decide),if_neg (by rw[h];decide),if_pos h]
theorem ajj:Rd N8 where
 air p g v h1 h2:=by rw[N8,XQ h1,aa2 rfl,show([vY,g]++[v.x,v.y,v.z].map Lib.itoa).drop 2=[v.x,v.y,v.z].map Lib.itoa from rfl,mF,CS _ (ahM h2)];rfl
 act p g n h1 h2 h3:=by rw[N8,XR h1,aa3 rfl,show([uI,g]++[n].map Lib.itoa).drop 2=[n].map Lib.itoa from rfl,mF,CS _ (by simp;omega)];rfl
 mov ns hs l a m h1 h2 h3 h4:=by rw[N8,XT,aa4 rfl,show(vZ::(m6 m).map Lib.itoa).drop 1=(m6 m).map Lib.itoa from rfl,mF,CS _ (ahN h1 h2 h3 h4)];exact XU ns hs l a m _ rfl
theorem aa5:∀(b:List (List UInt8)) (vs:List V3),(∀g∈b,NZ g=true)->∀x∈Oa b vs,(10:UInt8) ∉ x
 |[],[],_=>by simp[Oa]
 |[],_::_,_=>by simp[Oa]
 |_::_,[],_=>by simp[Oa]
 |g::b,v::vs,h=>by
  intro x a;rw[Oa,List.mem_cons]at a;rcases a with rfl |a
  .refine Vl δ _ ?_;have:=Vm (h g σ) (c:=10) δ;simp only[List.mem_cons,List.not_mem_nil,or_false];rintro x (rfl|rfl|rfl|rfl|rfl)
   .decide
   .exact this
   all_goals exact wX δ
  .exact aa5 b vs (λy d=>h y (by simp[d])) x a
theorem aa6:∀(d:List Ac),(∀a∈d,NZ a.name=true)->∀x∈RS d,(10:UInt8) ∉ x
 |[],_=>by simp[RS]
 |a::d,h=>by
  intro x b;rw[RS,List.mem_append,List.mem_cons,XJ,List.mem_map]at b;rcases b with (rfl |⟨m,_,rfl⟩) |b
  .refine Vl δ _ ?_;have:=Vm (h a σ) (c:=10) δ;simp only[List.mem_cons,List.not_mem_nil,or_false];rintro x (rfl|rfl|rfl)
   .decide
   .exact this
   all_goals exact wX δ
  .refine Vl δ _ ?_;simp only[List.mem_cons,List.not_mem_nil,or_false];rintro x (rfl|rfl|rfl|rfl|rfl|rfl|rfl)
   .decide
   all_goals exact wX δ
  .exact aa6 d (λy e=>h y (by simp[e])) x b
theorem PK(d:bU p=true):bG 10 (kT p)=lnP p++[[]]:=by
 have n:=Jw d;rw[Zv];refine PI _ λx b=>?_;rw[lnP,List.mem_append]at b;rcases b with b |b
 .exact aa5 _ _ n.names x b
 .exact aa6 _ (λa e=>(n.acts a e).1) x b
theorem acw(a:bU p=true):N9 (kT p)=some p:=by rw[N9,lY,PK a,List.dropLast_concat,TS aji a,chk,qOb,if_pos ⟨a,rfl⟩]
theorem acy(a:bU p=true):D6 (kT p)=some p:=by rw[D6,vC,PK a,if_pos σ,List.dropLast_concat,TS ajj a,chk,qOb,if_pos ⟨a,rfl⟩]
theorem XV{s:List UInt8}{o:Option Pg}(h:chk s o=some p):bU p=true/\kT p=s:=by grind[Option.bind_eq_some_iff,chk]
theorem acz(s:List UInt8):D6 s=N9 s:=by
 cases h:N9 s with
 |some p=>obtain⟨a,rfl⟩:=XV h;exact acy a
 |none=>
  cases b:D6 s with
  |none=>rfl
  |some p=>obtain⟨a,rfl⟩:=XV b;rw[acw a]at h;cases h
end
end Go.Skm.Prg
