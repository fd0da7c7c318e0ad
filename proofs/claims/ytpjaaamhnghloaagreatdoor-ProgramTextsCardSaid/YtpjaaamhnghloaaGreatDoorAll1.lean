import Derived.Test.YtpjaaamhnghloaaGreatDoorP21
import Derived.Test.YtpjaaamhnghloaaGreatDoorProg
import Derived.Test.YtpjaaamhnghloaaGreatDoorSkmE
import Derived.WalkKit
import Derived.OwnWalkIn
import Derived.OrdersIn
set_option linter.all false
namespace Go.Skm.Prg
open Go Go.Skm
section
theorem alH{x:Int}(b:0<=x)(a:x<256):IntKind.u8.wrap x=x:=by
 have:∀y:Int,y=x%2^8->(if(false&&decide (y >= 2^(8-1)))=true then y-2^8 else y)=x:=θ
 exact this _ rfl
def Vf(a:Int)(x:UInt8):Int:=10*a+((x.toNat:Int)-48)
def qU:Int->List UInt8->Int
 |a,[]=>a
 |a,x::r=>qU (Vf a x) r
theorem Ej:∀(xs ys:List UInt8) (a:Int),qU a (xs++ys)=qU (qU a xs) ys
 |[],_,_=>rfl
 |x::xs,ys,a=>by rw[List.cons_append,qU,qU,Ej xs ys]
theorem Xz{u:Nat}:qU 0 (Lib.decDigits u)=u:=by
 induction u using Nat.strongRecOn with
 |ind u a=>
  rw[Lib.decDigits];split
  .next h=>simp only[qU,Vf,lK h];omega
  .next h=>rw[Ej,a (u / 10) ω];simp only[qU,Vf,lK (show u%10<10 by omega)];omega
def Jv(x:UInt8):Bool:=decide (48<=x.toNat)&&decide (x.toNat<=57)
def Ba(s d:List UInt8)(g:Int):Int × Bool:=if 8<d.length then(0,false)else if d.all Jv then(g*qU 0 d,decide (Lib.itoa (g*qU 0 d)=s))else(0,false)
def Bc(s:List UInt8):Int × Bool:=match s with
 |45::d=>Ba s d (-1)
 |_=>Ba s s 1
def qp:List (List UInt8)->Option (List Int)
 |[]=>some []
 |s::r=>if(Bc s).2 then(qp r).map ((Bc s).1::·)else none
def TP(l:List UInt8):Bool:=match Lib.atoiAll l with
 |.ok _=>true
 |_=>false
def Py(l:List UInt8):Int:=((Bd l).headD .undef).pv.toInt
def Bf:List (List UInt8)->Option (List Int)
 |[]=>some []
 |s::r=>if TP s then(Bf r).map (Py s::·)else none
theorem acj{n:Int}(j:-100000000<n)(i:n<100000000):Bc (Lib.itoa n)=(n,true):=by
 have key:∀u:Nat,u<100000000->(Lib.decDigits u).length<=8:=λu g=>by
  have l:∀(k u:Nat),u<10^(k+1)->(Lib.decDigits u).length<=k+1:=by
   intro k;induction k with
   |zero=>intro u h;rw[sG ω];simp
   |succ k b=>
    intro u h;by_cases a:u<10
    .grind
    .rw[bT ω,qLp,sG (show u%10<10 by omega)];grind
  simp_all
 have c:∀u:Nat,(Lib.decDigits u).all Jv=true:=λu=>by
  induction u using Nat.strongRecOn with
  |ind u b=>
   by_cases a:u<10
   .rw[sG a];simp[Jv,lK a];omega
   .rw[bT ω,List.all_append,b (u / 10) ω,sG (show u%10<10 by omega)];simp[Jv,lK (show u%10<10 by omega)];omega
 by_cases h:n<0
 .grind[Xz,Lib.itoa,Bc,Ba]
 .have e:Lib.itoa n=Lib.decDigits n.toNat:=by unfold Lib.itoa;rw[if_neg h]
  have k:=key n.toNat ω;have v:(1:Int)*qU 0 (Lib.decDigits n.toNat)=n:=by rw[Xz];omega
  have f:∀d,Lib.decDigits n.toNat≠45::d:=λd hd=>by grind[Jv]
  unfold Bc;grind[Ba]
section
variable (X:Ext) (hX:Mine X)
include hX
theorem l77(s d:List UInt8)(g:Int)(n:g=1\/g=-1)(hd:d.length<=8):∀(k i:Nat),i+k=d.length->(d.take i).all Jv=true->0<=qU 0 (d.take i)->qU 0 (d.take i)<(10:Int)^i ->
    L tab (run tab X) 77 [] [.lp [1,1,1,1,1,0,1,0]] (lV (ba s) g (ba d) (qU 0 (d.take i)) (i:Int))=some ([Ab (Ba s d g).1,Ai (Ba s d g).2],[]):=by
  intro k;induction k with
  |zero=>
   intro i hi a j f;have hp:(10:Int)^i<=10^8:=by exact_mod_cast Nat.pow_le_pow_right (show 0<10 by decide) (show i<=8 by omega)
   rw[List.take_of_length_le ω]at a j f ⊢;refine dN ?_;rw[Jp,bZ,show dM (i:Int) ((d.length:Nat):Int)=false from decide_eq_false ω,qCf];have p:-100000000<=g*qU 0 d/\g*qU 0 d<=100000000:=by rcases n with rfl|rfl<;>omega
   rw[wrap_eq (x:=g*qU 0 d) ω ω,c37 X hX _ ω ω,qOb];grind[qLh,fK,kU,KX,zC,Ba]
  |succ k l=>
   intro i hi a j f;have hp:(10:Int)^i<=10^7:=by exact_mod_cast Nat.pow_le_pow_right (show 0<10 by decide) (show i<=7 by omega)
   have u:(10:Int)^(i+1)=10^i*10:=Int.pow_succ 10 i;have b:i<d.length:=ω
   have e:d.getD i 0=d[i]:=by simp[qLb,b]
   have w:IntKind.i64.wrap ((i:Int)+1)=((i+1:Nat):Int):=by rw[wrap_eq ω ω];omega
   have p:=d[i].toNat_lt;have c:d.take (i+1)=d.take i++[d[i]]:=List.take_succ_eq_append_getElem b;have m:(leI (0:Int) (i:Int)&&true)=true:=by rfl
   have t:Jv d[i]=false->some (([Ab 0,Ai false]:List AV),([]:List aH))=some ([Ab (Ba s d g).1,Ai (Ba s d g).2],[]):=λh=>by
    have:d.all Jv=false:=θ
    simp[this,Ba]
   refine dN ?_;rw[Jp,bZ,show dM (i:Int) ((d.length:Nat):Int)=true from decide_eq_true ω,qCt,m,qCt,Ju,qIt,e];by_cases y:(48:Int)<=((d[i]).toNat:Int)
   .rw[show dM ((d[i].toNat:Nat):Int) 48=false from decide_eq_false ω,qCf,qCt];by_cases v:((d[i]).toNat:Int)<=57
    .have o:Jv d[i]=true:=by unfold Jv;simp;omega
     rw[show zD ((d[i].toNat:Nat):Int) 57=false from decide_eq_false ω,qCf,qCt];have r:IntKind.u8.wrap (((d[i]).toNat:Int)-48)=((d[i]).toNat:Int)-48:=alH ω ω;have q:IntKind.i64.wrap (IntKind.i64.wrap (10*qU 0 (d.take i))+IntKind.i64.wrap (((d[i]).toNat:Int)-48))=qU 0 (d.take (i+1)):=by rw[c,Ej];simp only[qU,Vf];rw[wrap_eq (x:=10*qU 0 (d.take i)) ω ω,wrap_eq (x:=((d[i]).toNat:Int)-48) ω ω,wrap_eq ω ω]
     rw[r,q,w];refine l (i+1) ω ?_ ?_ ?_
     .grind
     .grind[Ej,qU,Vf]
     grind[Ej,qU,Vf]
    grind[Jv]
   grind[Jv]
theorem c77(s:List UInt8)(f:s.length<=1000000):run tab X 77 [.p (.str (ba s))] []=some ([Ab (Bc s).1,Ai (Bc s).2],[]):=
 aV (hX _ rfl) (by
  have c:∀d g,8<d.length->Ba s d g=(0,false):=λd g h=>by unfold Ba;rw[if_pos h]
  have a:∀d g,(g=1\/g=-1)->Bc s=Ba s d g->(bif (zD (((ba d).size:Nat):Int) (8:Int))then some (([Ab 0,Ai false]:List AV),([]:List aH))else L tab (run tab X) 77 [] [.lp [1,1,1,1,1,0,1,0]] (lV (ba s) g (ba d) 0 0))=some ([Ab (Bc s).1,Ai (Bc s).2],[]):=λd g i e=>by
   rw[e,bZ];by_cases h:8<d.length
   .grind
   .rw[show zD ((d.length:Nat):Int) 8=false from decide_eq_false ω,qCf];exact l77 X hX s d g i ω d.length 0 ω rfl (by simp[qU]) (by simp[qU])
  rw[e77]
  match s,f with
  |[],_=>rw[bZ,show zD ((([]:List UInt8).length:Nat):Int) 0=false from rfl,qCf];have:=a [] 1 (.inl rfl) rfl;grind[bZ]
  |x::r,f=>
   have b:(ba (x::r)).size=r.length+1:=by rw[bZ,qLl]
   rw[b,show zD ((r.length+1:Nat):Int) 0=true from decide_eq_true ω,qCt,show dM 0 ((r.length+1:Nat):Int)=true from decide_eq_true ω,qCt,Ju,qLz];by_cases h:x=45
   .subst h;rw[show((((45:UInt8).toNat:Nat):Int)==45)=true from rfl,qCt,show leI 1 ((r.length+1:Nat):Int)=true from decide_eq_true ω,show leI ((r.length+1:Nat):Int) ((r.length+1:Nat):Int)=true from decide_eq_true ω,qBs,qCt];have e:(ba (45::r)).extract 1 (((r.length+1:Nat):Int).toNat)=ba r:=by simp_all[ba_eq]
    rw[e];exact a r (-1) (.inr rfl) rfl
   .have j:(((x.toNat:Nat):Int) == 45)=false:=by rw[beq_eq_false_iff_ne];intro q;apply h;apply UInt8.toNat_inj.1;grind
    have e:Bc (x::r)=Ba (x::r) (x::r) 1:=by simp_all[Bc]
    grind)
end
end
section
structure Reads (X:Ext):Prop where
 split:∀l:List UInt8,l.length<=100000000->run tab X 74 [.p (.str (ba l)),.p (.str ⟨#[32]⟩)] []=some ([.fresh false [.str] (eN (bG 32 l))],[])
 atoi:∀l:List UInt8,l.length<=100000000->run tab X 108 [.p (.str (ba l))] []=some (Bd l,[])
def trimB(l:List UInt8):List UInt8:=if l.getLast?=some 10 then l.dropLast else l
def mF(w:List (List UInt8))(n:Nat):Option (List Int):=match Bf w with
 |some l=>if l.length=n then some l else none
 |none=>none
def ajh(o:Option (List Int)):List AV:=[.fresh false [.int .i64] (encI (o.getD [])),Ai o.isSome]
section
variable (X:Ext) (hX:Mine X)
include hX
theorem l42(w:List (List UInt8))(f:w.length<=1000000)(c:∀s∈w,s.length<=1000000):∀(k i:Nat) (acc:List Int),i+k=w.length->acc.length=i ->
    L tab (run tab X) 42 [] [.lp [1,1,0,1,0]] (FM (eN w) 0 i (i:Int) (encI acc))=some (ajh ((qp (w.drop i)).map (acc++·)),[]):=by
  intro k;induction k with
  |zero=>intro i acc hi e;refine dN ?_;rw[Tt,cu,show dM (i:Int) ((w.length:Nat):Int)=false from decide_eq_false ω,qCf,List.drop_eq_nil_of_le (show w.length<=i by omega),qLy,List.take_of_length_le (by simp[encI];omega)];simp[qp,ajh]
  |succ k b=>
   intro i acc hi e;have a:i<w.length:=ω
   have d:=c77 X hX w[i] (c _ (List.getElem_mem a));refine dN ?_;rw[Tt,cu,show dM (i:Int) ((w.length:Nat):Int)=true from decide_eq_true ω,qCt,show leI (0:Int) (i:Int)=true from decide_eq_true ω,qBs,qCt,qIt,sF _ a];show(run tab X 77 [.p (.str (ba w[i]))] []).bind _=_;rw[d,qOb,qLc a];simp only[qLh,List.tail_cons,fK,aJ,toInt_int];rw[qp];cases g:(Bc w[i]).2 with
   |false=>rfl
   |true=>rw[qBt,qCf,show rZ (i+1) 2147483648=true from decide_eq_true ω,qCt,cZ i ω,qLy,List.take_of_length_le (by simp[encI];omega)];have:=b (i+1) (acc++[(Bc w[i]).1]) ω (by simp;omega);rw[show encI acc++[Aw (Bc w[i]).1]=encI (acc++[(Bc w[i]).1]) by simp[encI],this,if_pos rfl,Option.map_map];congr 2;cases qp (w.drop (i+1))<;>simp
theorem c42(w:List (List UInt8))(a:w.length<=1000000)(b:∀s∈w,s.length<=1000000):run tab X 42 [.p (.list false [.str] (eN w))] []=some (ajh (qp w),[]):=
 aV (hX _ rfl) (by rw[e42];have:=l42 X hX w a b w.length 0 [] ω rfl;rw[qLy]at this;rw[show encI []=[] from rfl]at this;simp_all)
variable (hR:Reads X)
include hR
theorem l75(w:List (List UInt8))(n:Nat)(j:w.length<=1000000)(g:∀s∈w,s.length<=1000000):∀(k i:Nat) (acc:List Int),i+k=w.length->acc.length=i ->
    L tab (run tab X) 75 [] [.lp [1,1,0,1,0]] (FQ (n:Int) 0 i (eN w) ((w.length:Nat):Int) (i:Int) (encI acc))=some ([.fresh false [.int .i64] (encI (((Bf (w.drop i)).map (acc++·)).getD [])),.p (.bool (match (Bf (w.drop i)).map (acc++·)with |some l=>decide (l.length=n) |none=>false))],[]):=by
  have _:=hX;intro k;induction k with
  |zero=>
   intro i acc hi d;refine dN ?_;rw[TA,show dM (i:Int) ((w.length:Nat):Int)=false from decide_eq_false ω,qCf,List.drop_eq_nil_of_le (show w.length<=i by omega),qLy,List.take_of_length_le (by simp[encI];omega)];have:((i:Int)==(n:Int))=decide (acc.length=n):=by rw[d,Bool.eq_iff_iff];simp;omega
   simp[Bf,this]
  |succ k f=>
   intro i acc hi d;have c:i<w.length:=ω
   have h:=hR.atoi w[i] (by have:=g _ (List.getElem_mem c);omega);refine dN ?_;rw[TA,cu,show dM (i:Int) ((w.length:Nat):Int)=true from decide_eq_true ω,qCt,show leI (0:Int) (i:Int)=true from decide_eq_true ω,qBs,qCt,qIt,sF _ c];show(run tab X 108 [.p (.str (ba w[i]))] []).bind _=_;rw[h,qOb,qLc c,Bf];have b:Py w[i]=((Bd w[i]).headD .undef).pv.toInt:=rfl;unfold TP;cases a:Lib.atoiAll w[i]with
   |ok v=>
    have e:Bd w[i]=[Ab v,.p .rU]:=by unfold Bd;rw[a]
    rw[e]at b ⊢;simp only[qLh,List.tail_cons,fK,toInt_int]at b ⊢;rw[show PV.isI .rU=true from rfl,show PV.Ib .rU=true from rfl,qBs,qCt,qBt,qCf,show rZ (i+1) 2147483648=true from decide_eq_true ω,qCt,cZ i ω,qLy,List.take_of_length_le (by simp[encI];omega)];have:=f (i+1) (acc++[v]) ω (by simp;omega);rw[show encI acc++[Aw v]=encI (acc++[v]) by simp[encI],this,if_pos trivial,Option.map_map,b];cases Bf (w.drop (i+1))<;>simp
   |range=>
    have e:Bd w[i]=[Ab (Lib.atoiSat w[i]),.p .ifc]:=by unfold Bd;rw[a]
    rw[e];rfl
   |_=>
    have e:Bd w[i]=[Ab 0,.p .ifc]:=by unfold Bd;rw[a]
    rw[e];rfl
theorem c75(w:List (List UInt8))(n:Nat)(c:w.length<=1000000)(d:∀s∈w,s.length<=1000000):∃l:List Int,run tab X 75 [.p (.list false [.str] (eN w)),Ab (n:Int)] []=some ([.fresh false [.int .i64] (encI l),Ai (mF w n).isSome],[])/\∀m,mF w n=some m->l=m:=
 ⟨((Bf w).getD []),aV (hX _ rfl) (by
   rw[e75,cu];have:=l75 X hX hR w n c d w.length 0 [] ω rfl;rw[qLy,show encI []=[] from rfl,show((0:Nat):Int)=0 from rfl]at this;rw[this];unfold mF;grind),λm a=>by
   unfold mF at a;cases b:Bf w with
   |none=>rw[b]at a;cases a
   |some l=>
    rw[b]at a;simp only at a;split at a
    .cases a;rfl
    .cases a⟩
omit hR in
theorem c40(l:List UInt8)(d:l.length<=1000000):run tab X 40 [.p (.str (ba l)),.p (.str ⟨#[10]⟩)] []=some ([.p (.str (ba (trimB l)))],[]):=by
 have c:(⟨#[10]⟩:ByteArray).size=1:=rfl;have b:run tab X 109 [.p (.str (ba l)),.p (.str ⟨#[10]⟩)] []=some ([Ai (decide (l.getLast?=some 10))],[]):=aV (hX _ rfl) (by
  rw[e109,bZ,c];by_cases h:l=[]
  .subst h;rfl
  .have hp:0<l.length:=List.length_pos_iff.2 h
   rw[show RF ((l.length:Nat):Int) ((1:Nat):Int)=true from decide_eq_true (by omega),qCt,wrap_eq (x:=((l.length:Nat):Int)-((1:Nat):Int)) (by omega) (by omega),show leI 0 (((l.length:Nat):Int)-((1:Nat):Int))=true from decide_eq_true (by omega),show leI (((l.length:Nat):Int)-((1:Nat):Int)) ((l.length:Nat):Int)=true from decide_eq_true (by omega),show leI ((l.length:Nat):Int) ((l.length:Nat):Int)=true from decide_eq_true (by omega),qBs,qBs,qCt,
    show(((l.length:Nat):Int)-((1:Nat):Int)).toNat=l.length-1 by omega,qIt,KX]
   have e:(ba l).extract (l.length-1) l.length=ba [l.getLast h]:=by rw[ba_eq];simp[ba,ByteArray.data_extract,List.extract_eq_take_drop];rw[qLc (show l.length-1<l.length by omega),show l.length-1+1=l.length by omega,List.drop_length,List.getLast_eq_getElem h,show l.length-(l.length-1)=1 by omega];rfl
   rw[e,show(⟨#[10]⟩:ByteArray)=ba [10] from rfl];simp only[zC,List.getLast?_eq_some_getLast h,qOa,List.cons.injEq,and_true])
 have a:run tab X 76 [.p (.str (ba l)),.p (.str ⟨#[10]⟩)] []=some ([.p (.str (ba (trimB l)))],[]):=aV (hX _ rfl) (by
  rw[e76,b,qOb];simp only[qLh,fK,aJ];unfold trimB;by_cases h:l.getLast?=some 10
  .have hp:0<l.length:=by
     cases l with
     |nil=>simp at h
     |cons=>simp
   rw[decide_eq_true h,qCt,if_pos h,bZ,c,wrap_eq (x:=((l.length:Nat):Int)-((1:Nat):Int)) (by omega) (by omega),show leI 0 (((l.length:Nat):Int)-((1:Nat):Int))=true from decide_eq_true (by omega),show leI (((l.length:Nat):Int)-((1:Nat):Int)) ((l.length:Nat):Int)=true from decide_eq_true (by omega),qBs,qCt,
    show(((l.length:Nat):Int)-((1:Nat):Int)).toNat=l.length-1 by omega]
   have e:(ba l).extract 0 (l.length-1)=ba l.dropLast:=by rw[ba_eq];simp[ba,ByteArray.data_extract,List.extract_eq_take_drop,List.dropLast_eq_take]
   rw[e]
  .rw[decide_eq_false h,qCf,if_neg h])
 exact aV (hX _ rfl) (by rw[e40,a];rfl)
end
end
section
open Go.Proofs
variable {Bi Bl Br i k m n:Nat}{K:Act -> World -> Prop}{a a0:Act}{w w' wB wC:World}{o:Oper}{F:Fence}{Q:Exit -> Act -> World -> Prop}{pv v' vi:Value}
section
variable {F:Fence}{n:Nat}{P:Program}{ops:Array Oper}{Q:Exit->Act->World->Prop}{md:Region.Mode}
def aiI(n:Nat)(L:Nat->Bool):Nat:=((List.range n).filter λi=>!L i).length
theorem filter_one{L:Nat->Bool}{i:Nat}(h:L i=false):∀l:List Nat,l.Nodup->i∈l->(l.filter λj=>!(L j||j==i)).length+1=(l.filter λj=>!L j).length
 |[],_,hm=>by simp at hm
 |x::r,hn,hm=>by
  have b:=List.nodup_cons.1 hn;by_cases e:x=i
  .subst e;have d:r.filter (λj=>!(L j||j==x))=r.filter λj=>!L j:=List.filter_congr λj f=>θ
   grind
  .have g:(x==i)=false:=by simpa using e
   have c:=filter_one h r b.2 ((List.mem_cons.1 hm).resolve_left λh=>e h.symm);grind
theorem WV{n:Nat}{L:Nat->Bool}(hi:i<n)(h:L i=false):aiI n (λj=>L j||j==i)+1=aiI n L:=
 filter_one h _ List.nodup_range (List.mem_range.2 hi)
theorem aaI(I:(Nat->Bool)->Act->World->Prop)(A:∀i o,ops[i]?=some o->∀e∈o.after.toList,Region.binds md e=true->e.on<i)
    (step:∀L a w i o,ops[i]?=some o->L i=false->(∀e∈o.after.toList,Region.binds md e=true->L e.on=true)->I L a w->wpOpIn F n P ops Q i (I λj=>L j||j==i) a w)
    (q:∀L a w,(∀i,i<ops.size->L i=true)->I L a w->Q .normal a w) :
    ∀(b:Nat) (listed:Array Bool) (a:Act) (w:World),listed.size=ops.size->aiI ops.size (λi=>listed.getD i false)<=b->I (λi=>listed.getD i false) a w->wpAnyIn F n P md ops Q b listed a w:=by
  have t:∀(listed:Array Bool) i,i<listed.size->listed.getD i true=listed.getD i false:=λl i h=>by simp[Array.getD,h]
  have g:∀(listed:Array Bool) (a:Act) (w:World),listed.size=ops.size->I (λi=>listed.getD i false) a w->Region.ready md ops listed=[]->Q .normal a w:=by
   intro listed a w r d u;refine q _ a w (λi hi=>?_) d;induction i using Nat.strongRecOn with
   |ind i x=>
   cases v:listed.getD i false with
   |true=>rfl
   |false=>
   exfalso;have C:i∈Region.ready md ops listed:=by unfold Region.ready;grind
   grind
  intro b;induction b with
  |zero=>
   intro listed a w r v d;have p:∀i,i<ops.size->listed.getD i false=true:=λi hi=>by
    cases h:listed.getD i false with
    |true=>rfl
    |false=>have:=WV (n:=ops.size) (L:=λi=>listed.getD i false) hi h;omega
   have u:Region.ready md ops listed=[]:=by unfold Region.ready;refine List.filter_eq_nil_iff.2 λi hi=>?_;grind
   exact⟨u,q _ a w p d⟩
  |succ b x=>
   intro listed a w r v d;refine⟨g listed a w r d,λi hi=>?_⟩;unfold Region.ready at hi;obtain⟨c,f⟩:=List.mem_filter.1 hi;have c:=List.mem_range.1 c;rw[t _ _ ω,qAd c,Option.map_some,Option.getD_some,qBa,<-Array.all_toList]at f;obtain⟨s,E⟩:=f;have s:listed.getD i false=false:=by simpa using s
   refine wpOpIn_mono (λa' w' B=>?_) (step _ a w i ops[i] (qAd c) s (λe D z=>?_) d)
   .have G:(λj=>listed.getD j false || j == i)=λj=>(listed.setIfInBounds i true).getD j false:=by
      funext j;by_cases e:j=i
      .subst e;simp[Array.getD,r,c]
      .have A:(j==i)=false:=by simpa using e
       have:(listed.setIfInBounds i true).getD j false=listed.getD j false:=by simp[qAb,qAe (Ne.symm e)]
       grind
    have y:=WV (n:=ops.size) (L:=λi=>listed.getD i false) c s;grind
   grind
theorem lU{v:Value}(g:ops[i]?=some o)(j:o.guard=none)(b:o.about P w a.eval=none)(hd:∀c,o.op≠.defer c)
    (e:(execOp a.eval o).run P w=.ok (.value v) w')(l:K (a.put o.dst v) w'):wpOpIn F n P ops Q i K a w:=by
  unfold wpOpIn;rw[g];have d:Region.wanted o (yielded ops a.tmps)=true:=by simp[Region.wanted,j]
  simp only[d,if_true];unfold Oper.wpIn;refine⟨λf h=>(by rw[b]at h;cases h),?_⟩;rw[Oper.semAt_plain F _ _ hd,e];exact l
theorem WW(g:ops[i]?=some o)(j:o.guard=none)(b:o.about P w a.eval=none)(hd:∀c,o.op≠.defer c)
    (e:(execOp a.eval o).run P w=.ok .skip w')(l:K (a.put o.dst undef) w'):wpOpIn F n P ops Q i K a w:=by
  unfold wpOpIn;rw[g];have d:Region.wanted o (yielded ops a.tmps)=true:=by simp[Region.wanted,j]
  simp only[d,if_true];unfold Oper.wpIn;refine⟨λf h=>(by rw[b]at h;cases h),?_⟩;rw[Oper.semAt_plain F _ _ hd,e];exact l
end
noncomputable def aga:Code:=match Tryz.f47.body with
 |some (.seq _ (.seq _ (.seq _ (.seq (.seq _ (.block _ (.loop c))) _))))=>c
 |_=>.skip
noncomputable def agb:Code:=match aga with
 |.seq _ (.seq _ (.seq (.block _ c) _))=>c
 |_=>.skip
noncomputable def aaJ:Code × Code:=match agb with
 |.seq _ (.seq _ (.seq (.seq _ (.block _ (.rangeFunc _ _ a b))) _))=>(a,b)
 |_=>(.skip,.skip)
noncomputable def wO:Code:=aaJ.1
noncomputable def xA:Code:=aaJ.2
def ops9:Array Oper:=#[
 ⟨some 27,.load 42 (.tmp 3),42,"program.go:119",#[],none⟩,
 ⟨some 28,.load 3 (.tmp 7),3,"program.go:119",#[],none⟩,
 ⟨some 29,.load 42 (.tmp 3),42,"program.go:119",#[],none⟩,
 ⟨some 30,.load 3 (.tmp 7),3,"program.go:119",#[],none⟩,
 ⟨some 31,.indexAddr 42 (.tmp 29) (.tmp 30),0,"program.go:119",#[⟨2,.data⟩,⟨3,.data⟩],none⟩,
 ⟨some 32,.load 50 (.tmp 31),50,"program.go:119",#[⟨4,.data⟩],none⟩,
 ⟨some 33,.move (.tmp 8),50,"program.go:119",#[],none⟩,
 ⟨some 34,.call {callee:=.builtin .append,args:=#[.tmp 32,.tmp 33],argTypes:=#[50,50]},50,"program.go:119",#[⟨5,.data⟩,⟨6,.data⟩],none⟩,
 ⟨some 35,.indexAddr 42 (.tmp 27) (.tmp 28),0,"program.go:119",#[⟨0,.data⟩,⟨1,.data⟩,⟨0,.phase⟩,⟨1,.phase⟩,⟨2,.phase⟩,⟨3,.phase⟩,⟨4,.phase⟩,⟨5,.phase⟩,⟨6,.phase⟩,⟨7,.phase⟩],none⟩,
 ⟨none,.store 50 (.tmp 35) (.tmp 34),0,"program.go:119",#[⟨8,.data⟩,⟨7,.data⟩,⟨7,.chain⟩,⟨0,.phase⟩,⟨1,.phase⟩,⟨2,.phase⟩,⟨3,.phase⟩,⟨4,.phase⟩,⟨5,.phase⟩,⟨6,.phase⟩,⟨7,.phase⟩],none⟩]
noncomputable def adF:Code:=match xA with
 |.block _ (.seq _ b)=>b
 |_=>.skip
theorem round_eq:xA=.block 3 (.seq (.region 9 ops9 true) adF):=τ
theorem akS:∀i o,ops9[i]?=some o->∀e∈o.after.toList,Region.binds .any e=true->e.on<i:=by
 intro i o h;have hi:i<10:=(qAa.1 h).1
 rcases(show i=0\/i=1\/i=2\/i=3\/i=4\/i=5\/i=6\/i=7\/i=8\/i=9 by omega)with rfl|rfl|rfl|rfl|rfl|rfl|rfl|rfl|rfl|rfl <;>
  (simp[ops9]at h;subst h;simp)
def agc(sv:Value)(k:Nat)(pk vi pv v':Value):Nat->Value
 |0=>sv
 |1=>.int .i64 k
 |2=>sv
 |3=>.int .i64 k
 |4=>pk
 |5=>vi
 |6=>pv
 |7=>v'
 |_=>pk
structure S9 (val:Nat->Value) (a0:Act) (wA wB wC:World) (L:Nat->Bool) (a:Act) (w:World):Prop where
 size:a.tmps.size=a0.tmps.size
 defers:a.defers=a0.defers
 keep:∀t,t<27\/35<t->a.tmps.getD t undef=a0.tmps.getD t undef
 got:∀i,i<9->L i=true->a.tmps.getD (27+i) undef=val i
 hw:w=bif L 9 then wC else bif L 7 then wB else wA
 c9:L 9=true->∀i,i<9->L i=true
 c7:L 7=true->L 5=true
theorem S9.put {val : Nat -> Value}{a0 : Act}{wA wB wC : World}{L : Nat -> Bool}{a : Act}{w : World} (h : S9 val a0 wA wB wC L a w) {i : Nat} (hi : i < 9) (h57 : i = 7 -> L 5 = true) (h35 : 35 < a0.tmps.size) {w' : World} (hw : w' = bif L 9 then wC else bif (L 7 || 7 == i) then wB else wA) :
    S9 val a0 wA wB wC (λj=>L j||j==i) (a.put (some (27+i)) (val i)) w' where
  size:=by simp[Act.put,h.size]
  defers:=h.defers
  keep t ht:=by
   have:t≠27+i:=ω
   rw[<-h.keep t ht]
   simp[Act.put,qAb,qAe (Ne.symm this)]
  got j hj hL:=by
   by_cases e:j=i
   .subst e
    have:27+j<a.tmps.size:=by rw[h.size];omega
    simp_all [Act.put]
   .have hb:(j==i)=false:=by simpa using e
    rw[hb,Bool.or_false]at hL
    rw[<-h.got j hj hL]
    have:27+i≠27+j:=ω
    simp_all [Act.put,qAb]
  hw:=θ
  c9 h9:=by
   have:(9==i)=false:=by simp;omega
   rw[this,Bool.or_false]at h9
   intro j hj
   rw[h.c9 h9 j hj,Bool.true_or]
  c7 h7:=by
   by_cases e:i=7
   .grind
   .have:(7==i)=false:=by simpa using λh:7=i=>e h.symm
    rw[this,Bool.or_false]at h7
    rw[h.c7 h7,Bool.true_or]
set_option maxRecDepth 10000 in
theorem akT{q:World}(J:k<n)(b:35<a0.tmps.size)
    (O:a0.tmps.getD 3 undef=.pointer (some ⟨Bl,0,none⟩))(N:a0.tmps.getD 7 undef=.pointer (some ⟨Bi,0,none⟩))(M:a0.tmps.getD 8 undef=pv)
    (G:q.cell? ⟨Bl,0,none⟩=some (.slice (some ⟨Br,0,none⟩) n n))(E:wB.cell? ⟨Bl,0,none⟩=some (.slice (some ⟨Br,0,none⟩) n n))
    (I:q.cell? ⟨Bi,0,none⟩=some (.int .i64 k))(H:wB.cell? ⟨Bi,0,none⟩=some (.int .i64 k))
    (R:q.cell? ⟨Br,k,none⟩=some vi)
    (C:(Builtin.append_ #[50,50] 50 #[vi,pv]).run Tryz.prog q=.ok v' wB)
    (A:(Instr.storeAt 50 (.pointer (some ⟨Br,k,none⟩)) v').run Tryz.prog wB=.ok () wC) :
    ∀L a w i o,ops9[i]?=some o->L i=false->(∀e∈o.after.toList,Region.binds .any e=true->L e.on=true) ->
     S9 (agc (.slice (some ⟨Br,0,none⟩) n n) k (.pointer (some ⟨Br,k,none⟩)) vi pv v') a0 q wB wC L a w ->
     wpOpIn F m Tryz.prog ops9 Q i (S9 (agc (.slice (some ⟨Br,0,none⟩) n n) k (.pointer (some ⟨Br,k,none⟩)) vi pv v') a0 q wB wC λj=>L j||j==i) a w:=by
  intro L a w i o f p d h;have hi:i<10:=(qAa.1 f).1;have e3:a.eval (.tmp 3)=.pointer (some ⟨Bl,0,none⟩):=(h.keep 3 ω).trans O;have e7:a.eval (.tmp 7)=.pointer (some ⟨Bi,0,none⟩):=(h.keep 7 ω).trans N;have e8:a.eval (.tmp 8)=pv:=(h.keep 8 ω).trans M;have g:∀j,j<9->L j=true->a.eval (.tmp (27+j))=agc (.slice (some ⟨Br,0,none⟩) n n) k (.pointer (some ⟨Br,k,none⟩)) vi pv v' j:=λj r B=>h.got j r B;have s:∀(x:Nat) (c:Value),q.cell? ⟨x,0,none⟩=some c->wB.cell? ⟨x,0,none⟩=some c->L 9=false->w.cell? ⟨x,0,none⟩=some c:=λx c q1 S D=>by
   rw[h.hw,D];cases L 7
   .exact q1
   .exact S
  have t:∀j,j<9->L j=false->L 9=false:=λj r B=>by
   cases D:L 9 with
   |false=>rfl
   |true=>have:=h.c9 D j r;rw[B]at this;cases this
  rcases(show i=0\/i=1\/i=2\/i=3\/i=4\/i=5\/i=6\/i=7\/i=8\/i=9 by omega)with rfl|rfl|rfl|rfl|rfl|rfl|rfl|rfl|rfl|rfl;all_goals (have z:=f;simp only[ops9,List.getElem?_toArray,List.getElem?_cons_zero,List.getElem?_cons_succ,qOa]at z;subst z)
  .have u:=s Bl _ G E (t 0 δ p);refine lU f rfl (by simp[Oper.about]) (λc h=>by cases h) (v:=.slice (some ⟨Br,0,none⟩) n n) (w':=w) (by simp only[execOp,e3];simp[Instr.loadAt,go_sem,u]) ?_;exact h.put δ (λe=>by cases e) b (by rw[h.hw];simp)
  .have u:=s Bi _ I H (t 1 δ p);refine lU f rfl (by simp[Oper.about]) (λc h=>by cases h) (v:=.int .i64 k) (w':=w) (by simp only[execOp,e7];simp[Instr.loadAt,go_sem,u]) ?_;exact h.put δ (λe=>by cases e) b (by rw[h.hw];simp)
  .have u:=s Bl _ G E (t 2 δ p);refine lU f rfl (by simp[Oper.about]) (λc h=>by cases h) (v:=.slice (some ⟨Br,0,none⟩) n n) (w':=w) (by simp only[execOp,e3];simp[Instr.loadAt,go_sem,u]) ?_;exact h.put δ (λe=>by cases e) b (by rw[h.hw];simp)
  .have u:=s Bi _ I H (t 3 δ p);refine lU f rfl (by simp[Oper.about]) (λc h=>by cases h) (v:=.int .i64 k) (w':=w) (by simp only[execOp,e7];simp[Instr.loadAt,go_sem,u]) ?_;exact h.put δ (λe=>by cases e) b (by rw[h.hw];simp)
  .have Y:a.eval (.tmp 29)=.slice (some ⟨Br,0,none⟩) n n:=g 2 δ (d ⟨2,.data⟩ σ rfl);have X:a.eval (.tmp 30)=.int .i64 k:=g 3 δ (d ⟨3,.data⟩ σ rfl);refine lU f rfl (by simp[Oper.about]) (λc h=>by cases h) (v:=.pointer (some ⟨Br,k,none⟩)) (w':=w) (by simp only[execOp,Y,X];simp[Instr.indexAt,go_sem,J]) ?_;exact h.put δ (λe=>by cases e) b (by rw[h.hw];simp)
  .have W:a.eval (.tmp 31)=.pointer (some ⟨Br,k,none⟩):=g 4 δ (d ⟨4,.data⟩ σ rfl);have y:L 7=false:=by
    cases y:L 7 with
    |false=>rfl
    |true=>have:=h.c7 y;rw[p]at this;cases this
   have hw:w=q:=by rw[h.hw,t 5 δ p,y];rfl
   subst hw;refine lU f rfl (by simp[Oper.about]) (λc h=>by cases h) (v:=vi) (w':=w) (by simp only[execOp,W];simp[Instr.loadAt,go_sem,R]) ?_;exact h.put δ (λe=>by cases e) b (by rw[t 5 δ p,y];rfl)
  .refine lU f rfl (by simp[Oper.about]) (λc h=>by cases h) (v:=pv) (w':=w) (by simp only[execOp,e8];rfl) ?_;exact h.put δ (λe=>by cases e) b (by rw[h.hw];simp)
  .have V:a.eval (.tmp 32)=vi:=g 5 δ (d ⟨5,.data⟩ σ rfl);have g6:a.eval (.tmp 33)=pv:=g 6 δ (d ⟨6,.data⟩ σ rfl);have hw:w=q:=by rw[h.hw,t 7 δ p,p];rfl
   subst hw;refine lU f rfl (by simp[Oper.about,resolve,Target.leads]) (λc h=>by cases h) (v:=v') (w':=wB) (by simp only[execOp,resolve,invoke,builtin,Sem.run_bind,Sem.run_pure,qRa,List.map_toArray,List.map_cons,List.map_nil,V,g6,C]) ?_;exact h.put δ (λ_=>d ⟨5,.data⟩ σ rfl) b (by rw[t 7 δ p];simp)
  .have g0:a.eval (.tmp 27)=.slice (some ⟨Br,0,none⟩) n n:=g 0 δ (d ⟨0,.data⟩ σ rfl);have Z:a.eval (.tmp 28)=.int .i64 k:=g 1 δ (d ⟨1,.data⟩ σ rfl);refine lU f rfl (by simp[Oper.about]) (λc h=>by cases h) (v:=.pointer (some ⟨Br,k,none⟩)) (w':=w) (by simp only[execOp,g0,Z];simp[Instr.indexAt,go_sem,J]) ?_;exact h.put δ (λe=>by cases e) b (by rw[h.hw];simp)
  .have U:a.eval (.tmp 34)=v':=g 7 δ (d ⟨7,.data⟩ σ rfl);have T:a.eval (.tmp 35)=.pointer (some ⟨Br,k,none⟩):=g 8 δ (d ⟨8,.data⟩ σ rfl);have y:=d ⟨7,.data⟩ σ rfl;have hw:w=wB:=by rw[h.hw,p,y];rfl
   subst hw;refine WW f rfl (by simp[Oper.about]) (λc h=>by cases h) (w':=wC) (by simp only[execOp,U,T];simp[A]) ?_;have l:∀j,j<9->L j=true:=λj r=>by
    rcases(show j=0\/j=1\/j=2\/j=3\/j=4\/j=5\/j=6\/j=7\/j=8 by omega)with rfl|rfl|rfl|rfl|rfl|rfl|rfl|rfl|rfl
    all_goals first
     |exact d ⟨8,.data⟩ σ rfl
     |exact d ⟨_,.phase⟩ σ rfl
   exact⟨h.size,h.defers,h.keep,λj r _=>h.got j r (l j r),σ,λ_ j r=>by rw[l j r,Bool.true_or],λ_=>by rw[l 5 δ,Bool.true_or]⟩
theorem zB:Tryz.prog.follows .mixedOrders=true:=τ
theorem Zc(v:k<n)(f:35<a0.tmps.size)
    (l:a0.tmps.getD 3 undef=.pointer (some ⟨Bl,0,none⟩))(j:a0.tmps.getD 7 undef=.pointer (some ⟨Bi,0,none⟩))(g:a0.tmps.getD 8 undef=pv)
    (r:w.cell? ⟨Bl,0,none⟩=some (.slice (some ⟨Br,0,none⟩) n n))(q:wB.cell? ⟨Bl,0,none⟩=some (.slice (some ⟨Br,0,none⟩) n n))
    (u:w.cell? ⟨Bi,0,none⟩=some (.int .i64 k))(s:wB.cell? ⟨Bi,0,none⟩=some (.int .i64 k))
    (p:w.cell? ⟨Br,k,none⟩=some vi)
    (d:(Builtin.append_ #[50,50] 50 #[vi,pv]).run Tryz.prog {w with drawn:=w.drawn+1}=.ok v' wB)
    (c:(Instr.storeAt 50 (.pointer (some ⟨Br,k,none⟩)) v').run Tryz.prog wB=.ok () wC)
    (post:∀a:Act,a.tmps.size=a0.tmps.size->a.defers=a0.defers->(∀t,t<27\/35<t->a.tmps.getD t undef=a0.tmps.getD t undef)->Q .normal a wC) :
    (Code.region 9 ops9 true).wpIn F m Tryz.prog Q a0 w:=by
  refine wpIn_region_any zB ?_
  refine aaI (S9 (agc (.slice (some ⟨Br,0,none⟩) n n) k (.pointer (some ⟨Br,k,none⟩)) vi pv v') a0 {w with drawn:=w.drawn+1} wB wC) akS
   (akT v f l j g r q u s p d c) (λL a w' b h=>?_) _ _ _ _ σ ?_ ?_
  .have y:L 9=true:=b 9 δ;have e:=h.hw;rw[y]at e;rw[show w'=wC from e];exact post a h.size h.defers h.keep
  .refine Nat.le_trans (List.length_filter_le _ _) ?_;simp
  .have x:(λi=>(Array.replicate ops9.size false).getD i false)=λ_=>false:=by funext i;rw[qAb,Array.getElem?_replicate];split<;>rfl
   rw[x];exact⟨rfl,rfl,λ_ _=>rfl,λi _ h=>(by cases h),rfl,λh=>(by cases h),λh=>(by cases h)⟩
end
end Go.Skm.Prg
