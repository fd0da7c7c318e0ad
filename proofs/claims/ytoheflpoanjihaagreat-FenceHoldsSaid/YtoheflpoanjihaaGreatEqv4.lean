import Derived.Test.YtoheflpoanjihaaGreatSkmD
import Derived.Test.YtoheflpoanjihaaGreatTab
import Derived.KernelRfl
set_option linter.all false
set_option maxRecDepth 100000
namespace Go.Skm.Fen
open Go Go.Skm
variable {C:aH}{b f i n r t v x:List PV}{a e h l q s u w y z A B D E F H I J K M N:Int}{d:Bool}{c g j o:Nat}
def Nv(a:Int)(b:List PV)(c d:Int)(e f:List PV)(g h i j k l m n o:Int)(q:Bool)(r:List PV)(s t:Int):St:=⟨.undef::.undef::.undef::(Ab a)::.undef::(.ptr 5 0 0)::(.ptr 6 0 0)::(.ptr 7 0 0)::.undef::(.ptr 9 0 0)::(.ptr 10 0 0)::(.ptr 11 0 0)::Uq 70 ((.p (.list false [.slice true aU] b))::(Ab c)::(Ab d)::Ur 207),[(5,.box [.p (.list true aU e),.p (.list false [.slice true aU] f),Ab g,Ab h]),(6,.box [Ab i,Ab j,Ab k]),(7,.box [Ab l,Ab m,Ab n]),(9,.box [Ab o]),(10,.box [Ac q]),(11,.box [.p (.list true aU r),.p (.nil),Ab s,Ab t])]⟩
def zL(a:Int)(b:List PV)(c d:Int)(e f:List PV)(g h i j k l m n o:Int)(q:Bool)(r:List PV)(s t:Nat)(u v:Int)(w:List PV):St:=⟨.undef::.undef::.undef::(Ab a)::.undef::(.ptr 5 0 0)::(.ptr 6 0 0)::(.ptr 7 0 0)::.undef::(.ptr 9 0 0)::(.ptr 10 0 0)::(.ptr 11 0 0)::Uq 70 ((.p (.list false [.slice true aU] b))::(Ab c)::(Ab d)::Ur 207),[(5,.box [.p (.list true aU e),.p (.list false [.slice true aU] f),Ab g,Ab h]),(6,.box [Ab i,Ab j,Ab k]),(7,.box [Ab l,Ab m,Ab n]),(9,.box [Ab o]),(10,.box [Ac q]),(11,.box [.p (.list true aU r),.slice 94 1 s t,Ab u,Ab v]),(94,.arr false [.slice true aU] w)]⟩
def jW(a:Int)(b c:List PV)(d e:Int)(f g:List PV)(h i j k l m n o q:Int)(r:Bool)(s:List PV)(t u v:Int):St:=⟨Uq 5 ((.ptr 5 0 0)::(.ptr 6 0 0)::(.ptr 7 0 0)::.undef::(.ptr 9 0 0)::(.ptr 10 0 0)::(.ptr 11 0 0)::Uq 8 ((Ab a)::.undef::.undef::(.ptr 23 0 0)::Uq 144 ((.p (.fn 87 [.ref [.list true aU b,.list false [.slice true aU] c,Ap d,Ap e]]))::Ur 123))),[(5,.box [.p (.list true aU f),.p (.list false [.slice true aU] g),Ab h,Ab i]),(6,.box [Ab j,Ab k,Ab l]),(7,.box [Ab m,Ab n,Ab o]),(9,.box [Ab q]),(10,.box [Ac r]),(11,.box [.p (.list true aU s),.p (.nil),Ab t,Ab u]),(23,.box [Ab v])]⟩
def jX(a:Int)(b c:List PV)(d e:Int)(f g:List PV)(h i j k l m n o q:Int)(r:Bool)(s:List PV)(t u:Nat)(v w:Int)(x:List PV)(y:Int):St:=⟨Uq 5 ((.ptr 5 0 0)::(.ptr 6 0 0)::(.ptr 7 0 0)::.undef::(.ptr 9 0 0)::(.ptr 10 0 0)::(.ptr 11 0 0)::Uq 8 ((Ab a)::.undef::.undef::(.ptr 23 0 0)::Uq 144 ((.p (.fn 87 [.ref [.list true aU b,.list false [.slice true aU] c,Ap d,Ap e]]))::Ur 123))),[(5,.box [.p (.list true aU f),.p (.list false [.slice true aU] g),Ab h,Ab i]),(6,.box [Ab j,Ab k,Ab l]),(7,.box [Ab m,Ab n,Ab o]),(9,.box [Ab q]),(10,.box [Ac r]),(11,.box [.p (.list true aU s),.slice 94 1 t u,Ab v,Ab w]),(94,.arr false [.slice true aU] x),(23,.box [Ab y])]⟩
def kD(a:Int)(b c:List PV)(d e:Int)(f g:Nat)(h i:Int)(j k:List PV)(l m n o q r s t u:Int)(v:Bool)(w:List PV)(x y z A B D:Int)(E:List PV):St:=⟨Uq 5 ((.ptr 5 0 0)::(.ptr 6 0 0)::(.ptr 7 0 0)::.undef::(.ptr 9 0 0)::(.ptr 10 0 0)::(.ptr 11 0 0)::Uq 8 ((Ab a)::.undef::.undef::(.ptr 23 0 0)::(.ptr 24 0 0)::Uq 143 ((.p (.fn 87 [.ref [.list true aU b,.list false [.slice true aU] c,Ap d,Ap e]]))::Uq 19 ((.slice 188 1 f g)::(Ab h)::(Ab i)::Ur 101)))),[(5,.box [.p (.list true aU j),.p (.list false [.slice true aU] k),Ab l,Ab m]),(6,.box [Ab n,Ab o,Ab q]),(7,.box [Ab r,Ab s,Ab t]),(9,.box [Ab u]),(10,.box [Ac v]),(11,.box [.p (.list true aU w),.p (.nil),Ab x,Ab y]),(23,.box [Ab z]),(24,.box [Ab A,Ab B,Ab D]),(188,.arr false [.int .i64] E)]⟩
def jw(a:Int)(b c:List PV)(d e:Int)(f g:Nat)(h i:Int)(j k:List PV)(l m n o q r s t u:Int)(v:Bool)(w:List PV)(x y:Nat)(z A:Int)(B:List PV)(D E F G:Int)(H:List PV):St:=⟨Uq 5 ((.ptr 5 0 0)::(.ptr 6 0 0)::(.ptr 7 0 0)::.undef::(.ptr 9 0 0)::(.ptr 10 0 0)::(.ptr 11 0 0)::Uq 8 ((Ab a)::.undef::.undef::(.ptr 23 0 0)::(.ptr 24 0 0)::Uq 143 ((.p (.fn 87 [.ref [.list true aU b,.list false [.slice true aU] c,Ap d,Ap e]]))::Uq 19 ((.slice 188 1 f g)::(Ab h)::(Ab i)::Ur 101)))),[(5,.box [.p (.list true aU j),.p (.list false [.slice true aU] k),Ab l,Ab m]),(6,.box [Ab n,Ab o,Ab q]),(7,.box [Ab r,Ab s,Ab t]),(9,.box [Ab u]),(10,.box [Ac v]),(11,.box [.p (.list true aU w),.slice 94 1 x y,Ab z,Ab A]),(94,.arr false [.slice true aU] B),(23,.box [Ab D]),(24,.box [Ab E,Ab F,Ab G]),(188,.arr false [.int .i64] H)]⟩
theorem e10:let d:Ry->List AV:=λc:Ry=>[Ac ((c.1.headD .undef).pv.toBool)];let g:=λc:Ry=>!(c.1.headD .undef).pv.toBool;let i:PV:=.agg [.list true aU b,.list false [.slice true aU] f,Ap a,Ap e];let j:=C 11 [] [];let k:PV:=.agg [Ap h,Ap l,Ap q];let m:PV:=.agg [Ap s,Ap u,Ap w];aZ tab C 10 [.p i,.p k,.p m,Ab y,Ab z] []=(C 15 [.p i] []).bind λr1=>bif (g r1)then j.bind λr2=>some ((d r2),[])else(C 17 [.p i] []).bind λr3=>bif (g r3)then j.bind λr4=>some ((d r4),[])else(C 21 [.p k] []).bind λr5=>bif (g r5)then j.bind λr6=>some ((d r6),[])else(C 21 [.p m] []).bind λr7=>bif (g r7)then j.bind λr8=>some ((d r8),[])else bif (cu y (-1000:Int))then j.bind λr9=>some ((d r9),[])else bif (mg y (1000:Int))then j.bind λr10=>some ((d r10),[])else bif (cu z (0:Int))then j.bind λr11=>some ((d r11),[])else bif (mg z (100:Int))then j.bind λr12=>some ((d r12),[])else(C 35 [.p (.list true aU b),Ab y] []).bind λr13=>L tab C 10 [] [.lp [1,1,1,0,1,0]] (Nv y f ((f.length:Nat):Int) 0 b f a e h l q s u w z false ((r13.1.headD .undef).pv.toList) a e):=by intros;kernel_rfl
noncomputable def ak3(C:aH)(f_b0 dF:List PV)(dM dN:Int)(fC fD fJ:Int)(nV G:List PV)(nX nY:Int)(k:Int->List PV->List PV->Int->Int->St):Option (List AV × List bZ):=
 (C 20 [.p (.agg [.list true aU f_b0,.list false [.slice true aU] dF,Ap dM,Ap dN]),.p (.agg [Ap fC,Ap fD,Ap fJ])] []).bind λr2 =>
 (C 20 [.p (.agg [.list true aU nV,.list false [.slice true aU] G,Ap nX,Ap nY]),.p (.agg [Ap fC,Ap fD,Ap fJ])] []).bind λr3 =>
 (C 28 [.p (.agg [.list true aU f_b0,.list false [.slice true aU] dF,Ap dM,Ap dN]),.p (.agg [Ap fC,Ap fD,Ap fJ]),.p (.agg [Ap fC,Ap fD,Ap fJ])] []).bind λr4 =>
 (C 18 [.p (.agg [.list true aU nV,.list false [.slice true aU] G,Ap nX,Ap nY])] []).bind λr5 =>
 bif (!(r5.1.headD .undef).pv.toBool)then
  some ([Ac false],[])
 else
  bif ((r2.1.tail.headD .undef).pv.toInt !=(0:Int))then
   some ([Ac false],[])
  else
   bif ((r3.1.tail.headD .undef).pv.toInt !=(0:Int))then
    some ([Ac false],[])
   else
    bif ((r4.1.tail.headD .undef).pv.toInt !=(0:Int))then
     some ([Ac false],[])
    else
     bif (!((r2.1.headD .undef).pv.toBool==(r3.1.headD .undef).pv.toBool))then
      some ([Ac false],[])
     else
      bif (!((r4.1.headD .undef).pv.toBool==(r2.1.headD .undef).pv.toBool))then
       some ([Ac false],[])
      else
       (C 16 [.p (.agg [.list true aU f_b0,.list false [.slice true aU] dF,Ap dM,Ap dN])] []).bind λr6 =>
       (C 16 [.p (.agg [.list true aU nV,.list false [.slice true aU] G,Ap nX,Ap nY])] []).bind λr7 =>
       (C 31 [.p (.agg [.list true aU f_b0,.list false [.slice true aU] dF,Ap dM,Ap dN])] []).bind λr8 =>
       bif ((r6.1.tail.headD .undef).pv.toInt !=(0:Int))then
        some ([Ac false],[])
       else
        bif ((r7.1.tail.headD .undef).pv.toInt !=(0:Int))then
         some ([Ac false],[])
        else
         bif ((r6.1.headD .undef).pv.toInt !=(r7.1.headD .undef).pv.toInt)then
          some ([Ac false],[])
         else
          (C 87 [.yL,.p (.ref [.list true aU ((((r8.1.headD .undef).pv.cap 0).iF 0).toList),.list false [.slice true aU] ((((r8.1.headD .undef).pv.cap 0).iF 1).toList),Ap ((((r8.1.headD .undef).pv.cap 0).iF 2).toInt),Ap ((((r8.1.headD .undef).pv.cap 0).iF 3).toInt)])] [.log true []]).bind λr9 =>
          L tab C 10 [] [.rg [1,1,1,1,1,1,1,1,1,1,1,1,1,0,1,0] [(true,aU),(true,aU)] (uY r9.2)] (k ((r6.1.headD .undef).pv.toInt) ((((r8.1.headD .undef).pv.cap 0).iF 0).toList) ((((r8.1.headD .undef).pv.cap 0).iF 1).toList) ((((r8.1.headD .undef).pv.cap 0).iF 2).toInt) ((((r8.1.headD .undef).pv.cap 0).iF 3).toInt))
def ak4(C:aH)(f_b0 dF:List PV)(dM dN:Int)(fC fD fJ fM fO gu fG:Int)(nV G:List PV)(nX nY m' iQ:Int):Option (List AV × List bZ):=
 bif (iQ != m')then
  some ([Ac false],[])
 else
  (C 28 [.p (.agg [.list true aU f_b0,.list false [.slice true aU] dF,Ap dM,Ap dN]),.p (.agg [Ap fC,Ap fD,Ap fJ]),.p (.agg [Ap fM,Ap fO,Ap gu])] []).bind λr1 =>
  (C 28 [.p (.agg [.list true aU nV,.list false [.slice true aU] G,Ap nX,Ap nY]),.p (.agg [Ap fM,Ap fO,Ap gu]),.p (.agg [Ap fC,Ap fD,Ap fJ])] []).bind λr2 =>
  bif ((r1.1.tail.headD .undef).pv.toInt !=(0:Int))then
   some ([Ac false],[])
  else
   bif ((r2.1.tail.headD .undef).pv.toInt !=(0:Int))then
    some ([Ac false],[])
   else
    bif (!((r1.1.headD .undef).pv.toBool==(r2.1.headD .undef).pv.toBool))then
     some ([Ac false],[])
    else
     bif (r1.1.headD .undef).pv.toBool then
      (C 36 [Ab fC,Ab fM,.p (.ref [Ap fG])] []).bind λr3 =>
      (C 36 [Ab fD,Ab fO,.p (.ref [Ap fG])] []).bind λr4 =>
      (C 36 [Ab fJ,Ab gu,.p (.ref [Ap fG])] []).bind λr5 =>
      (C 24 [.p (.agg [.list true aU f_b0,.list false [.slice true aU] dF,Ap dM,Ap dN]),.p (.agg [.bool (((r3.1.headD .undef).pv.cell 0).toBool),.str (((r3.1.headD .undef).pv.cell 1).toStr),.bool (((r3.1.headD .undef).pv.cell 2).toBool),.str (((r3.1.headD .undef).pv.cell 3).toStr)]),.p (.agg [.bool (((r4.1.headD .undef).pv.cell 0).toBool),.str (((r4.1.headD .undef).pv.cell 1).toStr),.bool (((r4.1.headD .undef).pv.cell 2).toBool),.str (((r4.1.headD .undef).pv.cell 3).toStr)]),.p (.agg [.bool (((r5.1.headD .undef).pv.cell 0).toBool),.str (((r5.1.headD .undef).pv.cell 1).toStr),.bool (((r5.1.headD .undef).pv.cell 2).toBool),.str (((r5.1.headD .undef).pv.cell 3).toStr)])] []).bind λr6 =>
      bif (!(r6.1.headD .undef).pv.toBool)then
       some ([Ac false],[])
      else
       bif ((r6.1.tail.headD .undef).pv.toInt !=(0:Int))then
        some ([Ac false],[])
       else
        (C 11 [] []).bind λr7 =>
        some ([Ac ((r7.1.headD .undef).pv.toBool)],[])
     else
      (C 11 [] []).bind λr8 =>
      some ([Ac ((r8.1.headD .undef).pv.toBool)],[])
def agW(C:aH)(f_b0 dF:List PV)(dM dN:Int)(yh zh:Nat)(Gu Ak OX OY:Int)(yj:List PV)(k1 k2:Option (List AV × List bZ)):Option (List AV × List bZ):=
 bif (cu Ak Gu)then
  bif ((leI (0:Int) Ak)&&(cu Ak (zh:Int)))then(C 14 [Ab OX,Ab OY,Ab (((yj.getD (yh+Ak.toNat) .nil).cell 0).toInt)] []).bind λr1 =>
  (C 20 [.p (.agg [.list true aU f_b0,.list false [.slice true aU] dF,Ap dM,Ap dN]),.p (.agg [Ap (((r1.1.headD .undef).pv.cell 0).toInt),Ap (((r1.1.headD .undef).pv.cell 1).toInt),Ap (((r1.1.headD .undef).pv.cell 2).toInt)])] []).bind λr2 =>
  (C 14 [Ab OX,Ab OY,Ab (((yj.getD (yh+Ak.toNat) .nil).cell 0).toInt)] []).bind λr3 =>
  (C 32 [.p (.agg [.list true aU f_b0,.list false [.slice true aU] dF,Ap dM,Ap dN]),.p (.agg [Ap (((r3.1.headD .undef).pv.cell 0).toInt),Ap (((r3.1.headD .undef).pv.cell 1).toInt),Ap (((r3.1.headD .undef).pv.cell 2).toInt)])] []).bind λr4 =>
  bif (!(r2.1.headD .undef).pv.toBool)then
   some ([Ac false],[])
  else
   bif ((r2.1.tail.headD .undef).pv.toInt !=(0:Int))then
    some ([Ac false],[])
   else
    (C 27 [Ab 0,Ab 1] []).bind λr5 =>
    bif (!(((((r4.1.headD .undef).pv.cell 0).toBool==((r5.1.headD .undef).pv.cell 0).toBool)&&((((r4.1.headD .undef).pv.cell 1).toStr==((r5.1.headD .undef).pv.cell 1).toStr)&&true))&&(((((r4.1.headD .undef).pv.cell 2).toBool==((r5.1.headD .undef).pv.cell 2).toBool)&&((((r4.1.headD .undef).pv.cell 3).toStr==((r5.1.headD .undef).pv.cell 3).toStr)&&true))&&true)))then
     some ([Ac false],[])
    else
     bif ((r4.1.tail.headD .undef).pv.toInt !=(0:Int))then
      some ([Ac false],[])
     else
      k1 else none
 else
  k2
theorem adX:R tab C 10 [] [.lp [1,1,1,0,1,0]] (Nv a b e h f i l q s u w y z A B d n D E)=bif (cu h e)then bif ((leI (0:Int) h)&&(cu h ((b.length:Nat):Int)))then(C 35 [.p (.list true aU (((b.getD h.toNat .nil).cell 0).toList)),Ab a] []).bind λr1=>L tab C 10 [] [.lp [1,1,1,0,1,0]] (zL a b e (IntKind.i64.wrap (h+(1:Int))) f i l q s u w y z A B d n 0 1 D E [.list true aU ((r1.1.headD .undef).pv.toList)])else none else ak3 C f i l q s u w n [] D E (λm r0 r1 r2 r3=>jW m r0 r1 r2 r3 f i l q s u w y z A B d n D E 0):=by kernel_rfl
theorem MP:let k:=(r.drop c).take g;R tab C 10 [] [.lp [1,1,1,0,1,0]] (zL a b e h f i l q s u w y z A B d n c g D E r)=bif (cu h e)then bif ((leI (0:Int) h)&&(cu h ((b.length:Nat):Int)))then(C 35 [.p (.list true aU (((b.getD h.toNat .nil).cell 0).toList)),Ab a] []).bind λr1=>bif (F5 (g+1) 2147483648)then L tab C 10 [] [.lp [1,1,1,0,1,0]] (zL a b e (IntKind.i64.wrap (h+(1:Int))) f i l q s u w y z A B d n 0 (g+1) D E (k++([.list true aU ((r1.1.headD .undef).pv.toList)]:List PV)))else none else none else ak3 C f i l q s u w n k D E (λm r0 r1 r2 r3=>jX m r0 r1 r2 r3 f i l q s u w y z A B d n c g D E r 0):=by intros;kernel_rfl
theorem Fh:L tab C 10 [] [.rg [1,1,1,1,1,1,1,1,1,1,1,1,1,0,1,0] [(true,aU),(true,aU)] []] (jW a b f e h i n l q s u w y z A B d r D E F)=ak4 C i n l q s u w y z A B r [] D E a F:=by kernel_rfl
theorem Ey:L tab C 10 [] [.rg [1,1,1,1,1,1,1,1,1,1,1,1,1,0,1,0] [(true,aU),(true,aU)] (.agg [.agg [Ap H,Ap I,Ap J],.agg [Ap K,Ap M,Ap N]]::t)] (jW a b f e h i n l q s u w y z A B d r D E F)=L tab C 10 [] [.rg [1,1,1,1,1,1,1,1,1,1,1,1,1,0,1,0] [(true,aU),(true,aU)] t,.lp [1,0,1,1,0]] (kD a b f e h 0 2 2 0 i n l q s u w y z A B d r D E (IntKind.i64.wrap (F+(IntKind.i64.wrap ((IntKind.i64.wrap (H*M))-(IntKind.i64.wrap (I*K)))))) H I J [Ap l,Ap q]):=by kernel_rfl
theorem CP:L tab C 10 [] [.rg [1,1,1,1,1,1,1,1,1,1,1,1,1,0,1,0] [(true,aU),(true,aU)] []] (jX a b f e h i n l q s u w y z A B d r c g D E t F)=ak4 C i n l q s u w y z A B r ((t.drop c).take g) D E a F:=by kernel_rfl
theorem Bo:L tab C 10 [] [.rg [1,1,1,1,1,1,1,1,1,1,1,1,1,0,1,0] [(true,aU),(true,aU)] (.agg [.agg [Ap H,Ap I,Ap J],.agg [Ap K,Ap M,Ap N]]::v)] (jX a b f e h i n l q s u w y z A B d r c g D E t F)=L tab C 10 [] [.rg [1,1,1,1,1,1,1,1,1,1,1,1,1,0,1,0] [(true,aU),(true,aU)] v,.lp [1,0,1,1,0]] (jw a b f e h 0 2 2 0 i n l q s u w y z A B d r c g D E t (IntKind.i64.wrap (F+(IntKind.i64.wrap ((IntKind.i64.wrap (H*M))-(IntKind.i64.wrap (I*K)))))) H I J [Ap l,Ap q]):=by kernel_rfl
theorem DV:let k:List Wy:=[.rg [1,1,1,1,1,1,1,1,1,1,1,1,1,0,1,0] [(true,aU),(true,aU)] b,.lp [1,0,1,1,0]];R tab C 10 [] k (kD a f i e h c g l q n r s u w y z A B D E d t F H I J K M v)=agW C n r s u c g l q J K v (L tab C 10 [] k (kD a f i e h c g l (IntKind.i64.wrap (q+(1:Int))) n r s u w y z A B D E d t F H I J K M v)) (L tab C 10 [] [.rg [1,1,1,1,1,1,1,1,1,1,1,1,1,0,1,0] [(true,aU),(true,aU)] b] (jW a f i e h n r s u w y z A B D E d t F H I)):=by intros;kernel_rfl
theorem Am:let m:List Wy:=[.rg [1,1,1,1,1,1,1,1,1,1,1,1,1,0,1,0] [(true,aU),(true,aU)] b,.lp [1,0,1,1,0]];R tab C 10 [] m (jw a f i e h c g l q n r s u w y z A B D E d t j o F H v I J K M x)=agW C n r s u c g l q J K x (L tab C 10 [] m (jw a f i e h c g l (IntKind.i64.wrap (q+(1:Int))) n r s u w y z A B D E d t j o F H v I J K M x)) (L tab C 10 [] [.rg [1,1,1,1,1,1,1,1,1,1,1,1,1,0,1,0] [(true,aU),(true,aU)] b] (jX a f i e h n r s u w y z A B D E d t j o F H v I)):=by intros;kernel_rfl
def CQ(a b:List PV)(c d:Int)(e f:Nat)(g h:Int)(i:Bool)(j:List PV):St:=⟨(.ptr 0 0 0)::(.p (.ref [.list true aU a,.list false [.slice true aU] b,Ap c,Ap d]))::Uq 64 ((.slice 66 3 e f)::(Ab g)::(Ab h)::Ur 192),[(0,.box [Ac i]),(66,.arr true aU j)]⟩
def gX(a b:List PV)(c d:Int)(e f:List PV)(g h:Int)(i:Bool)(j:Int):St:=⟨(.ptr 0 0 0)::(.p (.ref [.list true aU a,.list false [.slice true aU] b,Ap c,Ap d]))::Uq 18 ((.ptr 20 0 0)::Uq 158 ((.p (.fn 87 [.ref [.list true aU e,.list false [.slice true aU] f,Ap g,Ap h]]))::Ur 81)),[(0,.box [Ac i]),(20,.box [Ab j])]⟩
theorem e11:let b:=λa:Ry=>(((a.1.headD .undef).aI).drop 0).take ((a.1.headD .undef).aI.length);let c:Ry->List PV:=λa:Ry=>[Ap (((a.1.headD .undef).pv.cell 0).toInt),Ap (((a.1.headD .undef).pv.cell 1).toInt),Ap (((a.1.headD .undef).pv.cell 2).toInt)];let d:=λa:Ry=>C 12 [.p (.list true aU (b a))] [];let e:Rz:=some ([Ac false],[]);let f:PV:=Ap 5;let g:List Kd:=[.int .i64];aZ tab C 11 [] []=(C 37 [.p (.list false g [Ap 0,Ap 0,Ap 2,Ap 0,Ap 0,Ap 2,Ap 2,Ap 2])] []).bind λr1=>(d r1).bind λr2=>bif (r2.1.headD .undef).pv.toBool then e else(C 37 [.p (.list false g [Ap 0,Ap 0,Ap 1,Ap 0,Ap 2,Ap 0])] []).bind λr3=>(d r3).bind λr4=>bif (r4.1.headD .undef).pv.toBool then e else(C 37 [.p (.list false g [Ap 0,Ap 0,Ap 1,Ap 0,Ap 2,Ap 0,Ap 0,Ap 2])] []).bind λr5=>(d r5).bind λr6=>bif (!(r6.1.headD .undef).pv.toBool)then e else(C 37 [.p (.list false g [Ap 0,Ap 0,Ap 10,Ap 0,Ap 10,Ap 10,Ap 0,Ap 10])] []).bind λr7=>(C 37 [.p (.list false g [Ap 4,Ap 4,Ap 4,Ap 6,Ap 6,Ap 6,Ap 6,Ap 4])] []).bind λr8=>(C 16 [.p (.agg [.list true aU (b r7),.list false [.slice true aU] [.list true aU (b r8)],Ap 1,Ap 5])] []).bind λr9=>bif ((r9.1.headD .undef).pv.toInt !=(192:Int))then e else bif ((r9.1.tail.headD .undef).pv.toInt !=(0:Int))then e else(C 18 [.p (.agg [.list true aU (b r7),.list false [.slice true aU] [.list true aU (b r8)],Ap 1,Ap 5])] []).bind λr10=>bif (!(r10.1.headD .undef).pv.toBool)then e else(C 14 [Ab 4,.p f,Ab 3] []).bind λr11=>(C 14 [Ab 10,Ab 10,.p f] []).bind λr12=>(C 14 [.p f,.p f,Ab 3] []).bind λr13=>(C 14 [Ab 2,Ab 2,Ab 6] []).bind λr14=>L tab C 11 [] [.lp [1,1,1,1,1,0,1,0]] (CQ (b r7) [.list true aU (b r8)] 1 5 0 4 4 0 false [.agg (c r11),.agg (c r12),.agg (c r13),.agg (c r14)]):=by intros;kernel_rfl
theorem OZ:let k:Ry->PV:=λj:Ry=>.agg [Ap (((j.1.headD .undef).pv.cell 0).toInt),Ap (((j.1.headD .undef).pv.cell 1).toInt),Ap (((j.1.headD .undef).pv.cell 2).toInt)];let m:Ry->PV:=λj:Ry=>.agg [.bool (((j.1.headD .undef).pv.cell 0).toBool),.str (((j.1.headD .undef).pv.cell 1).toStr),.bool (((j.1.headD .undef).pv.cell 2).toBool),.str (((j.1.headD .undef).pv.cell 3).toStr)];let n:=λj:Ry=>(j.1.tail.headD .undef).pv.toInt !=(0:Int);let o:=λj:Ry=>(j.1.headD .undef).pv.cap 0;let q:=λj:Ry=>!(j.1.headD .undef).pv.toBool;let r:PV:=.agg [.list true aU b,.list false [.slice true aU] f,Ap a,Ap e];let s:Rz:=some ([Ac false],[]);let t:PV:=Ap 1;let v:PV:=Ap 3;let w:=i.getD (c+l.toNat) .nil;let x:PV:=Ap 4;let y:PV:=Ap 2;let z:PV:=Ap 9;let u:=C 27 [.p z,.p y] [];let A:=C 27 [.p v,.p t] [];let B:List Wy:=[.lp [1,1,1,1,1,0,1,0]];R tab C 11 [] B (CQ b f a e c g h l d i)=bif (cu l h)then bif ((leI (0:Int) l)&&(cu l (g:Int)))then(C 20 [.p r,.p (.agg [Ap ((w.cell 0).toInt),Ap ((w.cell 1).toInt),Ap ((w.cell 2).toInt)])] []).bind λr1=>bif (!((r1.1.headD .undef).pv.toBool==(cu l (2:Int))))then s else bif (n r1)then s else L tab C 11 [] B (CQ b f a e c g h (IntKind.i64.wrap (l+(1:Int))) d i)else none else u.bind λr2=>u.bind λr3=>A.bind λr4=>(C 24 [.p r,.p (m r2),.p (m r3),.p (m r4)] []).bind λr5=>u.bind λr6=>(C 27 [.p x,.p t] []).bind λr7=>A.bind λr8=>(C 24 [.p r,.p (m r6),.p (m r7),.p (m r8)] []).bind λr9=>(C 14 [.p t,.p t,.p y] []).bind λr10=>(C 14 [.p z,.p t,.p x] []).bind λr11=>(C 28 [.p r,.p (k r10),.p (k r11)] []).bind λr12=>(C 14 [.p t,Ab 5,.p y] []).bind λr13=>(C 14 [.p z,Ab 5,.p y] []).bind λr14=>(C 28 [.p r,.p (k r13),.p (k r14)] []).bind λr15=>(C 14 [.p x,Ab 0,.p t] []).bind λr16=>(C 14 [.p x,Ab 10,.p t] []).bind λr17=>(C 28 [.p r,.p (k r16),.p (k r17)] []).bind λr18=>(C 14 [.p v,.p v,.p v] []).bind λr19=>(C 14 [Ab 7,Ab 7,.p v] []).bind λr20=>(C 28 [.p r,.p (k r19),.p (k r20)] []).bind λr21=>bif (r5.1.headD .undef).pv.toBool then s else bif (n r5)then s else bif (q r9)then s else bif (n r9)then s else bif (q r12)then s else bif (n r12)then s else bif (r15.1.headD .undef).pv.toBool then s else bif (n r15)then s else bif (q r18)then s else bif (n r18)then s else bif (r21.1.headD .undef).pv.toBool then s else bif (n r21)then s else(C 31 [.p r] []).bind λr22=>(C 87 [.yL,.p (.ref [.list true aU (((o r22).iF 0).toList),.list false [.slice true aU] (((o r22).iF 1).toList),Ap (((o r22).iF 2).toInt),Ap (((o r22).iF 3).toInt)])] [.log true []]).bind λr23=>L tab C 11 [] [.rg [1,1,1,1,1,1,1,1,1,1,1,1,1,1,1,1,0,1,0] [(true,aU),(true,aU)] (uY r23.2)] (gX b f a e (((o r22).iF 0).toList) (((o r22).iF 1).toList) (((o r22).iF 2).toInt) (((o r22).iF 3).toInt) d 0):=by intros;kernel_rfl
theorem CS:let g:=λc:Ry=>C 32 [.p (.agg [.list true aU b,.list false [.slice true aU] f,Ap a,Ap e]),.p (.agg [Ap (((c.1.headD .undef).pv.cell 0).toInt),Ap (((c.1.headD .undef).pv.cell 1).toInt),Ap (((c.1.headD .undef).pv.cell 2).toInt)])] [];let j:=λc:Ry=>(c.1.headD .undef).pv.cell 0;let k:=λc:Ry=>(c.1.headD .undef).pv.cell 1;let m:=λc:Ry=>(c.1.headD .undef).pv.cell 2;let o:=λc:Ry=>(c.1.headD .undef).pv.cell 3;let r:=λc:Ry=>(c.1.tail.headD .undef).pv.toInt==(0:Int);let s:Rz:=some ([Ac false],[]);let t:PV:=Ap 1;let u:PV:=Ap 0;let v:PV:=Ap 5;L tab C 11 [] [.rg [1,1,1,1,1,1,1,1,1,1,1,1,1,1,1,1,0,1,0] [(true,aU),(true,aU)] []] (gX b f a e i n h l d q)=(C 14 [Ab 3,Ab 3,.p u] []).bind λr1=>(g r1).bind λr2=>(C 14 [Ab 20,.p v,.p u] []).bind λr3=>(g r3).bind λr4=>(C 14 [.p v,.p v,.p u] []).bind λr5=>(g r5).bind λr6=>bif (q==(8:Int))then(C 27 [Ab 2,.p t] []).bind λr7=>bif ((((j r2).toBool==(j r7).toBool)&&(((k r2).toStr==(k r7).toStr)&&true))&&((((m r2).toBool==(m r7).toBool)&&(((o r2).toStr==(o r7).toStr)&&true))&&true))then bif (r r2)then(C 27 [Ab 100,.p t] []).bind λr8=>bif ((((j r4).toBool==(j r8).toBool)&&(((k r4).toStr==(k r8).toStr)&&true))&&((((m r4).toBool==(m r8).toBool)&&(((o r4).toStr==(o r8).toStr)&&true))&&true))then bif (r r4)then(C 27 [.p t,.p t] []).bind λr9=>bif ((((j r6).toBool==(j r9).toBool)&&(((k r6).toStr==(k r9).toStr)&&true))&&((((m r6).toBool==(m r9).toBool)&&(((o r6).toStr==(o r9).toStr)&&true))&&true))then some ([Ac (r r6)],[])else s else s else s else s else s else s:=by intros;kernel_rfl
theorem Bq:let g:=λc:Ry=>!((s==((c.1.headD .undef).pv.cell 0).toInt)&&((u==((c.1.headD .undef).pv.cell 1).toInt)&&((w==((c.1.headD .undef).pv.cell 2).toInt)&&true)));let j:=λc:Ry=>!((y==((c.1.headD .undef).pv.cell 0).toInt)&&((z==((c.1.headD .undef).pv.cell 1).toInt)&&((A==((c.1.headD .undef).pv.cell 2).toInt)&&true)));let k:=L tab C 11 [] [.rg [1,1,1,1,1,1,1,1,1,1,1,1,1,1,1,1,0,1,0] [(true,aU),(true,aU)] r] (gX b f a e i n h l d (IntKind.i64.wrap (q+(1:Int))));let m:Rz:=some ([Ac false],[]);let o:PV:=Ap 0;let t:PV:=Ap 4;let v:=mg q (7:Int);let x:=C 14 [.p t,Ab 6,.p o] [];let B:=C 14 [.p t,.p t,.p o] [];L tab C 11 [] [.rg [1,1,1,1,1,1,1,1,1,1,1,1,1,1,1,1,0,1,0] [(true,aU),(true,aU)] (.agg [.agg [Ap s,Ap u,Ap w],.agg [Ap y,Ap z,Ap A]]::r)] (gX b f a e i n h l d q)=bif (q==(0:Int))then(C 14 [.p o,.p o,.p o] []).bind λr1=>bif (g r1)then m else(C 14 [Ab 10,.p o,.p o] []).bind λr2=>bif (j r2)then m else bif (q==(4:Int))then B.bind λr3=>bif (g r3)then m else x.bind λr4=>bif (j r4)then m else bif v then m else k else bif v then m else k else bif (q==(4:Int))then B.bind λr5=>bif (g r5)then m else x.bind λr6=>bif (j r6)then m else bif v then m else k else bif v then m else k:=by intros;kernel_rfl
theorem e14:aZ tab C 14 [Ab a,Ab e,Ab h] []=some ([.p (.agg [Ap a,Ap e,Ap h])],[]):=by kernel_rfl
def O1(a:List PV)(b c:Int)(d e:List PV)(f g:Int):St:=⟨.undef::(.ptr 1 0 0)::Uq 4 ((.p (.list false [.slice true aU] a))::(Ab b)::(Ab c)::Ur 23),[(1,.box [.p (.list true aU d),.p (.list false [.slice true aU] e),Ab f,Ab g])]⟩
theorem e15:aZ tab C 15 [.p (.agg [.list true aU b,.list false [.slice true aU] f,Ap a,Ap e])] []=L tab C 15 [] [.lp [1,0,1,0]] (O1 f ((f.length:Nat):Int) 0 b f a e):=by kernel_rfl
theorem abE:let d:Rz:=some ([Ac false],[]);let g:Int:=(i.length:Nat);R tab C 15 [] [.lp [1,0,1,0]] (O1 b a e f i h l)=bif (cu e a)then bif ((leI (0:Int) e)&&(cu e ((b.length:Nat):Int)))then bif (mg (((((b.getD e.toNat .nil).cell 0).toList).length:Nat):Int) (10:Int))then d else L tab C 15 [] [.lp [1,0,1,0]] (O1 b a (IntKind.i64.wrap (e+(1:Int))) f i h l)else none else bif (leI ((f.length:Nat):Int) (10:Int))then bif (leI g (4:Int))then some ([Ac true],[])else some ([Ac (g==(17:Int))],[])else d:=by intros;kernel_rfl
theorem e27:let c:=λb:Ry=>C 70 [.p (.agg [.bool (((b.1.headD .undef).pv.cell 0).toBool),.list false [.int .i64] (((b.1.headD .undef).pv.cell 1).toList)])] [];aZ tab C 27 [Ab a,Ab e] []=(C 71 [Ab a] []).bind λr1=>(c r1).bind λr2=>(C 71 [Ab e] []).bind λr3=>(c r3).bind λr4=>some ([.p (.agg [.bool (((r2.1.headD .undef).pv.cell 0).toBool),.str (((r2.1.headD .undef).pv.cell 1).toStr),.bool (((r4.1.headD .undef).pv.cell 0).toBool),.str (((r4.1.headD .undef).pv.cell 1).toStr)])],[]):=by intros;kernel_rfl
def KZ(a:List PV)(b:Int)(c d:Nat)(e f:Int)(g:List PV):St:=⟨(.p (.list true aU a))::(Ab b)::.undef::.undef::.undef::(.slice 5 3 c d)::.undef::.undef::(Ab e)::(Ab f)::Ur 22,[(5,.arr true aU g)]⟩
theorem e35:aZ tab C 35 [.p (.list true aU b),Ab a] []=L tab C 35 [] [.lp [1,1,0,1,0]] (KZ b a 0 0 ((b.length:Nat):Int) 0 []):=by kernel_rfl
theorem Yn:let j:Int:=(b.length:Nat);let i:=(IntKind.i64.wrap (((IntKind.i64.wrap (a-h)).tmod j)+j)).tmod j;let k:=b.getD (i.toNat) .nil;let l:=(f.drop c).take g;let m:=!(Je j (0:Int));R tab C 35 [] [.lp [1,1,0,1,0]] (KZ b a c g e h f)=bif (cu h e)then bif m then bif m then bif ((leI (0:Int) i)&&(cu i j))then bif (F5 (g+1) 2147483648)then L tab C 35 [] [.lp [1,1,0,1,0]] (KZ b a 0 (g+1) e (IntKind.i64.wrap (h+(1:Int))) (l++([.agg [Ap ((k.cell 0).toInt),Ap ((k.cell 1).toInt),Ap ((k.cell 2).toInt)]]:List PV)))else none else none else none else none else some ([.p (.list true aU l)],[]):=by intros;kernel_rfl
theorem e36:aZ tab C 36 [Ab a,Ab e,.p (.ref [Ap h])] []=(C 27 [Ab (IntKind.i64.wrap ((IntKind.i64.wrap (a*(IntKind.i64.wrap ((100:Int)-h))))+(IntKind.i64.wrap (e*h)))),Ab 100] []).bind λr1=>some ([.p (.agg [.bool (((r1.1.headD .undef).pv.cell 0).toBool),.str (((r1.1.headD .undef).pv.cell 1).toStr),.bool (((r1.1.headD .undef).pv.cell 2).toBool),.str (((r1.1.headD .undef).pv.cell 3).toStr)])],[]):=by kernel_rfl
def La(a:List PV)(b c:Nat)(d:Int)(e:List PV):St:=⟨(.p (.list false [.int .i64] a))::.undef::.undef::(.slice 3 3 b c)::(Ab d)::Ur 21,[(3,.arr true aU e)]⟩
theorem e37:aZ tab C 37 [.p (.list false [.int .i64] b)] []=L tab C 37 [] [.lp [1,1,0,1,0]] (La b 0 0 0 []):=by kernel_rfl
theorem QK:let e:=IntKind.i64.wrap (a+(1:Int));let h:Int:=(b.length:Nat);let i:=(f.drop c).take g;R tab C 37 [] [.lp [1,1,0,1,0]] (La b c g a f)=bif (cu e h)then bif ((leI (0:Int) a)&&(cu a h))then bif ((leI (0:Int) e)&&(cu e h))then bif (F5 (g+1) 2147483648)then L tab C 37 [] [.lp [1,1,0,1,0]] (La b 0 (g+1) (IntKind.i64.wrap (a+(2:Int))) (i++([.agg [Ap (((b.getD a.toNat .nil).cell 0).toInt),Ap (((b.getD (e.toNat) .nil).cell 0).toInt),Ap 0]]:List PV)))else none else none else none else some ([.fresh true aU i],[]):=by intros;kernel_rfl
end Go.Skm.Fen
