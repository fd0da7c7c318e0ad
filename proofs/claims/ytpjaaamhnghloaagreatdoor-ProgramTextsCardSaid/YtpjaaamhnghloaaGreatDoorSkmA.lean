import Derived.Orders
import Derived.WalkKit
import Derived.KernelRfl
set_option linter.all false
theorem ω{p:Prop}(h:p:=by omega):p:=h
theorem δ{p:Prop}(h:p:=by decide):p:=h
theorem σ{p:Prop}(h:p:=by simp):p:=h
theorem θ{p:Prop}(h:p:=by grind):p:=h
theorem κ{p:Prop}(h:p:=by intros;kernel_rfl):p:=h
theorem τ{p:Prop}(h:p:=by kernel_rfl):p:=h
namespace Go.Skm
section
theorem qLa.{u}{α:Type u}{i:Nat}{a:α}{l:List α}:l[i]?=some a↔∃h:i<l.length,l[i]=a:=List.getElem?_eq_some_iff 
theorem qAa.{u}{α:Type u}{i:Nat}{b:α}{xs:Array α}:xs[i]?=some b↔∃h:i<xs.size,xs[i]=b:=Array.getElem?_eq_some_iff 
theorem qBa(a b:Bool):((a&&b)=true)=(a=true/\b=true):=Bool.and_eq_true a b
theorem qLb.{u}{α:Type u}{l:List α}{i:Nat}{a:α}:l.getD i a=l[i]?.getD a:=List.getD_eq_getElem?_getD 
theorem qAb.{u}{α:Type u}{xs:Array α}{i:Nat}{d:α}:xs.getD i d=xs[i]?.getD d:=Array.getD_eq_getD_getElem? 
theorem qLc.{u}{α:Type u}{i:Nat}{l:List α}(h:i<l.length):l.drop i=l[i]::l.drop (i+1):=List.drop_eq_getElem_cons h
theorem qLd.{u}{α:Type u}{l:List α}{i:Nat}(h:i<l.length):l[i]?=some l[i]:=List.getElem?_eq_getElem h
theorem qRa{α β:Type}(a:α)(w:Go.World)(f:α->Go.World->Go.Result β):(Go.Result.ok a w).andThen f=f a w:=Go.Result.andThen_ok a w f
theorem qOa.{u}{α:Type u}(a b:α):(some a=some b)=(a=b):=Option.some.injEq a b
theorem qAd.{u}{α:Type u}{xs:Array α}{i:Nat}(h:i<xs.size):xs[i]?=some xs[i]:=Array.getElem?_eq_getElem h
theorem qAe.{u}{α:Type u}{xs:Array α}{i j:Nat}(h:i≠j){a:α}:(xs.setIfInBounds i a)[j]?=xs[j]?:=Array.getElem?_setIfInBounds_ne h
theorem qLe.{u}{α:Type u}{l:List α}{i:Nat}{a:α}(h:l[i]?=some a):a∈l:=List.mem_of_getElem? h
theorem qBb(b:Bool):((!b)=true)=(b=false):=Bool.not_eq_true' b
theorem qDa{p:Prop}[Decidable p]:(decide p=true)=p:=decide_eq_true_eq 
theorem qOb.{u}{α β:Type u}(a:α)(f:α->Option β):(some a).bind f=f a:=Option.bind_some a f
theorem qLh.{u}{α:Type u}{a d:α}{l:List α}:(a::l).headD d=a:=List.headD_cons 
theorem qCt.{u}{α:Sort u}(a b:α):cond true a b=a:=cond_true a b
theorem qCf.{u}{α:Sort u}(a b:α):cond false a b=b:=cond_false a b
theorem qIt(n:Nat):(n:Int).toNat=n:=Int.toNat_natCast n
theorem qLz.{u}{α:Type u}{a d:α}{l:List α}:(a::l).getD 0 d=a:=List.getD_cons_zero 
theorem qLp.{u}{α:Type u}{a b:List α}:(a++b).length=a.length+b.length:=List.length_append 
theorem qLl.{u}{α:Type u}{a:α}{l:List α}:(a::l).length=l.length+1:=List.length_cons 
theorem qBs(b:Bool):(b&&b)=b:=Bool.and_self b
theorem qNr(n:Nat):n<=n:=Nat.le_refl n
theorem qNz(n:Nat):0+n=n:=Nat.zero_add n
theorem qBt :(!true)=false:=Bool.not_true 
theorem qBf :(!false)=true:=Bool.not_false 
theorem qLm.{u}{α β:Type u}{l:List α}(f:α->β):(l.map f).length=l.length:=List.length_map f
theorem qLy.{u}{α:Type u}{l:List α}:l.drop 0=l:=List.drop_zero 
inductive Kd where
 |int (k:IntKind)
 |bool
 |str
 |slice (a:Bool) (ks:List Kd)
 |other
 deriving Inhabited
mutual
def Kd.beq:Kd->Kd->Bool
 |.int j,.int k=>j==k
 |.bool,.bool=>true
 |.str,.str=>true
 |.slice a ks,.slice b ls=>a==b&&Kd.zJ ks ls
 |.other,.other=>true
 |_,_=>false
def Kd.zJ:List Kd->List Kd->Bool
 |[],[]=>true
 |k::ks,l::ls=>Kd.beq k l&&Kd.zJ ks ls
 |_,_=>false
end
inductive PV where
 |bool (b:Bool)
 |int (k:IntKind) (n:Int)
 |str (s:ByteArray)
 |agg (cs:List PV)
 |list (a:Bool) (ks:List Kd) (xs:List PV)
 |full (a:Bool) (ks:List Kd) (xs:List PV)
 |nil
 |fn (f:Nat) (caps:List PV)
 |ref (cs:List PV)
 |zG
 |pz
 |ifc
 |rU
 |Ig (ks vs:List PV)
 |Lj
 deriving Inhabited
def PV.cells:PV->List PV
 |.agg cs=>cs
 |v=>[v]
def PV.cell:PV->Nat->PV
 |.agg cs,j=>cs.getD j .nil
 |v,_=>v
def PV.yV:PV->List PV
 |.Ig ks _=>ks
 |_=>[]
def PV.yX:PV->List PV
 |.Ig _ vs=>vs
 |_=>[]
def PV.isMap:PV->Bool
 |.Ig ks vs=>Nat.beq ks.length vs.length
 |.Lj=>true
 |_=>false
def PV.toInt:PV->Int
 |.int _ n=>n
 |_=>0
def PV.toBool:PV->Bool
 |.bool b=>b
 |_=>false
def PV.toStr:PV->ByteArray
 |.str s=>s
 |_=>ByteArray.empty
def PV.toList:PV->List PV
 |.list _ _ xs=>xs
 |.full _ _ xs=>xs
 |_=>[]
def PV.cap:PV->Nat->PV
 |.fn _ cs,j=>cs.getD j .nil
 |_,_=>.nil
def PV.nP:PV->Nat->PV
 |.ref cs,j=>cs.getD j .nil
 |v,_=>v
def PV.isF:PV->Bool
 |.fn _ _=>true
 |.pz=>true
 |_=>false
def PV.Ew:PV->Bool
 |.pz=>true
 |_=>false
def PV.isI:PV->Bool
 |.ifc=>true
 |.rU=>true
 |_=>false
def PV.Ib:PV->Bool
 |.rU=>true
 |_=>false
def eta:Kd->PV->PV
 |.int k,v=>.int k v.toInt
 |.bool,v=>.bool v.toBool
 |.str,v=>.str v.toStr
 |.slice a ks,v=>.list a ks v.toList
 |.other,v=>v
def eY:List Kd->PV->Nat->List PV
 |[],_,_=>[]
 |k::ks,x,j=>eta k (x.cell j)::eY ks x (j+1)
def kindOk:Kd->PV->Bool
 |.int j,.int k _=>j==k
 |.bool,.bool _=>true
 |.str,.str _=>true
 |.slice a ks,.list b ls _=>a==b&&Kd.zJ ks ls
 |.slice _ _,.nil=>true
 |.other,.agg _=>false
 |.other,_=>true
 |_,_=>false
def bn:List Kd->List PV->Bool
 |[],[]=>true
 |k::ks,v::vs=>kindOk k v&&bn ks vs
 |_,_=>false
def sS:List Kd->PV->Nat->List PV
 |[],_,_=>[]
 |k::ks,x,j=>eta k (x.nP j)::sS ks x (j+1)
def VB:Bool × List Kd->PV->PV
 |(true,ks),v=>.ref (sS ks v 0)
 |(false,[k]),v=>eta k v
 |_,v=>v
def lZ:List (Bool × List Kd)->PV->Nat->List PV
 |[],_,_=>[]
 |s::r,x,j=>VB s (x.cap j)::lZ r x (j+1)
def X9:Bool × List Kd->PV->Bool
 |(true,ks),.ref cs=>bn ks cs
 |(false,[k]),v=>kindOk k v
 |_,_=>false
def CU:List (Bool × List Kd)->List PV->Bool
 |[],[]=>true
 |s::r,v::vs=>X9 s v&&CU r vs
 |_,_=>false
def PV.VD:PV->Bool
 |.agg _=>false
 |_=>true
def aA:Bool->List Kd->PV->Bool
 |true,ks,.agg cs=>bn ks cs
 |true,_,_=>false
 |false,[k],v=>kindOk k v
 |false,_,_=>false
inductive AV where
 |undef
 |p (v:PV)
 |slice (s z off len:Nat)
 |bslice (s off len:Nat)
 |ptr (s idx off:Nat)
 |pF (a:Bool) (ks:List Kd) (x:PV) (off:Nat)
 |fn (f:Nat) (caps:List AV)
 |agg (cs:List AV)
 |o7 (vs:List AV)
 |fresh (a:Bool) (ks:List Kd) (xs:List PV)
 |AB
 |mref (s:Nat)
 deriving Inhabited
inductive aH where
 |box (cs:List AV)
 |arr (a:Bool) (ks:List Kd) (xs:List PV)
 |log (on:Bool) (xs:List PV)
 |tb (t:TypeId) (c0 c1:AV)
 |mp (t:TypeId) (es:List (PV × PV))
 |br (e:TypeId) (xs:List PV)
 deriving Inhabited
abbrev Heap:=List (Nat × aH)
structure St where
 env:List AV
 heap:Heap
inductive Ex where
 |normal
 |exit (id:Nat)
 |ret
structure Eff where
 val:AV
 ny:List (Nat × aH):=[]
 new:List Nat:=[]
 cut:List Nat:=[]
 zK:List Nat:=[]
def look:Heap->Nat->Option aH
 |[],_=>none
 |(k,b)::h,s=>bif k==s then some b else look h s
def put:Heap->Nat->aH->Heap
 |[],s,b=>[(s,b)]
 |(k,c)::h,s,b=>bif k==s then(s,b)::h else(k,c)::put h s b
def drop1:Heap->Nat->Heap
 |[],_=>[]
 |(k,c)::h,s=>bif k==s then drop1 h s else(k,c)::drop1 h s
def eH:Heap->List (Nat × aH)->Heap
 |h,[]=>h
 |h,(s,b)::r=>eH (put h s b) r
def nG:Heap->List Nat->Heap
 |h,[]=>h
 |h,s::r=>nG (drop1 h s) r
def fB:Nat->List Nat->Bool
 |_,[]=>false
 |x,y::r=>bif x==y then true else fB x r
mutual
def AV.refers(ss:List Nat):AV->Bool
 |.slice s _ _ _=>fB s ss
 |.bslice s _ _=>fB s ss
 |.ptr s _ _=>fB s ss
 |.mref s=>fB s ss
 |.fn _ cs=>AV.fU ss cs
 |.agg cs=>AV.fU ss cs
 |.o7 cs=>AV.fU ss cs
 |_=>false
def AV.fU(ss:List Nat):List AV->Bool
 |[]=>false
 |v::r=>AV.refers ss v||AV.fU ss r
end
def AV.kill(ss:List Nat)(v:AV):AV:=bif AV.refers ss v then .undef else v
def gq(ss:List Nat):List AV->List AV
 |[]=>[]
 |v::r=>AV.kill ss v::gq ss r
def aH.kill(ss:List Nat):aH->aH
 |.box cs=>.box (gq ss cs)
 |.tb t c0 c1=>.tb t (AV.kill ss c0) (AV.kill ss c1)
 |b=>b
def fM(ss:List Nat):Heap->Heap
 |[]=>[]
 |(k,b)::h=>(k,b.kill ss)::fM ss h
def St.kill(ss:List Nat)(st:St):St:=
 match ss with
 |[]=>st
 |_=>{env:=gq ss st.env,heap:=fM ss st.heap}
def setEnv(env:List AV)(d:Option Nat)(v:AV):List AV:=
 match d with
 |some d=>env.set d v
 |none=>env
def St.strike(ss:List Nat)(st:St):St:=
 match ss with
 |[]=>st
 |ss=>{env:=gq ss st.env,heap:=nG (fM ss st.heap) ss}
def present(h:Heap):List Nat->List Nat
 |[]=>[]
 |s::r=>match look h s with
  |some _=>s::present h r
  |none=>present h r
def St.apply(st:St)(d:Option Nat)(e:Eff):St:=
 let st1:=(st.strike (present st.heap e.new++e.zK)).kill e.cut
 {env:=setEnv st1.env d e.val,heap:=eH st1.heap e.ny}
def zL(s d x:Nat):Nat:=bif x==s then d else x
mutual
def AV.ren(s d:Nat):AV->AV
 |.slice x z o l=>.slice (zL s d x) z o l
 |.bslice x o l=>.bslice (zL s d x) o l
 |.ptr x i o=>.ptr (zL s d x) i o
 |.mref x=>.mref (zL s d x)
 |.fn f cs=>.fn f (AV.GU s d cs)
 |.agg cs=>.agg (AV.GU s d cs)
 |.o7 cs=>.o7 (AV.GU s d cs)
 |v=>v
def AV.GU(s d:Nat):List AV->List AV
 |[]=>[]
 |v::r=>AV.ren s d v::AV.GU s d r
end
def aH.ren(s d:Nat):aH->aH
 |.box cs=>.box (AV.GU s d cs)
 |.tb t c0 c1=>.tb t (AV.ren s d c0) (AV.ren s d c1)
 |b=>b
def pX(s d:Nat):Heap->Heap
 |[]=>[]
 |(k,b)::h=>(zL s d k,b.ren s d)::pX s d h
def St.zM(st:St)(s d:Nat):St:=
 let st1:=st.strike [d]
 {env:=AV.GU s d st1.env,heap:=pX s d st1.heap}
def tY(live:List Nat):Nat->List AV->List AV
 |_,[]=>[]
 |i,v::r=>(bif fB i live then v else .undef)::tY live (i+1) r
def Ll(sites:List Nat):Heap->List Nat
 |[]=>[]
 |(k,_)::h=>bif fB k sites then Ll sites h else k::Ll sites h
def St.forget(st:St)(live sites:List Nat):St:=
 let st1:St:={st with env:=tY live 0 st.env}
 st1.strike (Ll sites st1.heap)
inductive dV where
 |deep
 |fresh
 |alias (j:Nat)
 |func (g:Nat) (ss:List (Bool × List Kd))
 |zf (g:Nat) (ss:List (Bool × List Kd))
 |Oc
 |GV
 |Ey
 deriving Inhabited
inductive Prim where
 |none
 |ael
 |afb
 |str
 |TK (g:List PV->List PV->ByteArray)
 |carry (sub:Bool)
 deriving Inhabited
def Prim.calc:Prim->Bool
 |.carry _=>true
 |_=>false
def VE(sub:Bool)(x y c:Nat):Nat:=cond sub ((x+18446744073709551616-y-c)%18446744073709551616) ((x+y+c)%18446744073709551616)
def VF(sub:Bool)(x y c:Nat):Nat:=cond sub (if x<y+c then 1 else 0) ((x+y+c) / 18446744073709551616)
def Prim.is:Prim->Bool
 |.none=>false
 |_=>true
def Prim.writes:Prim->Bool
 |.ael=>true
 |.afb=>true
 |.TK _=>true
 |_=>false
structure D7 where
 MZ:Bool:=false
 shares:Bool:=false
 CV:Bool:=false
 rets:List dV:=[]
 nvars:Nat:=0
 yk:List (Bool × List Kd):=[]
 ys:List Nat:=[]
 cuts:List (Nat × List Nat × List Nat):=[]
 alts:List (Nat × List (Nat × List (Nat × List (Bool × List Kd)))):=[]
 frzs:List Nat:=[]
 xK:Prim:=.none
 Iq:List TypeId:=[]
 Na:TypeId:=0
 homes:List Nat:=[]
 quiet:Bool:=false
 fhomes:List Nat:=[]
 vcall:Bool:=false
 vkeep:Bool:=false
 afc:TypeId:=0
 gext:Bool:=false
 take:Bool:=false
 deriving Inhabited
structure TI where
 desc:TypeDesc
 size:Nat
 bytes:Nat
 agg:Bool
 sh:Bool × List Kd
 zero:Option PV
 plain:Bool
structure FI where
 fn:Func
 cfg:D7
 hides:List (Nat × List (List Nat)):=[]
structure Tab where
 types:List (Nat × TI)
 funcs:List (Nat × FI)
 strict:Bool:=false
 owns:List (Nat × Nat):=[]
 calcs:List Nat:=[]
 fulls:List Nat:=[]
 glob:Bool->World->Prop:=λ_ _=>True
def aX{β:Type}:List (Nat × β)->Nat->Option β
 |[],_=>none
 |(k,x)::r,s=>bif k==s then some x else aX r s
def VG:Value->Option PV
 |.bool b=>some (.bool b)
 |.int k n=>some (.int k n)
 |.string s=>some (.str s)
 |.slice none 0 0=>some .nil
 |.pointer none=>some .zG
 |.nilFunc=>some .pz
 |.nilIface=>some .rU
 |.map none=>some .Lj
 |_=>none
def Bz:List Value->Option (List PV)
 |[]=>some []
 |v::r=>match VG v,Bz r with
  |some x,some xs=>some (x::xs)
  |_,_=>none
def ofValue:Value->Option PV
 |.agg cs=>(Bz cs.toList).map .agg
 |v=>VG v
section
variable (P:Program)
def wz(t:TypeId):Bool:=
 match P.underlying t with
 |some (.struct _)=>true
 |some (.array _ _)=>true
 |_=>false
def aU:Nat->TypeId->Bool × List Kd
 |0,_=>(false,[.other])
 |n+1,t=>
  match P.underlying t with
  |some (.int k)=>(false,[.int k])
  |some .bool=>(false,[.bool])
  |some .string=>(false,[.str])
  |some (.slice e)=>(false,[.slice (aU n e).1 (aU n e).2])
  |some (.struct fs)=>(true,fs.toList.flatMap λf=>(aU n f.type).2)
  |some (.array len e)=>(true,(List.replicate len (aU n e).2).flatten)
  |_=>(false,[.other])
def OA(sz:TypeId->Option Nat)(g:TypeId->Bool):Nat->List Field->Bool
 | _,[]=>true
 | o,f::r=>match sz f.type with
  | some n => f.offset == o && (f.name != "_" && (g f.type && OA sz g (o + n) r))
  | none=>false
def Ez:Nat->TypeId->Bool
 |0,_=>false
 |n+1,t=>match P.underlying t with
  |some (.int _)=>true
  |some .bool=>true
  |some .string=>true
  |some (.struct fs)=>!(P.stoodInHeld t)&&OA (λt=>(P.info? t).map (·.size)) (Ez n) 0 fs.toList
  |_=>false
def P8(t:TypeId):Bool:=
 match P.underlying t with
 |some (.struct _)=>Ez P 4 t&&!(P.eqGuardType P.depth t)
 |_=>false
def mG(t:TypeId):Option TI:=
 match P.underlying t,P.info? t with
 |some d,some i=>some {desc:=d,size:=i.size,bytes:=i.bytes,agg:=wz P t,sh:=aU P 8 t,zero:=i.zero.bind ofValue,plain:=P8 P t}
 |_,_=>none
end
section
variable (T:Tab)
def und(t:TypeId):Option TypeDesc:=(aX T.types t).map (·.desc)
def oK(t:TypeId):Option Nat:=(aX T.types t).map (·.size)
def JE(t:TypeId):Option Nat:=(aX T.types t).map (·.bytes)
def afd(t:TypeId):Bool:=match aX T.types t with |some i=>i.agg |none=>false
def ay(t:TypeId):Bool × List Kd:=match aX T.types t with |some i=>i.sh |none=>(false,[])
def G8(t:TypeId):Option PV:=(aX T.types t).bind (·.zero)
def EC(t:TypeId):Bool:=match aX T.types t with |some i=>i.plain |none=>false
def fF(f:Nat):D7:=match aX T.funcs f with |some i=>i.cfg |none=>{}
def aP(env:List AV):Operand->AV
 |.tmp t=>env.getD t .undef
 |.const v=>match ofValue v with
  |some x=>.p x
  |none=>.undef
 |.func f=>.p (.fn f [])
 |.global _=>.undef
def jX(env:List AV):List Operand->List AV
 |[]=>[]
 |x::r=>aP env x::jX env r
def DL:List AV->Option (List PV)
 |[]=>some []
 |.p v::r=>match DL r with
  |some vs=>some (v::vs)
  |none=>none
 |_=>none
def DN(cs:List AV):AV:=
 match DL cs with
 |some vs=>.p (.agg vs)
 |none=>.agg cs
def AV.Gf:List AV->Bool
 |[]=>true
 |.undef::_=>false
 |.AB::_=>false
 |.o7 _::_=>false
 |.fresh _ _ _::_=>false
 |.agg _::_=>false
 |_::r=>AV.Gf r
def AV.ok:AV->Bool
 |.undef=>false
 |.AB=>false
 |.o7 _=>false
 |.fresh _ _ _=>false
 |.agg cs=>AV.Gf cs
 |_=>true
def AV.cells:AV->List AV
 |.p (.agg cs)=>cs.map .p
 |.agg cs=>cs
 |v=>[v]
def VH:PV->Kd
 |.int j _=>.int j
 |.bool _=>.bool
 |.str _=>.str
 |_=>.other
def JF(cs:List AV):Option (Kd × List PV):=
 match DL cs with
 |some (v::vs)=>bif (v::vs).all (kindOk (VH v))then some (VH v,v::vs)else none
 |_=>none
def Nb(h:Nat->Option aH):AV->Option (PV × List Nat)
 |.p v=>some (v,[])
 |.slice s _ off len=>match h s with
  |some (.arr a ks xs)=>some (.list a ks ((xs.drop off).take len),[s])
  |_=>none
 |.bslice s off len=>match h s with
  |some (.box cs)=>match JF cs with
   |some (kd,vs)=>some (.list false [kd] ((vs.drop off).take len),[s])
   |none=>none
  |_=>none
 |.mref s=>match h s with
  |some (.mp _ es)=>some (.Ig (es.map (·.1)) (es.map (·.2)),[s])
  |_=>none
 |_=>none
def yh(h:Nat->Option aH):List AV->Option (List PV × List Nat)
 |[]=>some ([],[])
 |v::r=>match Nb h v,yh h r with
  |some (x,s),some (xs,ss)=>some (x::xs,s++ss)
  |_,_=>none
def JG(h:Nat->Option aH):AV->Option (PV × List Nat)
 |.ptr s 0 0=>match h s with
  |some (.box cs)=>match yh h cs with
   |some (vs,ss)=>some (.ref vs,s::ss)
   |none=>none
  |_=>none
 |v=>Nb h v
def ED(h:Nat->Option aH):List AV->Option (List PV × List Nat)
 |[]=>some ([],[])
 |v::r=>match JG h v,ED h r with
  |some (x,s),some (xs,ss)=>some (x::xs,s++ss)
  |_,_=>none
def deep(h:Nat->Option aH):AV->Option (PV × List Nat)
 |.agg cs=>match yh h cs with
  |some (vs,ss)=>some (.agg vs,ss)
  |none=>none
 |.fn f cs=>match ED h cs with
  |some (vs,ss)=>some (.fn f vs,ss)
  |none=>none
 |v=>JG h v
def EF(h:Nat->Option aH):List AV->Option (List PV × List Nat)
 |[]=>some ([],[])
 |v::r=>match deep h v,EF h r with
  |some (x,s),some (xs,ss)=>some (x::xs,s++ss)
  |_,_=>none
def Ya(h:Nat->Option aH):AV->Option (Option (Bool × List Kd) × Nat × List PV)
 |.slice s _ off len=>match h s with
  |some (.arr a ks xs)=>some (some (a,ks),len,(xs.drop off).take len)
  |_=>none
 |.bslice s off len=>match h s with
  |some (.box cs)=>match JF cs with
   |some (kd,vs)=>some (some (false,[kd]),len,(vs.drop off).take len)
   |none=>none
  |_=>none
 |.p (.list a ks xs)=>some (some (a,ks),xs.length,xs)
 |.p (.full a ks xs)=>some (some (a,ks),xs.length,xs)
 |.p .nil=>some (none,0,[])
 |.p (.str s)=>some (some (false,[.int .u8]),s.size,s.data.toList.map λb=>.int .u8 b.toNat)
 |_=>none
def EG(o:Option (Bool × List Kd))(a:Bool)(ks:List Kd):Bool:=
 match o with
 |none=>true
 |some (b,ls)=>a==b&&Kd.zJ ks ls
def ZI(op:BinOp)(k:IntKind)(x y:Int):Option PV:=
 match op with
 |.add=>some (.int k (k.wrap (x+y)))
 |.sub=>some (.int k (k.wrap (x-y)))
 |.mul=>some (.int k (k.wrap (x*y)))
 |.and=>some (.int k (k.wrap (BitVec.ofInt k.bits x &&& BitVec.ofInt k.bits y).toNat))
 |.or=>some (.int k (k.wrap (BitVec.ofInt k.bits x ||| BitVec.ofInt k.bits y).toNat))
 |.xor=>some (.int k (k.wrap (BitVec.ofInt k.bits x ^^^ BitVec.ofInt k.bits y).toNat))
 |.andNot=>some (.int k (k.wrap (BitVec.ofInt k.bits x &&& ~~~(BitVec.ofInt k.bits y)).toNat))
 |.eql=>some (.bool (x==y))
 |.neq=>some (.bool (x != y))
 |.lss=>some (.bool (decide (x<y)))
 |.leq=>some (.bool (decide (x<=y)))
 |.gtr=>some (.bool (decide (x > y)))
 |.geq=>some (.bool (decide (x >= y)))
 |_=>none
def CW:List UInt8->List UInt8->Bool
 |_,[]=>false
 |[],_::_=>true
 |a::x,b::y=>decide (a<b)||(a==b&&CW x y)
def ZJ(op:BinOp)(x y:ByteArray):Option PV:=
 match op with
 |.eql=>some (.bool (x.toList==y.toList))
 |.neq=>some (.bool !(x.toList==y.toList))
 |.lss=>some (.bool (CW x.toList y.toList))
 |.leq=>some (.bool (CW x.toList y.toList||x.toList==y.toList))
 |.gtr=>some (.bool !(CW x.toList y.toList||x.toList==y.toList))
 |.geq=>some (.bool !(CW x.toList y.toList))
 |_=>none
def xR(d:Option TypeDesc):PV->PV->Option Bool
 |.int j x,.int k y=>match d with
  |some (.int _)=>bif j==k then some (x==y)else none
  |_=>none
 |.bool x,.bool y=>match d with
  |some .bool=>some (x==y)
  |_=>none
 |.str x,.str y=>match d with
  |some .string=>some (x==y)
  |_=>none
 |_,_=>none
def RX(sz:TypeId->Option Nat)(g:TypeId->List PV->List PV->Option Bool):List Field->List PV->List PV->Option Bool
 |[],[],[]=>some true
 |f::fs,xs,ys=>match sz f.type with
  |some n=>bif Nat.ble n xs.length&&Nat.ble n ys.length then(match g f.type (xs.take n) (ys.take n),RX sz g fs (xs.drop n) (ys.drop n)with
   |some a,some b=>some (a&&b)
   |_,_=>none)else none
  |none=>none
 |_,_,_=>none
def TR:Nat->TypeId->List PV->List PV->Option Bool
 |0,_,_,_=>none
 |n+1,t,xs,ys=>match und T t with
  |some (.struct fs)=>RX (oK T) (TR n) fs.toList xs ys
  |d=>match xs,ys with
   |[x],[y]=>xR d x y
   |_,_=>none
def vG:Nat->List Field->Bool
 | _,[]=>true
 | o, f :: r => (f.offset == o && (f.name != "_" && Nat.beq ((oK T f.type).getD 0) 1)) && ((match und T f.type with
  | some (.int _)=>true
  | _=>false)&&vG (o+1) r)
def nH(t:TypeId):Bool:=
 EC T t&&match und T t with
 |some (.struct fs)=>vG T 0 fs.toList
 |_=>false
def nFields(t:TypeId):Nat:=match und T t with
 |some (.struct fs)=>fs.size
 |_=>0
def PV.afe:PV->Option (List PV)
 |.agg cs=>some cs
 |_=>none
def fH(t:TypeId)(k:List PV):List (PV × PV)->Option (Option Nat)
 |[]=>some none
 |p::r=>match p.1.afe with
  |some c=>match TR T 4 t k c with
   |some true=>some (some 0)
   |some false=>(fH t k r).map λi=>i.map (·+1)
   |none=>none
  |none=>none
def dA(es:List (PV × PV))(k v:PV):Option Nat->List (PV × PV)
 |some i=>es.set i ((es.getD i (.nil,.nil)).1,v)
 |none=>es++[(k,v)]
inductive DT where
 |fail
 |ret (e:Eff)
 |ite (c:Bool) (x y:DT)
 |call (o:Option (List AV × List aH)) (f:List AV × List aH->DT)
def DT.run{α:Type}(k:Eff->Option α):DT->Option α
 |.fail=>none
 |.ret e=>k e
 |.ite c x y=>cond c (DT.run k x) (DT.run k y)
 |.call o f=>match o with
  |some r=>DT.run k (f r)
  |none=>none
abbrev dM(a b:Int):Bool:=decide (a<b)
abbrev leI(a b:Int):Bool:=decide (a<=b)
abbrev zD(a b:Int):Bool:=decide (a > b)
abbrev RF(a b:Int):Bool:=decide (a >= b)
abbrev eqI(a b:Int):Bool:=decide (a=b)
abbrev ltN(a b:Nat):Bool:=decide (a<b)
abbrev rZ(a b:Nat):Bool:=decide (a<=b)
def chk(c:Bool)(x:DT):DT:=.ite c x .fail
def isLit:Operand->Bool
 |.const _=>true
 |_=>false
def BA(op:BinOp)(t:TypeId)(x y:AV):DT:=
 match x,y with
 |.p (.int j a),.p (.int i b)=>
  match op with
  |.shl=>chk (!(decide (b<0)))<|.ret {val:=.p (.int j (j.wrap (a*2^(min b.toNat j.bits))))}
  |.shr=>chk (!(decide (b<0)))<|.ret {val:=.p (.int j (a.fdiv (2^(min b.toNat j.bits))))}
  |.quo=>chk (j==i)<|chk (!(decide (b=0)))<|.ret {val:=.p (.int j (j.wrap (a.tdiv b)))}
  |.rem=>chk (j==i)<|chk (!(decide (b=0)))<|.ret {val:=.p (.int j (a.tmod b))}
  |op=>chk (j==i)<|match ZI op j a b with
   |some v=>.ret {val:=.p v}
   |none=>.fail
 |.p (.str a),.p (.str b)=>
  match op with
  |.add=>chk (decide (a.size+b.size<=4611686018427387904))<|.ret {val:=.p (.str (a++b))}
  |op=>match ZJ op a b with
   |some v=>.ret {val:=.p v}
   |none=>.fail
 |.p (.bool a),.p (.bool b)=>
  match op,und T t with
  |.eql,some .bool=>.ret {val:=.p (.bool (a==b))}
  |.neq,some .bool=>.ret {val:=.p (.bool (!(a==b)))}
  |_,_=>.fail
 |.p (.agg a),.p (.agg b)=>
  chk (EC T t) <|
   match und T t with
   |some (.struct _)=>
    match op,TR T 4 t a b with
    |.eql,some r=>.ret {val:=.p (.bool r)}
    |.neq,some r=>.ret {val:=.p (.bool (!r))}
    |_,_=>.fail
   |_=>.fail
 |_,_=>.fail
def CX(op:BinOp)(t:TypeId)(kc:Bool)(x y:AV):DT:=
 match y,x with
 |.p .pz,.p x=>
  match op,und T t with
  |.eql,some (.func _ _ _)=>chk x.isF<|.ret {val:=.p (.bool x.Ew)}
  |.neq,some (.func _ _ _)=>chk x.isF<|.ret {val:=.p (.bool (!x.Ew))}
  |_,_=>.fail
 |.p .rU,.p x=>
  match op,und T t with
  |.eql,some (.interface _)=>chk (kc&&x.isI)<|.ret {val:=.p (.bool x.Ib)}
  |.neq,some (.interface _)=>chk (kc&&x.isI)<|.ret {val:=.p (.bool (!x.Ib))}
  |_,_=>.fail
 |.p .nil,.p (.list _ _ xs)=>
  match op,und T t with
  |.eql,some (.slice _)=>chk (Nat.blt 0 xs.length)<|.ret {val:=.p (.bool false)}
  |.neq,some (.slice _)=>chk (Nat.blt 0 xs.length)<|.ret {val:=.p (.bool true)}
  |_,_=>.fail
 |_,_=>.fail
def JH(op:BinOp)(t:TypeId)(kc:Bool)(x y:AV):DT:=
 match y with
 |.p .pz=>CX T op t kc x y
 |.p .rU=>CX T op t kc x y
 |.p .nil=>CX T op t kc x y
 |_=>BA T op t x y
def P9(op:UnOp)(x:AV):DT:=
 match op,x with
 |.neg,.p (.int j n)=>.ret {val:=.p (.int j (j.wrap (0-n)))}
 |.not,.p (.bool b)=>.ret {val:=.p (.bool (!b))}
 |_,_=>.fail
def Qa(c a b:AV):DT:=
 match c with
 |.p (.bool c)=>
  match a,b with
  |.p (.bool x),.p (.bool y)=>.ret {val:=.p (.bool (cond c x y))}
  |a,b=>.ite c (.ret {val:=a}) (.ret {val:=b})
 |_=>.fail
def ahS(t:TypeId):PV->aH
 |.agg [.zG,.nil]=>.tb t (.p .zG) (.p .nil)
 |z=>.box ((AV.p z).cells)
def Lm(d:Option Nat)(t:TypeId):DT:=
 match d,G8 T t with
 |some d,some z=>.ret {val:=.ptr d 0 0,ny:=[(d,ahS t z)],new:=[d]}
 |_,_=>.fail
def VI(d:Option Nat)(v:AV):DT:=
 match d with
 |some d=>chk (v.ok&&!(AV.refers [d] v))<|.ret {val:=.ptr d 0 0,ny:=[(d,.box v.cells)],new:=[d]}
 |none=>.fail
def patch{β:Type}(cs:List β)(off:Nat)(vs:List β):List β:=cs.take off++vs++cs.drop (off+vs.length)
def G9(place:Nat->Option (Nat × Nat)):List AV->List (Nat × AV)->Option (List AV)
 |cs,[]=>some cs
 |cs,(i,v)::r=>match place i with
  |none=>none
  |some (off,size)=>
   bif v.cells.length==size&&Nat.ble (off+size) cs.length&&v.ok then G9 place (patch cs off v.cells) r else none
def gQ:List Field->List (Option (Nat × Nat))
 |[]=>[]
 |f::r=>((oK T f.type).map λn=>(f.offset,n))::gQ r
def Lp(t:TypeId)(parts:List (Nat × AV)):DT:=
 match G8 T t,und T t with
 |some (.agg zs),some (.struct fs)=>
  chk ((gQ T fs.toList).all Option.isSome) <|
  match G9 (λi=>((gQ T fs.toList)[i]?).bind id) (zs.map .p) parts with
  |some cs=>.ret {val:=DN cs}
  |none=>.fail
 |some (.agg zs),some (.array _ e)=>
  match oK T e with
  |some n=>match G9 (λi=>some (i*n,n)) (zs.map .p) parts with
   |some cs=>.ret {val:=DN cs}
   |none=>.fail
  |none=>.fail
 |_,_=>.fail
def Ui(h:Nat->Option aH)(a:Bool)(ks:List Kd):List PV->List Nat->List (Nat × AV)->Option (List PV × List Nat)
 |xs,ss,[]=>some (xs,ss)
 |xs,ss,(i,v)::r=>match deep h v with
  |some (x,s)=>bif aA a ks x&&Nat.blt i xs.length then Ui h a ks (xs.set i x) (ss++s) r else none
  |none=>none
def yj(h:Nat->Option aH)(d:Option Nat)(t:TypeId)(len:Nat)(parts:List (Nat × AV)):DT:=
 match d,und T t with
 |some d,some (.slice e)=>
  match G8 T e,oK T e with
  |some z,some n=>
   let sh:=ay T e
   chk (n==sh.2.length&&aA sh.1 sh.2 z&&Nat.ble (len*n) 16777216) <|
    match Ui h sh.1 sh.2 (List.replicate len z) [] parts with
    |some (xs,ss)=>.ret {val:=.slice d n 0 len,ny:=[(d,.arr sh.1 sh.2 xs)],new:=[d],zK:=ss}
    |none=>.fail
  |_,_=>.fail
 |_,_=>.fail
def zN(l:Bool)(h:Nat->Option aH)(t:TypeId)(len:Nat)(parts:List (Nat × AV)):DT:=
 match und T t with
 |some (.slice e)=>
  match G8 T e,oK T e with
  |some z,some n=>
   let sh:=ay T e
   chk (n==sh.2.length&&aA sh.1 sh.2 z&&Nat.ble (len*n) 16777216) <|
    match Ui h sh.1 sh.2 (List.replicate len z) [] parts with
    |some (xs,[])=>.ret {val:=.p (bif l then .list sh.1 sh.2 xs else .full sh.1 sh.2 xs)}
    |_=>.fail
  |_,_=>.fail
 |_=>.fail
def VJ(t:TypeId)(n:Nat)(a:Bool)(ks:List Kd)(x:PV)(off:Nat):Option PV:=
 bif Nat.ble (off+n) ks.length then
  bif afd T t then(bif a then some (.agg (eY ((ks.drop off).take n) x off))else none)
  else bif Nat.beq n 1 then(match (ks.drop off).head? with
   |some kd=>some (eta kd (x.cell off))
   |none=>none)else none
 else none
def tZ(t:TypeId)(n:Nat)(cs:List AV)(off:Nat):Option AV:=
 bif Nat.ble (off+n) cs.length then
  bif afd T t then some (DN ((cs.drop off).take n))else(bif Nat.beq n 1 then some (cs.getD off .undef)else none)
 else none
def EH(h:Nat->Option aH)(t:TypeId)(ptr:AV):DT:=
 match oK T t with
 |none=>.fail
 |some n=>
  match ptr with
  |.ptr s idx off=>match h s with
   |some (.box cs)=>match tZ T t n cs off with
    |some v=>.ret {val:=v}
    |none=>.fail
   |some (.arr a ks xs)=>match VJ T t n a ks (xs.getD idx .nil) off with
    |some v=>.ret {val:=.p v}
    |_=>.fail
   |_=>.fail
  |.pF a ks x off=>match VJ T t n a ks x off with
   |some v=>.ret {val:=.p v}
   |none=>.fail
  |.p (.ref cs)=>match tZ T t n (cs.map .p) 0 with
   |some v=>.ret {val:=v}
   |none=>.fail
  |_=>.fail
def Lr(h:Nat->Option aH)(t:TypeId)(ptr v:AV):DT:=
 match oK T t with
 |none=>.fail
 |some n=>
  chk (v.cells.length==n) <|
   match ptr with
   |.ptr s idx off=>match h s with
    |some (.box cs)=>
     chk (v.ok&&(Nat.beq idx 0&&Nat.ble (off+n) cs.length))<|.ret {val:=.undef,ny:=[(s,.box (patch cs off v.cells))]}
    |some (.arr a ks xs)=>
     match deep h v with
     |some (x,ss)=>
      match a with
      |true=>
       chk (bn ((ks.drop off).take n) x.cells&&(Nat.ble (off+n) ks.length&&!(fB s ss))) <|
        .ret {val:=.undef,ny:=[(s,.arr a ks (xs.set idx (.agg (patch (eY ks (xs.getD idx .nil) 0) off x.cells))))],zK:=ss}
      |false=>
       chk (aA a ks x&&(Nat.beq off 0&&(Nat.beq n 1&&!(fB s ss))))<|.ret {val:=.undef,ny:=[(s,.arr a ks (xs.set idx x))],zK:=ss}
     |none=>.fail
    |_=>.fail
   |.p (.ref [.int k b])=>match v with
    |.p (.int j a)=>chk (j==k&&eqI a b)<|.ret {val:=.undef}
    |_=>.fail
   |_=>.fail
def zO(t:TypeId)(ptr:AV)(f:Nat):DT:=
 match und T t with
 |some (.struct fs)=>
  match fs[f]? with
  |some fd=>
   match oK T fd.type with
   |some (_+1)=>
    match ptr with
    |.ptr s idx off=>.ret {val:=.ptr s idx (off+fd.offset)}
    |.pF a ks x off=>.ret {val:=.pF a ks x (off+fd.offset)}
    |.p (.ref [c])=>match fd.offset with
     |0=>.ret {val:=.p (.ref [c])}
     |o=>.ret {val:=.pF true [VH c] (.agg [c]) o}
    |.p (.ref cs)=>.ret {val:=.pF true (cs.map VH) (.agg cs) fd.offset}
    |_=>.fail
   |_=>.fail
  |none=>.fail
 |_=>.fail
def Ls(t:TypeId)(x:AV)(f:Nat):DT:=
 match und T t with
 |some (.struct fs)=>
  match fs[f]? with
  |some fd=>
   match oK T fd.type,x with
   |some n,.p (.agg cs)=>match tZ T fd.type n (cs.map .p) fd.offset with
    |some v=>.ret {val:=v}
    |none=>.fail
   |some n,.agg cs=>match tZ T fd.type n cs fd.offset with
    |some v=>.ret {val:=v}
    |none=>.fail
   |_,_=>.fail
  |none=>.fail
 |_=>.fail
def VK(f:Nat->AV)(i:Int):Nat->Nat->DT
 |0,_=>.fail
 |m+1,j=>.ite (decide (i=(j:Int))) (.ret {val:=f j}) (VK f i m (j+1))
def zQ(t:TypeId)(x:AV)(i:AV):DT:=
 match i with
 |.p (.int _ i)=>
  match und T t with
  |some (.slice e)=>
   match oK T e with
   |none=>.fail
   |some n=>
   match x with
   |.slice s z off len=>chk (z==n)<|chk (decide (0<=i)&&decide (i<(len:Int)))<|.ret {val:=.ptr s (off+i.toNat) 0}
   |.bslice s off len=>chk (n==1)<|chk (decide (0<=i)&&decide (i<(len:Int)))<|.ret {val:=.ptr s 0 (off+i.toNat)}
   |.p (.list a ks xs)=>chk (ks.length==n)<|chk (decide (0<=i)&&decide (i<(xs.length:Int)))<|.ret {val:=.pF a ks (xs.getD i.toNat .nil) 0}
   |.p (.full a ks xs)=>chk (ks.length==n)<|chk (decide (0<=i)&&decide (i<(xs.length:Int)))<|.ret {val:=.pF a ks (xs.getD i.toNat .nil) 0}
   |_=>.fail
  |some (.array n e)=>
   match x,oK T e with
   |.ptr s idx off,some m=>chk (decide (0<=i)&&decide (i<(n:Int)))<|bif Nat.ble n 8 then VK (λj=>.ptr s idx (off+j*m)) i n 0 else .ret {val:=.ptr s idx (off+i.toNat*m)}
   |.pF a ks y off,some m=>chk (decide (0<=i)&&decide (i<(n:Int)))<|.ret {val:=.pF a ks y (off+i.toNat*m)}
   |_,_=>.fail
  |_=>.fail
 |_=>.fail
def Lu(t:TypeId)(x:AV)(i:AV):DT:=
 match i with
 |.p (.int _ i)=>
  match und T t,x with
  |some .string,.p (.str s)=>chk (decide (0<=i)&&decide (i<(s.size:Int)))<|.ret {val:=.p (.int .u8 ((s.data.getD i.toNat 0).toNat:Int))}
  |some (.array n e),.p (.agg cs)=>
   match (ay T e).2,oK T e with
   |[kd],some 1=>
    chk (cs.all (kindOk kd)&&Nat.beq cs.length n&&!(afd T e)) <|
     chk (decide (0<=i)&&decide (i<(n:Int)))<|.ret {val:=.p (eta kd (cs.getD i.toNat .nil))}
   |_,some m=>
    chk (Nat.ble n 8&&((List.range n).all (λj=>(tZ T e m (cs.map .p) (j*m)).isSome))) <|
     chk (decide (0<=i)&&decide (i<(n:Int)))<|VK (λj=>(tZ T e m (cs.map .p) (j*m)).getD .undef) i n 0
   |_,_=>.fail
  |_,_=>.fail
 |_=>.fail
def zS(d:Option Nat)(t:TypeId)(len cap:AV):DT:=
 match d,und T t,len,cap with
 |some d,some (.slice e),.p (.int _ l),.p (.int _ c)=>
  match G8 T e,oK T e,JE T e with
  |some z,some n,some by_=>
   let sh:=ay T e
   chk (n==sh.2.length&&aA sh.1 sh.2 z&&Nat.ble by_ 16384) <|
    chk (decide (0<=l)&&(decide (l<=c)&&decide (c<=2147483648))) <|
     .ret {val:=.slice d n 0 l.toNat,ny:=[(d,.arr sh.1 sh.2 (List.replicate l.toNat z))],new:=[d]}
  |_,_,_=>.fail
 |_,_,_,_=>.fail
def bound(dflt:Int):Option AV->Option Int
 |none=>some dflt
 |some (.p (.int _ n))=>some n
 |_=>none
def EI(d:Option Nat)(t:TypeId)(hint:Option AV):DT:=
 match d,und T t,hint with
 |some d,some (.map _ _),none=>.ret {val:=.mref d,ny:=[(d,.mp t [])],new:=[d]}
 |_,_,_=>.fail
def PV.Gg:PV->Bool
 |.int _ _=>true
 |.str _=>true
 |_=>false
def wF(t:TypeId):Bool:=match und T t with
 |some (.int _)=>true
 |some .string=>true
 |_=>false
def bP(t:TypeId)(k:PV):List (PV × PV)->Option (Option Nat)
 |[]=>some none
 |p::r=>match xR (und T t) k p.1 with
  |some true=>some (some 0)
  |some false=>(bP t k r).map λi=>i.map (·+1)
  |none=>none
def yt(h:Nat->Option aH)(t:TypeId)(m k v:AV):DT:=
 match und T t,m,k,v with
 |some (.map kt _),.mref s,.p k,.p v=>match h s with
  |some (.mp u es)=>
   chk (wF T kt&&(v.VD&&k.Gg)) <|
   chk ((bP T kt k es).isSome)<|.ret {val:=.undef,ny:=[(s,.mp u (dA es k v ((bP T kt k es).getD none)))]}
  |_=>.fail
 |_,_,_,_=>.fail
def uf(h:Nat->Option aH)(t:TypeId)(m k v:AV):DT:=
 match k with
 |.p (.agg kc)=>
  match und T t,m,v with
  |some (.map kt _),.mref s,.p v=>match h s with
   |some (.mp u es)=>
    chk (nH T kt&&(v.VD&&Nat.beq kc.length (nFields T kt))) <|
    chk ((fH T kt kc es).isSome)<|.ret {val:=.undef,ny:=[(s,.mp u (dA es (.agg kc) v ((fH T kt kc es).getD none)))]}
   |_=>.fail
  |_,_,_=>.fail
 |k=>yt T h t m k v
def iq(t:TypeId)(k:PV)(es:List (PV × PV)):Option (Option Nat):=
 match k with
 |.agg kc=>bif nH T t&&Nat.beq kc.length (nFields T t)then fH T t kc es else none
 |k=>bif wF T t&&k.Gg then bP T t k es else none
def lJ(z:PV)(es:List (PV × PV)):Option Nat->PV
 |some i=>(es.getD i (.nil,.nil)).2
 |none=>z
def VL(kt:TypeId)(kd:Kd)(z:PV)(es:List (PV × PV))(k:PV)(ok:Bool):DT:=
 chk ((iq T kt k es).isSome) <|
  chk (kindOk kd (lJ z es ((iq T kt k es).getD none))) <|
   .ret {val:=bif ok then .o7 [.p (eta kd (lJ z es ((iq T kt k es).getD none))),.p (.bool ((iq T kt k es).getD none).isSome)]else .p (eta kd (lJ z es ((iq T kt k es).getD none)))}
def CY(h:Nat->Option aH)(t:TypeId)(m k:AV):DT:=
 match und T t,m,k with
 |some (.map kt et),.mref s,.p (.agg kc)=>match h s,G8 T et with
  |some (.mp u es),some z=>
   chk (nH T kt&&(z.VD&&Nat.beq kc.length (nFields T kt))) <|
   chk ((fH T kt kc es).isSome) <|
    .ret {val:=.o7 [.p (lJ z es ((fH T kt kc es).getD none)),.p (.int .i64 ((((fH T kt kc es).getD none).getD es.length:Nat):Int))],ny:=[(s,.mp u (dA es (.agg kc) (lJ z es ((fH T kt kc es).getD none)) ((fH T kt kc es).getD none)))]}
  |_,_=>.fail
 |_,_,_=>.fail
def yu(h:Nat->Option aH)(m k v:AV):DT:=
 match m,k,v with
 |.mref s,.p (.int _ n),.p v=>match h s with
  |some (.mp u es)=>chk (v.VD&&(decide (0<=n)&&decide (n.toNat<es.length)))<|.ret {val:=.undef,ny:=[(s,.mp u (es.set n.toNat ((es.getD n.toNat (.nil,.nil)).1,v)))]}
  |_=>.fail
 |_,_,_=>.fail
def Ir(h:Nat->Option aH)(t:TypeId)(m k:AV)(ok:Bool):DT:=
 match und T t with
 |some (.map kt et)=>
  match G8 T et,ay T et,k with
  |some z,(false,[kd]),.p k=>
   match m with
   |.mref s=>match h s with
    |some (.mp _ es)=>VL T kt kd z es k ok
    |_=>.fail
   |.p v=>chk v.isMap<|VL T kt kd z (v.yV.zip v.yX) k ok
   |_=>.fail
  |_,_,_=>.fail
 |_=>.fail
def LC(t:TypeId)(x:AV)(lo hi mx:Option AV):DT:=
 match und T t with
 |some .string=>
  match x,mx with
  |.p (.str s),none=>
   match bound 0 lo,bound s.size hi with
   |some l,some u=>chk (decide (0<=l)&&(decide (l<=u)&&decide (u<=(s.size:Int))))<|.ret {val:=.p (.str (s.extract l.toNat u.toNat))}
   |_,_=>.fail
  |_,_=>.fail
 |some (.slice e)=>
  match oK T e with
  |none=>.fail
  |some n=>
  match x with
  |.slice s z off len=>
   match bound 0 lo,bound len hi,bound len mx with
   |some l,some u,some m=>
    chk (z==n)<|chk (decide (0<=l)&&(decide (l<=u)&&(decide (u<=m)&&decide (m<=(len:Int)))))<|.ret {val:=.slice s z (off+l.toNat) (u-l).toNat}
   |_,_,_=>.fail
  |.bslice s off len=>
   match bound 0 lo,bound len hi,bound len mx with
   |some l,some u,some m=>
    chk (n==1)<|chk (decide (0<=l)&&(decide (l<=u)&&(decide (u<=m)&&decide (m<=(len:Int)))))<|.ret {val:=.bslice s (off+l.toNat) (u-l).toNat}
   |_,_,_=>.fail
  |.p (.list a ks xs)=>
   match bound 0 lo,bound xs.length hi,bound xs.length mx with
   |some l,some u,some m=>
    chk (ks.length==n)<|chk (decide (0<=l)&&(decide (l<=u)&&(decide (u<=m)&&decide (m<=(xs.length:Int))))) <|
     match mx with
     |none=>.ret {val:=.p (.list a ks ((xs.drop l.toNat).take (u-l).toNat))}
     |some _=>.ite (decide (u=m)) (.ret {val:=.p (.full a ks ((xs.drop l.toNat).take (u-l).toNat))})
      (.ret {val:=.p (.list a ks ((xs.drop l.toNat).take (u-l).toNat))})
   |_,_,_=>.fail
  |.p .nil=>
   match bound 0 lo,bound 0 hi,bound 0 mx with
   |some l,some u,some m=>chk (decide (l=0)&&(decide (u=0)&&decide (m=0)))<|.ret {val:=.p .nil}
   |_,_,_=>.fail
  |_=>.fail
 |_=>.fail
def EJ(x:AV)(i:Nat):DT:=
 match x with
 |.o7 vs=>match vs[i]? with
  |some v=>.ret {val:=v}
  |none=>.fail
 |_=>.fail
def ajA:AV->Bool
 |.slice _ _ _ _=>true
 |.p (.list _ _ _)=>true
 |_=>false
def bytesOf(xs:List PV):ByteArray:=⟨(xs.map λx=>UInt8.ofNat x.toInt.toNat).toArray⟩
def EK(h:Nat->Option aH)(_d:Option Nat)(src dst:TypeId)(x:AV):DT:=
 match x with
 |.p (.int _ n)=>match und T src,und T dst with
  |some _,some (.int j)=>.ret {val:=.p (.int j (j.wrap n))}
  |_,_=>.fail
 |x=>match und T src,und T dst with
  |some (.slice e),some .string=>match und T e,Ya h x with
   |some (.int .u8),some (s2,_,ys)=>chk (EG s2 false [.int .u8]&&ajA x)<|.ret {val:=.p (.str (bytesOf ys))}
   |_,_=>.fail
  |_,_=>.fail
def CZ(fn:Fn)(first:List AV)(caps:List AV):DT:=
 match fn,first with
 |.func f,[]=>match DL caps with
  |some vs=>.ret {val:=.p (.fn f vs)}
  |none=>chk (AV.Gf caps)<|.ret {val:=.fn f caps}
 |_,_=>.fail
def Gh(h:Nat->Option aH)(t:TypeId)(x:AV):DT:=
 match und T t,x with
 |some (.map _ _),.mref s=>match h s with
  |some (.mp _ es)=>.ret {val:=.p (.int .i64 es.length)}
  |_=>.fail
 |some .string,.p (.str s)=>.ret {val:=.p (.int .i64 s.size)}
 |some (.slice _),.slice _ _ _ len=>.ret {val:=.p (.int .i64 len)}
 |some (.slice _),.bslice _ _ len=>.ret {val:=.p (.int .i64 len)}
 |some (.slice _),.p (.list _ _ xs)=>.ret {val:=.p (.int .i64 xs.length)}
 |some (.slice _),.p (.full _ _ xs)=>.ret {val:=.p (.int .i64 xs.length)}
 |some (.slice _),.p .nil=>.ret {val:=.p (.int .i64 0)}
 |some (.array n _),_=>.ret {val:=.p (.int .i64 n)}
 |_,_=>.fail
def OB(h:Nat->Option aH)(d:Nat)(sh:Bool × List Kd)(x:AV)(s2:Option (Bool × List Kd))(m:Nat)(ys:List PV):DT:=
 chk (EG s2 sh.1 sh.2) <|
 match x with
 |.slice s _ off len=>
  match h s with
  |some (.arr a ks xs)=>
   chk (a==sh.1&&(Kd.zJ ks sh.2&&Nat.blt s 100000)) <|
   chk (decide (len+m<=2147483648)) <|
    .ret {val:=.slice s sh.2.length 0 (len+m),ny:=[(s,.arr sh.1 sh.2 ((xs.drop off).take len++ys))],cut:=[s]}
  |_=>.fail
 |.p .nil=>chk (decide (m<=2147483648))<|.ret {val:=.slice d sh.2.length 0 m,ny:=[(d,.arr sh.1 sh.2 ys)],new:=[d]}
 |.p (.full a ks xs)=>
  chk (a==sh.1&&Kd.zJ ks sh.2)<|chk (decide (0<m\/xs.length=0)&&decide (xs.length+m<=2147483648)) <|
   .ret {val:=.slice d sh.2.length 0 (xs.length+m),ny:=[(d,.arr sh.1 sh.2 (xs++ys))],new:=[d]}
 |_=>.fail
def Iu(h:Nat->Option aH)(d:Option Nat)(t t2:TypeId)(x y:AV):DT:=
 match d,und T t with
 |some d,some (.slice e)=>
  match G8 T e,oK T e,JE T e with
  |some z,some n,some by_=>
   chk (n==(ay T e).2.length&&(aA (ay T e).1 (ay T e).2 z&&Nat.ble by_ 16384)) <|
   match und T t2 with
   |some (.int _)=>match y with
    |.p (.int _ m)=>chk (decide (0<=m)&&decide (m<=2147483648))<|OB h d (ay T e) x none m.toNat (List.replicate m.toNat z)
    |_=>.fail
   |some _=>match Ya h y with
    |some (s2,m,ys)=>OB h d (ay T e) x s2 m ys
    |none=>.fail
   |none=>.fail
  |_,_,_=>.fail
 |_,_=>.fail
def ah:Nat:=100000
def dI:aH->Bool
 |.box cs=>(DL cs).isSome
 |.arr _ _ _=>true
 |_=>false
def AV.au:AV->List PV
 |.fresh _ _ xs=>xs
 |_=>[]
def AV.pv:AV->PV
 |.p v=>v
 |_=>.nil
def AV.Eb:AV->PV
 |.agg cs=>.agg (cs.map AV.pv)
 |.p v=>v
 |_=>.nil
def AV.pV:AV->List PV
 |.agg cs=>(cs.getD (cs.length-1) .undef).au
 |_=>[]
def sU{β:Type}:List β->Option (List β × β)
 |[]=>none
 |[x]=>some ([],x)
 |x::y::r=>match sU (y::r)with
  |some (l,z)=>some (x::l,z)
  |none=>none
def AV.Xh:AV->Nat
 |.slice _ _ o _=>o
 |_=>0
def AV.sLen:AV->Nat
 |.slice _ _ _ l=>l
 |_=>0
def aH.xs:aH->List PV
 |.arr _ _ xs=>xs
 |_=>[]
def aH.cs:aH->List AV
 |.box cs=>cs
 |_=>[]
def aH.ls:aH->List PV
 |.log _ xs=>xs
 |_=>[]
def zT(d:Nat)(i:Nat)(_ss:List Nat)(m:dV)(t:TypeId)(r:AV):Option (AV × List (Nat × aH)):=
 match m with
 |.deep=>match ay T t with
  |(true,ks)=>some (.p (.agg (eY ks r.pv 0)),[])
  |(false,[k])=>some (.p (eta k r.pv),[])
  |_=>none
 |.fresh=>match und T t with
  |some (.slice e)=>some (.slice (d+1000*i) (ay T e).2.length 0 r.au.length,[(d+1000*i,.arr (ay T e).1 (ay T e).2 r.au)])
  |_=>none
 |.alias _=>none
 |.func g qs=>some (.p (.fn g (lZ qs r.pv 0)),[])
 |.Oc=>some (.p .pz,[])
 |.zf _ _=>none
 |.Ey=>none
 |.GV=>match ay T t with
  |(true,ks)=>match sU ks with
   |some (ks,.slice a ls)=>some (.agg ((eY ks r.Eb 0).map .p++[.slice (d+1000*i) ls.length 0 r.pV.length]),[(d+1000*i,.arr a ls r.pV)])
   |_=>none
  |_=>none
def qW(d:Nat)(ss:List Nat):Nat->List dV->List TypeId->List AV->Option (List AV × List (Nat × aH))
 |_,_,[],_=>some ([],[])
 |i,ms,t::ts,rs=>
  match zT T d i ss (ms.headD .deep) t (rs.headD .undef),qW d ss (i+1) ms.tail ts rs.tail with
  |some (v,b),some (vs,bs)=>some (v::vs,b++bs)
  |_,_=>none
def nJ:List AV->AV
 |[v]=>v
 |vs=>.o7 vs
def keysOf:List (Nat × aH)->List Nat
 |[]=>[]
 |(k,_)::r=>k::keysOf r
def Kd.flat:Kd->Bool
 |.int _=>true
 |.bool=>true
 |.str=>true
 |_=>false
def Gi(m:dV)(t:TypeId):Bool:=
 match m with
 |.deep=>(ay T t).2.all Kd.flat
 |.fresh=>match und T t with
  |some (.slice e)=>(ay T e).2.all Kd.flat
  |_=>false
 |.alias _=>false
 |.func _ _=>false
 |.Ey=>false
 |.GV=>match ay T t with
  |(true,ks)=>match sU ks with
   |some (ks,.slice _ ls)=>ks.all Kd.flat&&ls.all Kd.flat
   |_=>false
  |_=>false
 |_=>true
def pG:List dV->List TypeId->Bool
 |_,[]=>true
 |ms,t::ts=>Gi T (ms.headD .deep) t&&pG ms.tail ts
def ZK:Bool × List Kd->PV->PV
 |(false,[.slice a ks]),.nil=>.list a ks []
 |_,v=>v
def normArgs:List TypeId->List PV->List AV
 |t::ts,v::vs=>.p (ZK (ay T t) v)::normArgs ts vs
 |[],vs=>vs.map .p
 |_::_,[]=>[]
abbrev aB:=Nat->List AV->List aH->Option (List AV × List aH)
def Nc:List dV->List AV->Option Bool
 |[],_=>none
 |.zf _ _::_,rs=>some (rs.headD .undef).pv.Ew
 |_::ms,rs=>Nc ms rs.tail
def Qc:List dV->List dV
 |[]=>[]
 |.zf _ _::ms=>.Oc::ms
 |m::ms=>m::Qc ms
def ZL:List dV->List dV
 |[]=>[]
 |.zf g qs::ms=>.func g qs::ms
 |m::ms=>m::ZL ms
def Qd(ms:List dV)(rs:List AV)(k:List dV->DT):DT:=
 match Nc ms rs with
 |none=>k ms
 |some b=>.ite b (k (Qc ms)) (k (ZL ms))
def xI(s:ByteArray):List PV:=s.data.toList.map λb=>.int .u8 b.toNat
def OC(s:Nat):AV->Bool
 |.p .zG=>true
 |.ptr x 0 0=>x==s
 |_=>false
def PV.isByte:PV->Bool
 |.int .u8 n=>decide (0<=n)&&decide (n<256)
 |_=>false
def PV.VN(k:Kd):PV->Bool
 |.full false [l] xs=>Kd.beq l k&&Nat.blt 0 xs.length
 |_=>false
def PV.Dy:PV->Bool
 |.int .i64 n=>decide (-9223372036854775808<=n)&&decide (n<=9223372036854775807)
 |_=>false
def Qe(h:Nat->Option aH)(d s:Nat)(t e:TypeId)(c1:AV)(m:Nat)(ys:List PV)(val:AV):DT:=
 match c1 with
 |.p .nil=>chk (!(d==s))<|chk (decide (m<=2147483648))<|.ret {val,ny:=[(d,.br e ys),(s,.tb t (.ptr s 0 0) (.mref d))],new:=[d]}
 |.mref g=>match h g with
  |some (.br f xs)=>chk (f==e&&(Nat.blt g 100000&&!(g==s)))<|chk (decide (xs.length+m<=2147483648)) <|
   .ret {val,ny:=[(g,.br e (xs++ys)),(s,.tb t (.ptr s 0 0) (.mref g))],cut:=[g]}
  |_=>.fail
 |_=>.fail
def EL(k:Prim)(ts:List TypeId)(e:TypeId)(h:Nat->Option aH)(d:Option Nat)(args:List AV):DT:=
 match d,k,args with
 |some d,.TK g,[.ptr s 0 0,.p x,.p y]=>match h s with
  |some (.tb t c0 c1)=>chk (fB t ts&&(OC s c0&&Nat.blt s 100000))<|chk (x.VN .str&&y.VN (.int .i64))<|chk (y.toList.all PV.Dy)<|Qe h d s t e c1 (g x.toList y.toList).size (xI (g x.toList y.toList)) (.o7 [])
  |_=>.fail
 |some _,.carry b,[.p (.int .u64 x),.p (.int .u64 y),.p (.int .u64 c)]=>chk (decide (0<=x)&&(decide (0<=y)&&(decide (0<=c)&&decide (c<=1)))) <|
  .ret {val:=.o7 [.p (.int .u64 (VE b x.toNat y.toNat c.toNat)),.p (.int .u64 (VF b x.toNat y.toNat c.toNat))]}
 |some _,.str,[.ptr s 0 0]=>match h s with
  |some (.tb t c0 c1)=>chk (fB t ts&&(OC s c0&&Nat.blt s 100000)) <|
   match c1 with
   |.p .nil=>.ret {val:=.p (.str ByteArray.empty)}
   |.mref g=>match h g with
    |some (.br f xs)=>chk (f==e&&(Nat.blt g 100000&&!(g==s)))<|chk (decide (xs.length<=2147483648))<|chk (xs.all PV.isByte)<|.ret {val:=.p (.str (bytesOf xs))}
    |_=>.fail
   |_=>.fail
  |_=>.fail
 |_,_,_=>.fail
def qy(C:aB)(h:Nat->Option aH)(d:Option Nat)(f:Nat)(args:List AV):DT:=
 match d,aX T.funcs f with
 |some d,some fi=>
  match fi.cfg.MZ with
  |false=>
   match EF h args with
   |some (vs,ss)=>
    .call (C f (cond fi.cfg.CV (vs.map .p) (normArgs T fi.fn.params.toList vs)) []) λr=>
     Qd fi.cfg.rets r.1 λms=>
     match qW T d [] 0 ms fi.fn.resultTypes.toList r.1 with
     |some (xs,bs)=>.ret {val:=nJ xs,ny:=bs,new:=keysOf bs,zK:=cond fi.cfg.shares ss []}
     |none=>.fail
   |none=>.fail
  |true=>.fail
 |_,_=>.fail
def dh(keep:Bool):Nat:=cond keep 100001 99999
def jm(keep:Bool):List aH->Heap
 |[b0,b1]=>[(ah,b0),(dh keep,b1)]
 |_=>[]
def Jq(bl:List aH):List PV:=(bl.getD 1 (.box [])).xs
def Cm(bl:List aH):AV:=(bl.headD (.box [])).cs.headD .undef
def Qg(C:aB)(h:Nat->Option aH)(d f:Nat)(fi:FI)(pre:List AV)(s A:Nat)(nw:List Nat)(a:Bool)(ks:List Kd)(off len:Nat)(xs:List PV):DT:=
 match EF h pre with
 |some (vs,ss)=>
  bif (Nat.blt s 100000&&(Nat.blt A 100000&&!(A==s)))&&(!(fB s ss)&&!(fB A ss))then
  .call (C f (cond fi.cfg.CV (vs.map .p) (normArgs T fi.fn.params.toList vs)++[.ptr ah 0 0]) [.box [.slice (dh fi.cfg.vkeep) ks.length off len],.arr a ks xs]) λr=>
   match qW T d [] 0 fi.cfg.rets fi.fn.resultTypes.toList r.1 with
   |some (rv,[])=>.ret {val:=nJ rv,ny:=[(A,.arr a ks (Jq r.2)),(s,.box [.slice A ks.length (Cm r.2).Xh (Cm r.2).sLen])],new:=nw,cut:=cond fi.cfg.vkeep [] [A],zK:=ss}
   |_=>.fail
  else .fail
 |none=>.fail
def OD(C:aB)(h:Nat->Option aH)(d:Option Nat)(f:Nat)(args:List AV):DT:=
 match d,aX T.funcs f,sU args with
 |some d,some fi,some (pre,.ptr s 0 0)=>match h s with
  |some (.box [.slice A _ off len])=>match h A with
   |some (.arr a ks xs)=>Qg T C h d f fi pre s A [] a ks off len xs
   |_=>.fail
  |some (.box [.p .nil])=>bif fi.cfg.vkeep then .fail else Qg T C h d f fi pre s d [d] (ay T fi.cfg.afc).1 (ay T fi.cfg.afc).2 0 0 []
  |_=>.fail
 |_,_,_=>.fail
def JI(C:aB)(h:Nat->Option aH)(d:Option Nat)(f:Nat)(args:List AV):DT:=
 match d,aX T.funcs f,args with
 |some d,some fi,.slice A _ off len::rest=>match h A with
  |some (.arr a ks xs)=>match EF h rest with
   |some (vs,[])=>
    .call (C f (.slice 99999 ks.length off len::vs.map .p) [.log false [],.arr a ks xs]) λr=>
     match qW T d [] 0 fi.cfg.rets fi.fn.resultTypes.toList r.1 with
     |some (rv,bs)=>.ret {val:=nJ rv,ny:=bs,new:=A::keysOf bs}
     |none=>.fail
   |_=>.fail
  |_=>.fail
 |_,_,_=>.fail
def yw(C:aB)(h:Nat->Option aH)(d:Option Nat)(f:Nat)(args:List AV):DT:=
 bif (fF T f).xK.is then EL (fF T f).xK (fF T f).Iq (fF T f).Na h d args else
 bif (fF T f).vcall then OD T C h d f args else
 bif (fF T f).take then JI T C h d f args else qy T C h d f args
def nK(env:List AV):Option Operand->Option AV
 |none=>none
 |some x=>some (aP env x)
def iE(env:List AV):List (Nat × Operand)->List (Nat × AV)
 |[]=>[]
 |(i,x)::r=>(i,aP env x)::iE env r
def abq:Option Nat->Bool
 |some d=>fB d T.fulls||fB (1000000+d) T.fulls
 |none=>false
def inLists:Option Nat->Bool
 |some d=>fB (1000000+d) T.fulls
 |none=>false
def cO(C:aB)(env:List AV)(h:Nat->Option aH)(o:Oper):DT:=
 match o.op with
 |.move x=>.ret {val:=aP env x}
 |.assign x=>
  match o.dst,x,und T o.type with
  |some d,.const (.slice none 0 0),some (.slice e)=>.ret {val:=.slice d (ay T e).2.length 0 0,ny:=[(d,.arr (ay T e).1 (ay T e).2 [])],new:=[d]}
  |_,x,_=>.ret {val:=aP env x}
 |.pick c a b=>Qa (aP env c) (aP env a) (aP env b)
 |.alloc t=>Lm T o.dst t
 |.box _ v=>VI o.dst (aP env v)
 |.build t parts=>Lp T t (iE env parts.toList)
 |.buildSlice t len parts=>bif abq T o.dst then zN T (inLists T o.dst) h t len (iE env parts.toList)else yj T h o.dst t len (iE env parts.toList)
 |.load t a=>EH T h t (aP env a)
 |.store t a v=>Lr T h t (aP env a) (aP env v)
 |.binOp op t x y _=>JH T op t (isLit y) (aP env x) (aP env y)
 |.unOp op _ x=>P9 op (aP env x)
 |.convert s t x=>EK T h o.dst s t (aP env x)
 |.makeFunc fn first caps=>CZ fn (jX env first.toList) (jX env caps.toList)
 |.makeSlice t l c=>zS T o.dst t (aP env l) (aP env c)
 |.makeMap t r=>EI T o.dst t (nK env r)
 |.mapUpdate t m k v=>uf T h t (aP env m) (aP env k) (aP env v)
 |.insert t m k v=>uf T h t (aP env m) (aP env k) (aP env v)
 |.mapEntry t m k=>CY T h t (aP env m) (aP env k)
 |.entryStore _ m k v=>yu h (aP env m) (aP env k) (aP env v)
 |.lookup t m k ok=>Ir T h t (aP env m) (aP env k) ok
 |.slice t x lo hi mx=>match und T t with
  |some (.array _ _)=>.fail
  |_=>match mx,hi with
   |some _,none=>.fail
   |_,_=>LC T t (aP env x) (nK env lo) (nK env hi) (nK env mx)
 |.fieldAddr t x f=>zO T t (aP env x) f
 |.field t x f=>Ls T t (aP env x) f
 |.indexAddr t x i=>zQ T t (aP env x) (aP env i)
 |.index t x i=>Lu T t (aP env x) (aP env i)
 |.extract x i=>EJ (aP env x) i
 |.call c=>
  match c.callee with
  |.builtin .len=>match c.args.toList,c.argTypes.toList with
   |[x],t::_=>Gh T h t (aP env x)
   |_,_=>.fail
  |.builtin .append=>match c.args.toList,c.argTypes.toList with
   |[x,y],[t,t2]=>Iu T h o.dst t t2 (aP env x) (aP env y)
   |_,_=>.fail
  |.value f=>match aP env f with
   |.p (.fn f caps)=>yw T C h o.dst f (jX env c.args.toList++caps.map .p)
   |.fn f caps=>yw T C h o.dst f (jX env c.args.toList++caps)
   |_=>.fail
  |_=>.fail
 |_=>.fail
section
variable {α:Type}
def pI(m:Nat)(k:Nat->Option α):Option α:=
 match m with
 |0=>k 0
 |m+1=>k (m+1)
def Qh(n:Int)(k:Int->Option α):Option α:=
 match n with
 |.ofNat m=>pI m λm=>k (.ofNat m)
 |.negSucc m=>pI m λm=>k (.negSucc m)
mutual
def jo(b:Bool):PV->(PV->Option α)->Option α
 |.bool c,k=>bif b then cond c (k (.bool true)) (k (.bool false))else k (.bool c)
 |.int j n,k=>bif b then Qh n λn=>k (.int j n)else k (.int j n)
 |.str s,k=>k (.str s)
 |.agg cs,k=>kX b cs λcs=>k (.agg cs)
 |.list a ks xs,k=>bif b then kX b xs λxs=>k (.list a ks xs)else k (.list a ks xs)
 |.full a ks xs,k=>bif b then kX b xs λxs=>k (.full a ks xs)else k (.full a ks xs)
 |.nil,k=>k .nil
 |.fn f cs,k=>bif b then kX b cs λcs=>k (.fn f cs)else k (.fn f cs)
 |.ref cs,k=>kX b cs λcs=>k (.ref cs)
 |.zG,k=>k .zG
 |.pz,k=>k .pz
 |.ifc,k=>k .ifc
 |.rU,k=>k .rU
 |.Ig ks vs,k=>k (.Ig ks vs)
 |.Lj,k=>k .Lj
def kX(b:Bool):List PV->(List PV->Option α)->Option α
 |[],k=>k []
 |v::r,k=>jo b v λv=>kX b r λr=>k (v::r)
end
mutual
def jR(b:Bool):AV->(AV->Option α)->Option α
 |.undef,k=>k .undef
 |.p v,k=>bif b then jo b v λv=>k (.p v)else k (.p v)
 |.slice s z o l,k=>bif b then pI o λo=>pI l λl=>k (.slice s z o l)else k (.slice s z o l)
 |.bslice s o l,k=>bif b then pI o λo=>pI l λl=>k (.bslice s o l)else k (.bslice s o l)
 |.ptr s i o,k=>bif b then pI i λi=>pI o λo=>k (.ptr s i o)else k (.ptr s i o)
 |.pF a ks x o,k=>bif b then jo b x λx=>pI o λo=>k (.pF a ks x o)else k (.pF a ks x o)
 |.fn f cs,k=>kY b cs λcs=>k (.fn f cs)
 |.agg cs,k=>kY b cs λcs=>k (.agg cs)
 |.o7 cs,k=>kY b cs λcs=>k (.o7 cs)
 |.fresh a ks xs,k=>bif b then kX b xs λxs=>k (.fresh a ks xs)else k (.fresh a ks xs)
 |.AB,k=>k .AB
 |.mref s,k=>k (.mref s)
def kY(b:Bool):List AV->(List AV->Option α)->Option α
 |[],k=>k []
 |v::r,k=>jR b v λv=>kY b r λr=>k (v::r)
end
def spine:List AV->(List AV->Option α)->Option α
 |[],k=>k []
 |v::r,k=>spine r λr=>k (v::r)
def qX(b:Bool):aH->(aH->Option α)->Option α
 |.box cs,k=>kY b cs λcs=>k (.box cs)
 |.arr a ks xs,k=>bif b then kX b xs λxs=>k (.arr a ks xs)else k (.arr a ks xs)
 |.log on xs,k=>bif b then kX b xs λxs=>k (.log on xs)else k (.log on xs)
 |.tb t c0 c1,k=>jR b c0 λc0=>jR b c1 λc1=>k (.tb t c0 c1)
 |.mp t es,k=>k (.mp t es)
 |.br e xs,k=>bif b then kX b xs λxs=>k (.br e xs)else k (.br e xs)
def sV(b:Bool):List aH->(List aH->Option α)->Option α
 |[],k=>k []
 |x::r,k=>qX b x λx=>sV b r λr=>k (x::r)
def JJ(b:Bool):List (Nat × aH)->(List (Nat × aH)->Option α)->Option α
 |[],k=>k []
 |(s,x)::r,k=>qX b x λx=>JJ b r λr=>k ((s,x)::r)
def VO:Heap->(Heap->Option α)->Option α
 |[],k=>k []
 |(s,x)::r,k=>VO r λr=>k ((s,x)::r)
def eF(st:St)(k:St->Option α):Option α:=
 spine st.env λenv=>VO st.heap λheap=>k {env,heap}
def JK(b:Bool)(st:St)(d:Option Nat)(e:Eff)(k:St->Option α):Option α:=
 jR b e.val λv=>JJ b e.ny λc=>eF (st.apply d {e with val:=v,ny:=c}) k
end
inductive Cls where
 |const |plain |pure |read |own (t:Nat) |store |heavy
def yx:Operand->Bool
 |.const _=>true
 |.func _=>true
 |_=>false
def ajB(t:Nat):List Oper->Option Op
 |[]=>none
 |o::r=>match o.dst with
  |some d=>bif d==t then some o.op else ajB t r
  |none=>ajB t r
def rootOf(all:List Oper):Nat->Nat->Option Nat
 |0,_=>none
 |n+1,t=>match ajB t all with
  |none=>some t
  |some (.alloc _)=>some t
  |some (.fieldAddr _ (.tmp u) _)=>rootOf all n u
  |_=>none
def Qi(t:Nat):List Oper->Bool
 |[]=>false
 |o::r=>(match o.op,o.dst with
  |.slice _ _ _ _ (some _),some d=>bif d==t then true else Qi t r
  |_,_=>Qi t r)
def VP(xs:List Operand)(all:List Oper):Bool:=
 match xs with
 |.tmp t::_=>Qi t all
 |.const (.slice none 0 0)::_=>true
 |_=>false
def VQ(t:TypeId):Bool:=match und T t with
 |some (.map _ _)=>true
 |_=>false
def ajC:Option Nat->Option Nat
 |some d=>aX T.owns d
 |none=>none
def aff(t:Nat):Operand->Nat
 |.tmp v=>1000000+(1000*t+v)
 |_=>0
def JL(all:List Oper)(t:Nat)(v:Operand):Option Nat:=match aX T.owns (aff t v)with
 |some s=>some s
 |none=>rootOf all 4 t
def abr:Operand->Option Nat->Cls
 |.tmp u,some d=>bif fB (1000*d+u) T.calcs then .plain else .pure
 |_,_=>.pure
def bf(all:List Oper)(o:Oper):Cls:=
 match o.op with
 |.assign (.const (.slice none 0 0))=>.read
 |.assign x=>bif yx x then .const else .pure
 |.move x=>bif yx x then .const else abr T x o.dst
 |.binOp ..=>.plain
 |.unOp ..=>.plain
 |.pick .. |.build .. |.makeFunc .. |.fieldAddr .. |.field .. |.indexAddr .. |.index .. |.extract .. |.nilCheck ..=>.pure
 |.slice t ..=>match und T t with
  |some (.array _ _)=>.read
  |_=>.pure
 |.alloc .. |.box .. |.buildSlice .. |.load .. |.makeSlice .. |.convert .. |.makeMap .. |.lookup ..=>.read
 |.mapUpdate ..=>.store
 |.insert ..=>.store
 |.store _ (.tmp t) v=>match JL T all t v with
  |some s=>.own s
  |none=>.store
 |.call c=>match c.callee with
  |.builtin .len=>bif c.argTypes.toList.any (VQ T)then .read else .pure
  |.builtin .min |.builtin .max |.builtin .cap=>.pure
  |.builtin .append=>bif VP c.args.toList all then .read else .heavy
  |.builtin .copy=>.store
  |.value (.tmp _)=>match ajC T o.dst with
   |some s=>.own s
   |none=>.read
  |.value (.func f)=>bif (fF T f).MZ||((fF T f).take||(((fF T f).shares&&!(fF T f).quiet)||(fF T f).xK.writes))then .heavy else .read
  |.value _=>.read
  |_=>.heavy
 |_=>.heavy
def fP(all:List Oper)(o:Oper):List Nat:=
 match o.dst with
 |some d=>match o.op with
  |.assign (.const (.slice none 0 0))=>[d]
  |.alloc .. |.box .. |.buildSlice .. |.makeSlice .. |.convert .. |.makeMap ..=>[d]
  |.call c=>match c.callee with
   |.value _=>[d,d+1000,d+2000,d+3000]
   |.builtin .append=>bif VP c.args.toList all then [d]else []
   |_=>[]
  |_=>[]
 |none=>[]
def afg(all:List Oper)(o:Oper):List Nat:=
 match o.op with
 |.store _ (.tmp t) v=>match JL T all t v with
  |some s=>[s]
  |none=>[]
 |.call c=>match c.callee,ajC T o.dst with
  |.value (.tmp _),some s=>[s]
  |_,_=>[]
 |_=>[]
def qZ(all:List Oper):List Oper->List Nat
 |[]=>[]
 |o::r=>fP all o++qZ all r
def VT(ss:List Nat):List Nat->Bool
 |[]=>true
 |x::r=>!(fB x ss)&&VT ss r
def Qj(ss:List Nat):List (Nat × aH)->Bool
 |[]=>true
 |(k,_)::r=>fB k ss&&Qj ss r
def ahf(ss:List Nat):List Nat->Bool
 |[]=>true
 |x::r=>fB x ss&&ahf ss r
def tmpsOf:List Operand->List Nat
 |[]=>[]
 |.tmp t::r=>t::tmpsOf r
 |_::r=>tmpsOf r
def ru(ops:List Oper)(o:Oper):List Nat:=
 tmpsOf o.op.operands.toList++(match o.guard with
  |some (g,_)=>match (ops[g]?).bind (·.dst)with
   |some d=>[d]
   |none=>[]
  |none=>[])
def ZM(ops:List Oper)(x y:Oper):Bool:=
 (match x.dst with
  |some d=>!(fB d (ru ops y))&&!(y.dst==some d)
  |none=>true) &&
 (match y.dst with
  |some d=>!(fB d (ru ops x))
  |none=>true)
def wY(all:List Oper)(hx ho:List Nat)(x o:Oper):Bool:=
 ZM all x o&&(VT (fP all x) (fP all o)&&(match bf T all x,bf T all o with
  |.const,_=>true
  |_,.const=>true
  |.plain,_=>true
  |_,.plain=>true
  |.pure,.heavy=>false
  |.heavy,.pure=>false
  |.pure,_=>true
  |_,.pure=>true
  |.read,.read=>true
  |.read,.own t=>fB t hx&&!(fB t (fP all x))
  |.own t,.read=>fB t ho&&!(fB t (fP all o))
  |_,_=>false))
def zU:List Nat->List Nat->List Nat
 |acc,[]=>acc
 |acc,x::r=>zU (bif fB x acc then acc else x::acc) r
def Gj(done:List (List Nat))(o:Oper):List Nat:=
 (o.after.toList).foldl (λacc e=>match e.ground with
   |.textOnly _=>acc
   |.gcOnly _=>acc
   |_=>zU (zU acc [e.on]) (done.getD e.on [])) []
def bM:List Oper->List (List Nat)->List (List Nat)
 |[],acc=>acc
 |o::r,acc=>bM r (acc++[Gj acc o])
def Qk(all:List Oper)(hd:List (List Nat))(Yb:List Nat)(j:Nat)(o:Oper):Nat->List Oper->Bool
 |_,[]=>true
 |i,x::r=>bif Nat.ble j i then true else
  (bif fB i Yb then true else wY T all (hd.getD i []) (hd.getD j []) x o)&&Qk all hd Yb j o (i+1) r
def Gl(j:Nat)(o:Oper):Bool:=
 o.after.toList.all λe=>match e.ground with
  |.textOnly _=>true
  |.gcOnly _=>true
  |_=>Nat.blt e.on j
def zV(all:List Oper)(tab hd:List (List Nat)):Nat->List Oper->Bool
 |_,[]=>true
 |j,o::r=>Gl j o&&Qk T all hd (tab.getD j []) j o 0 all&&zV all tab hd (j+1) r
def wZ(all:List Oper)(tab:List (List Nat))(j:Nat):Nat->List Oper->List Nat
 |_,[]=>[]
 |i,o::r=>
  bif i==j||fB i (tab.getD j [])||fB j (tab.getD i [])then wZ all tab j (i+1) r else fP all o++(afg T all o++wZ all tab j (i+1) r)
section
variable {α:Type}
def jy(U:List Nat)(h:Nat->Option aH):Nat->Option aH:=
 match U with
 |[]=>h
 |U=>λs=>bif fB s U then none else h s
def vS(all:List Oper)(g:Nat):Option Nat:=(all[g]?).bind (·.dst)
def gI:List Nat->Bool
 |[]=>true
 |s::r=>Nat.blt s 100000&&gI r
def nS(h:Heap):List (Nat × aH)->Bool
 |[]=>true
 |(_,.log _ _)::_=>false
 |(s,_)::r=>bif s==ah then(match look h ah with
  |some (.log _ _)=>false
  |_=>nS h r)else nS h r
def AV.RY:AV->Bool
 |.p _=>true
 |.o7 []=>true
 |_=>false
def dR(draw:Bool)(cls:Cls)(ss:List Nat)(h:Heap)(e:Eff):Bool:=
 match draw,cls with
 |false,_=>nS h e.ny
 |true,.heavy=>true
 |true,.store=>e.cut.isEmpty&&(e.zK.isEmpty&&e.new.isEmpty)
 |true,.own t=>e.cut.isEmpty&&(e.zK.isEmpty&&(Qj [t] e.ny&&e.new.isEmpty))
 |true,.read=>e.cut.isEmpty&&(e.zK.isEmpty&&(Qj ss e.ny&&(ahf ss e.new&&(present h e.new).isEmpty)))
 |true,.plain=>e.cut.isEmpty&&(e.zK.isEmpty&&(e.ny.isEmpty&&(e.new.isEmpty&&e.val.RY)))
 |true,_=>e.cut.isEmpty&&(e.zK.isEmpty&&(e.ny.isEmpty&&e.new.isEmpty))
def yieldOf(st:St)(o:Oper):Option (List PV × List PV):=
 match o.op with
 |.call c=>match c.callee with
  |.value (.tmp t)=>match st.env.getD t .undef with
   |.AB=>match look st.heap ah,EF (look st.heap) (jX st.env c.args.toList)with
    |some (.log true xs),some (vs,_)=>some (xs,vs)
    |_,_=>none
   |_=>none
  |_=>none
 |_=>none
def oL(draw:Bool)(st:St)(o:Oper):Option (List PV × List PV):=match draw with |true=>none |false=>yieldOf st o
def iI(s:Nat):Heap->List Nat
 |[]=>[]
 |(k,_)::h=>bif k==s then iI s h else k::iI s h
def abt(h:Nat->Option aH):AV->Option PV
 |.ptr s 0 0=>match h s with
  |some (.box cs)=>match DL cs with
   |some vs=>some (.ref vs)
   |none=>none
  |_=>none
 |_=>none
def VU(h:Nat->Option aH)(ss:List Nat)(v:AV):AV:=match abt h v with
 |some x=>.p x
 |none=>AV.kill ss v
def zW(h:Nat->Option aH)(ss:List Nat):List AV->List AV
 |[]=>[]
 |v::r=>VU h ss v::zW h ss r
def je(st:St)(d:Option Nat)(xs vs:List PV)(b:Bool):St:=
 let st1:St:={env:=zW (jy [ah] (look st.heap)) (iI ah st.heap) st.env,heap:=(st.strike (iI ah st.heap)).heap}
 {env:=setEnv st1.env d (.p (.bool b)),heap:=put st1.heap ah (.log b (xs++[.agg vs]))}
def fork(no yes:Option α):Option α:=
 match no with
 |some _=>yes
 |none=>none
def dD(C:aB)(draw:Bool)(hd:List (List Nat))(all:List Oper):List Oper->Nat->St->(St->Option α)->Option α
 |[],_,st,k=>k st
 |o::rest,j,st,k=>
  let go (st:St):Option α:=
   match oL draw st o with
   |some (xs,vs)=>fork (eF (je st o.dst xs vs false) λst=>dD C draw hd all rest (j+1) st k) (eF (je st o.dst xs vs true) λst=>dD C draw hd all rest (j+1) st k)
   |none=>(cO T C st.env (jy (hd.getD j []) (look st.heap)) o).run λe=>
    bif gI (e.new++e.zK)&&dR draw (bf T all o) (fP all o) st.heap e then JK T.strict st o.dst e λst=>dD C draw hd all rest (j+1) st k else none
  let skip (st:St):Option α:=eF {st with env:=setEnv st.env o.dst (.o7 [])} λst=>dD C draw hd all rest (j+1) st k
  match o.guard with
  |none=>go st
  |some (g,want)=>
   match vS all g with
   |none=>none
   |some t=>
    match st.env.getD t .undef with
    |.p (.bool b)=>
     cond b (bif want then go {st with env:=st.env.set t (.p (.bool true))}else skip {st with env:=st.env.set t (.p (.bool true))})
      (bif want then skip {st with env:=st.env.set t (.p (.bool false))}else go {st with env:=st.env.set t (.p (.bool false))})
    |.o7 []=>skip st
    |_=>none
def jT(nv:Nat)(hs:List Nat):List Oper->St->St
 |[],st=>st
 |o::r,st=>
  match o.op,o.dst with
  |.assign _,some d=>
   match st.env.getD d .undef with
   |.slice s _ _ _=>bif (Nat.ble nv s||(fB d hs&&!(s==d)))&&(Nat.blt d nv&&Nat.blt s 100000)then jT nv hs r (st.zM s d)else jT nv hs r st
   |_=>jT nv hs r st
  |_,_=>jT nv hs r st
def VW:List Nat->Nat->List Nat
 |[],_=>[]
 |x::r,d=>bif Nat.ble 1000000 x&&Nat.beq ((x-1000000) / 1000) d then((x-1000000)%1000)::VW r d else VW r d
def afh(ts:List Nat)(d:Nat):List Nat:=bif fB d ts then [d]else VW ts d
def oO:List Nat->St->St
 |[],st=>st
 |x::r,st=>match deep (look st.heap) (st.env.getD x .undef)with
  |some (v,ss)=>bif gI ss then oO r {(st.strike ss)with env:=(st.strike ss).env.set x (.p v)}else oO r st
  |none=>oO r st
def freezes(ts:List Nat):List Oper->St->St
 |[],st=>st
 |o::r,st=>
  match o.op,o.dst with
  |.assign _,some d=>freezes ts r (oO (afh ts d) st)
  |_,_=>freezes ts r st
def fC(hs:List Nat):List Oper->St->St
 |[],st=>st
 |o::r,st=>
  match o.op with
  |.store _ _ (.tmp x)=>
   match st.env.getD x .undef with
   |.slice s _ _ _=>bif fB x hs&&(Nat.blt s 5000&&Nat.blt x 5000)then fC hs r (st.zM s (5000+x))else fC hs r st
   |_=>fC hs r st
  |.call _=>match o.dst with
   |some d=>match look st.heap d with
    |some (.br _ _)=>bif fB d hs&&Nat.blt d 5000 then fC hs r (st.zM d 7990)else fC hs r st
    |_=>fC hs r st
   |none=>fC hs r st
  |_=>fC hs r st
def settle(F:D7)(ops:List Oper)(st:St):St:=freezes F.frzs ops (match F.fhomes with
 |[]=>jT F.nvars F.homes ops st
 |h::hs=>fC (h::hs) ops (jT F.nvars F.homes ops st))
def rC:Code->Option Nat
 |.region id _ _=>some id
 |.seq a b=>match rC a with
  |some i=>some i
  |none=>rC b
 |.block _ c=>rC c
 |.loop c=>rC c
 |.scope c=>rC c
 |.rangeFunc _ _ a b=>match rC a with
  |some i=>some i
  |none=>rC b
 |_=>none
def cutAt:List (Nat × List Nat × List Nat)->Nat->Option (List Nat × List Nat)
 |[],_=>none
 |(i,l,s)::r,j=>bif i==j then some (l,s)else cutAt r j
def aC(F:D7)(c:Code)(st:St):St:=
 match rC c with
 |none=>st
 |some i=>match cutAt F.cuts i with
  |none=>st
  |some (l,s)=>st.forget l s
def VX:Kd->PV->Bool
 |.slice _ _,.nil=>false
 |k,v=>kindOk k v
def Gm:List Kd->List PV->Bool
 |[],[]=>true
 |k::ks,v::vs=>VX k v&&Gm ks vs
 |_,_=>false
def Uj:Bool × List Kd->PV->Bool
 |(true,ks),.ref cs=>Gm ks cs
 |(false,[k]),v=>VX k v
 |_,_=>false
def LD:List (Bool × List Kd)->List PV->Bool
 |[],[]=>true
 |s::r,v::vs=>Uj s v&&LD r vs
 |_,_=>false
def PV.isFn(g:Nat)(qs:List (Bool × List Kd)):PV->Bool
 |.fn f cs=>f==g&&LD qs cs
 |_=>false
def AV.isP:AV->Bool
 |.p _=>true
 |_=>false
def EM:List (Nat × List (Bool × List Kd))->Nat->St->(St->Option α)->Option α
 |[],_,_,_=>none
 |(g,qs)::r,t,st,k=>cond ((st.env.getD t .undef).isP&&PV.isFn g qs (st.env.getD t .undef).pv) (k {st with env:=st.env.set t (.p (.fn g (lZ qs (st.env.getD t .undef).pv 0)))}) (EM r t st k)
def BD:List (Nat × List (Nat × List (Bool × List Kd)))->St->(St->Option α)->Option α
 |[],st,k=>k st
 |(t,cs)::r,st,k=>EM cs t st λst=>BD r st k
def C9:List (Nat × List (Nat × List (Nat × List (Bool × List Kd))))->Nat->List (Nat × List (Nat × List (Bool × List Kd)))
 |[],_=>[]
 |(i,l)::r,j=>bif i==j then l else C9 r j
def nM(fg:St->St)(body:St->(Ex->St->Option α)->Option α):Nat->St->(Ex->St->Option α)->Option α
 |0,_,_=>none
 |m+1,st,k=>body st λex st'=>
  match ex with
  |.normal=>eF (fg st') λst'=>nM fg body m st' k
  |.exit id=>k (.exit id) st'
  |.ret=>k .ret st'
def pJ(b:Option aH)(st:St)(k:St->Option α):Option α:=
 match look st.heap ah with
 |some (.log _ _)=>match b with
  |some (.log on xs)=>k {st with heap:=put st.heap ah (.log on xs)}
  |_=>none
 |_=>k st
def iZ:Code->Bool
 |.seq a b=>iZ a&&iZ b
 |.cond _ a b=>iZ a&&iZ b
 |.block _ c=>iZ c
 |.loop c=>iZ c
 |.scope c=>iZ c
 |.rangeFunc _ _ _ _=>false
 |_=>true
def fV:Code->List Nat
 |.region _ ops _=>ops.toList.filterMap (·.dst)
 |.seq a b=>fV a++fV b
 |.cond _ a b=>fV a++fV b
 |.block _ c=>fV c
 |.loop c=>fV c
 |.scope c=>fV c
 |.rangeFunc _ ps a b=>ps.toList++(fV a++fV b)
 |_=>[]
def opsOf:Code->List Oper
 |.region _ ops _=>ops.toList
 |.seq a b=>opsOf a++opsOf b
 |.cond _ a b=>opsOf a++opsOf b
 |.block _ c=>opsOf c
 |.loop c=>opsOf c
 |.scope c=>opsOf c
 |.rangeFunc _ _ a b=>opsOf a++opsOf b
 |_=>[]
def yOp(ys:List Nat)(o:Oper):Bool:=
 (match o.dst with
 |some t=>bif fB t ys then(match o.op with
  |.move (.tmp s)=>fB s ys
  |.assign (.tmp s)=>fB s ys
  |_=>false)else true
 |none=>true) &&
 (match o.op with
 |.call c=>match c.callee with
  |.value (.tmp t)=>fB t ys
  |_=>true
 |_=>true)
def ahh(ys:List Nat):List Oper->Bool
 |[]=>true
 |o::r=>yOp ys o&&ahh ys r
def VY(n:Nat):List Nat->Bool
 |[]=>true
 |t::r=>(Nat.beq t 0||Nat.blt n t)&&VY n r
def iW(fi:FI)(n:Nat):Bool:=match fi.fn.body with |some c=>fi.cfg.gext||(iZ c&&(VY n fi.cfg.ys&&(ahh fi.cfg.ys (opsOf c)&&(!fi.cfg.vcall&&!fi.cfg.take)))) |none=>false
def kZ:Code->Bool
 |.skip=>true
 |.region _ _ _=>true
 |.seq a b=>kZ a&&kZ b
 |_=>false
def wG(ws:List Nat):Nat->List AV->List AV
 |_,[]=>[]
 |i,v::r=>(bif fB i ws then .undef else v)::wG ws (i+1) r
def ZN:Bool × List Kd->PV->PV
 |(true,ks),v=>.agg (eY ks v 0)
 |(false,[k]),v=>eta k v
 |_,v=>v
def DR:List (Bool × List Kd)->List Nat->PV->Nat->List AV->Option (List AV)
 |[],[],v,i,env=>bif Nat.beq v.cells.length i then some env else none
 |s::ss,t::ts,v,i,env=>bif aA s.1 s.2 (v.cell i)then DR ss ts v (i+1) (env.set t (.p (ZN s (v.cell i))))else none
 |_,_,_,_,_=>none
def back(ws:List Nat)(st:St):St:={st with env:=wG ws 0 st.env}
def pK(fg:St->St)(ws:List Nat)(L:St->Option α)(k:Ex->St->Option α):Ex->St->Option α
 |.normal,st=>eF (fg (back ws st)) L
 |.exit id,st=>eF (back ws st) (k (.exit id))
 |.ret,st=>eF (back ws st) (k .ret)
def jq(fg:St->St)(ss:List (Bool × List Kd))(ps ws:List Nat)(round:St->(Ex->St->Option α)->Option α):List PV->St->(Ex->St->Option α)->Option α
 |[],st,k=>k .normal st
 |v::xs,st,k=>
  match DR ss ps v 0 st.env with
  |none=>none
  |some env=>eF {st with env:=env} λst=>round st (pK fg ws (λst=>jq fg ss ps ws round xs st k) k)
def rP(l:List aH):List PV:=(l.headD (.box [])).ls
def JM(l:List Nat):Nat->Bool
 |0=>true
 |n+1=>fB n l&&JM l n
def oP(tab:List (List Nat))(j:Nat):Nat->List Oper->Bool
 |_,[]=>true
 |i,_::r=>(Nat.blt i j||JM (tab.getD i []) i)&&oP tab j (i+1) r
def VZ(ys:List Nat):Nat->List Oper->Option Nat
 |_,[]=>none
 |i,o::r=>match o.op with
  |.call c=>match c.callee with
   |.value (.tmp t)=>bif fB t ys then some i else VZ ys (i+1) r
   |_=>VZ ys (i+1) r
  |_=>VZ ys (i+1) r
def ZO(ys:List Nat)(ops:List Oper):Option Nat:=match ys with
 |[]=>none
 |_=>match VZ ys 0 ops with
  |some j=>bif oP (bM ops []) j 0 ops then some j else none
  |none=>none
def BF(a b:Code):Nat:=match rC (.seq a b)with
 |some i=>1000000+i
 |none=>0
def aK(C:aB)(F:FI)(n:Nat):Code->St->(Ex->St->Option α)->Option α
 |.skip,st,k=>k .normal st
 |.region id ops draw,st,k=>BD (C9 F.cfg.alts id) st λst=>
  match draw with
  |false=>dD T C false [] ops.toList ops.toList 0 st λst'=>eF (settle F.cfg ops.toList st') λst'=>k .normal st'
  |true=>
   match aX F.hides id with
   |some hd=>eF (st.strike (present st.heap (qZ ops.toList ops.toList))) λst=>
    match ZO F.cfg.ys ops.toList with
    |none=>dD T C true hd ops.toList ops.toList 0 st λst'=>pJ (look st.heap ah) st' λst'=>eF (settle F.cfg ops.toList st') λst'=>k .normal st'
    |some j=>dD T C true hd ops.toList (ops.toList.take j) 0 st λst'=>pJ (look st.heap ah) st' λst'=>dD T C false [] ops.toList (ops.toList.drop j) j st' λst'=>eF (settle F.cfg ops.toList st') λst'=>k .normal st'
   |none=>none
 |.seq a b,st,k=>aK C F n a st λex st'=>
  match ex with
  |.normal=>aK C F n b (aC F.cfg b st') k
  |.exit id=>k (.exit id) st'
  |.ret=>k .ret st'
 |.cond c x y,st,k=>
  match aP st.env c with
  |.p (.bool b)=>cond b (aK C F n x st k) (aK C F n y st k)
  |_=>none
 |.block id c,st,k=>aK C F n c st λex st'=>
  match ex with
  |.normal=>k .normal st'
  |.exit i=>bif i==id then k .normal st' else k (.exit i) st'
  |.ret=>k .ret st'
 |.scope c,st,k=>aK C F n c st k
 |.loop c,st,k=>nM (aC F.cfg c) (λst' k'=>aK C F n c st' k') n (aC F.cfg c st) k
 |.exit id,st,k=>k (.exit id) st
 |.ret,st,k=>k .ret st
 |.label _,st,k=>k .normal st
 |.rangeFunc f ps a b,st,k=>BD (C9 F.cfg.alts (BF a b)) st λst=>
  match aP st.env f with
  |.p (.fn g caps)=>
   match aX T.funcs g,kZ a with
   |some fi,true=>
    bif iW fi caps.length then
    match C g (.AB::caps.map .p) [.log true []]with
    |some r=>jq (aC F.cfg (.seq a b)) fi.cfg.yk ps.toList (ps.toList ++ (fV a ++ fV b))
        (λst k=>aK C F n a st λex st'=>
          match ex with
          |.normal=>aK C F n b (aC F.cfg b st') k
          |.exit id=>k (.exit id) st'
          |.ret=>k .ret st') (rP r.2) (aC F.cfg (.seq a b) st) k
    |none=>none
    else none
   |_,_=>none
  |_=>none
 |_,_,_=>none
end
def AV.Ql:AV->Option (List AV)
 |.p (.agg cs)=>some (cs.map .p)
 |.agg cs=>some cs
 |_=>none
def abu(h:Nat->Option aH)(a:Bool)(ks:List Kd):AV->Option (List PV × List Nat)
 |.slice s _ off len=>match h s with
  |some (.arr b ls xs)=>bif b==a&&Kd.zJ ls ks&&Nat.blt s 100000 then some ((xs.drop off).take len,[s])else none
  |_=>none
 |.p .nil=>some ([],[])
 |_=>none
def Dc(h:Nat->Option aH)(m:dV)(t:TypeId)(v:AV):Option (AV × List Nat):=
 match m with
 |.deep=>match deep h v with
  |some (x,ss)=>bif aA (ay T t).1 (ay T t).2 x&&ss.all (λs=>Nat.blt s 100000)then some (.p x,ss)else none
  |none=>none
 |.fresh=>match und T t with
  |some (.slice e)=>
   match v with
   |.slice s _ off len=>match h s with
    |some (.arr a ks xs)=>
     bif a==(ay T e).1&&Kd.zJ ks (ay T e).2&&Nat.blt s 100000 then some (.fresh a ks ((xs.drop off).take len),[s])else none
    |_=>none
   |.p .nil=>some (.fresh (ay T e).1 (ay T e).2 [],[])
   |_=>none
  |_=>none
 |.alias _=>none
 |.func g qs=>match deep h v with
  |some (.fn f cs,ss)=>bif (f==g&&CU qs cs)&&ss.all (λs=>Nat.blt s 100000)then some (.p (.fn f cs),ss)else none
  |_=>none
 |.zf _ _=>none
 |.Oc=>none
 |.Ey=>none
 |.GV=>match ay T t with
  |(true,ks)=>match sU ks,v.Ql with
   |some (ks,.slice a ls),some cs=>match sU cs with
    |some (cs,x)=>match DL cs,abu h a ls x with
     |some vs,some (xs,ss)=>bif bn ks vs then some (.agg (vs.map .p++[.fresh a ls xs]),ss)else none
     |_,_=>none
    |none=>none
   |_,_=>none
  |_=>none
def wH(h:Heap):List dV->List TypeId->List AV->Option (List AV)
 |_,[],[]=>some []
 |ms,t::ts,v::vs=>
  match Dc T (look h) (ms.headD .deep) t v with
  |some (x,ss)=>match wH (nG h ss) ms.tail ts vs with
   |some xs=>some (x::xs)
   |none=>none
  |none=>none
 |_,_,_=>none
def afi:AV->AV->Bool
 |.p (.int k _),.p (.int j _)=>k==j
 |.p (.int _ _),_=>false
 |.p (.bool _),.p (.bool _)=>true
 |.p (.bool _),_=>false
 |.p (.str _),.p (.str _)=>true
 |.p (.str _),_=>false
 |.p (.list a ks _),.p (.list b ls _)=>a==b&&Kd.zJ ks ls
 |.p (.list _ _ _),_=>false
 |_,_=>true
def Nh:List AV->List AV->Bool
 |[],[]=>true
 |x::xs,y::ys=>afi x y&&Nh xs ys
 |_,_=>false
def backOk:aH->aH->Bool
 |.arr a ks _,.arr b ls _=>a==b&&Kd.zJ ks ls
 |.box cs,.box ds=>Nh cs ds
 |.log _ _,.log _ _=>true
 |_,_=>false
def Gn:aH->Bool
 |.log _ _=>true
 |b=>dI b
def BG(h:Heap):Nat->List aH->Option (List aH)
 |_,[]=>some []
 |i,b0::r=>match look h (ah+i),BG h (i+1) r with
  |some b,some bs=>bif Gn b&&backOk b0 b then some (b::bs)else none
  |_,_=>none
def abv(env:List AV)(h:Nat->Option aH):ResultVar->Option AV
 |.tmp t=>some (env.getD t .undef)
 |.cell t ty=>match env.getD t .undef,oK T ty with
  |.ptr s 0 0,some n=>match h s with
   |some (.box cs)=>tZ T ty n cs 0
   |_=>none
  |_,_=>none
def EN(env:List AV)(h:Nat->Option aH):List ResultVar->Option (List AV)
 |[]=>some []
 |r::rs=>match abv T env h r,EN env h rs with
  |some v,some vs=>some (v::vs)
  |_,_=>none
def Yc(F:D7)(fn:Func)(bl:List aH)(st:St):Option (List AV × List aH):=
 match EN T st.env (look st.heap) fn.results.toList with
 |none=>none
 |some vs=>
  match wH T st.heap F.rets fn.resultTypes.toList vs,BG st.heap 0 bl with
  |some rs,some bl=>kY T.strict rs λrs=>sV T.strict bl λbl=>some (rs,bl)
  |_,_=>none
def dK:Nat->List aH->Heap
 |_,[]=>[]
 |i,b::r=>(ah+i,b)::dK (i+1) r
def wI(fn:Func)(args:List AV)(bl:List aH):St:=
 {env:=args++List.replicate (fn.ntmps-args.length) .undef,heap:=dK 0 bl}
def vT(F:D7)(bl:List aH):Bool:=match F.gext with
 |true=>false
 |false=>match F.vcall with
  |true=>match bl with
   |[.box [.slice _ _ _ _],.arr _ _ _]=>true
   |_=>false
  |false=>match F.take with
   |true=>match bl with
    |[.log false [],.arr _ _ _]=>true
    |_=>false
   |false=>true
def Yd:List aH->Heap
 |[_,b]=>[(99999,b)]
 |_=>[]
def LG(F:D7)(fn:Func)(args:List AV)(bl:List aH):St:=match F.vcall with
 |true=>{env:=args++List.replicate (fn.ntmps-args.length) .undef,heap:=jm F.vkeep bl}
 |false=>match F.take with
  |true=>{env:=args++List.replicate (fn.ntmps-args.length) .undef,heap:=Yd bl}
  |false=>wI fn args bl
def BH:List dV->Bool
 |[]=>true
 |.deep::r=>BH r
 |_=>false
def ajD(F:D7)(fn:Func)(bl:List aH)(st:St):Option (List AV × List aH):=
 match EN T st.env (look st.heap) fn.results.toList,bl with
 |some vs,[_,.arr a0 ks0 _]=>match look st.heap ah with
  |some (.box [.slice X _ off len])=>match look st.heap X with
   |some (.arr a ks xs)=>
    bif (a==a0&&Kd.zJ ks ks0)&&(BH F.rets&&(cond F.vkeep (X==100001) (Nat.blt X 100000)))then
    match wH T (nG st.heap [ah,X]) F.rets fn.resultTypes.toList vs with
    |some rs=>kY T.strict rs λrs=>sV T.strict [.box [.slice (dh F.vkeep) ks0.length off len],.arr a0 ks0 xs] λbl=>some (rs,bl)
    |none=>none
    else none
   |_=>none
  |_=>none
 |_,_=>none
def ajE(F:D7)(fn:Func)(st:St):Option (List AV × List aH):=
 match EN T st.env (look st.heap) fn.results.toList with
 |none=>none
 |some vs=>
  match wH T st.heap F.rets fn.resultTypes.toList vs with
  |some rs=>kY T.strict rs λrs=>some (rs,[])
  |none=>none
def ZP(F:D7)(fn:Func)(bl:List aH)(st:St):Option (List AV × List aH):=match F.vcall with
 |true=>ajD T F fn bl st
 |false=>match F.take with
  |true=>ajE T F fn st
  |false=>Yc T F fn bl st
abbrev Ext:=Nat->Option (List AV->List aH->Option (List AV × List aH))
def jC(X:Ext):Nat->aB
 |0,_,_,_=>none
 |n+1,f,args,bl=>
  match aX T.funcs f with
  |none=>none
  |some fi=>
   match X f with
   |some s=>s args bl
   |none=>
   match fi.fn.body with
   |none=>none
   |some c=>bif vT fi.cfg bl then
    kY T.strict args λargs=>sV T.strict bl λbl=>eF (LG fi.cfg fi.fn args bl) λst=>
    aK T (jC X n) fi n c st λex st=>
     match ex with
     |.exit _=>none
     |_=>ZP T fi.cfg fi.fn bl st
    else none
def Df(ops:List Oper):List (List Nat):=
 let tab:=bM ops []
 (List.range ops.length).map λj=>wZ T ops tab j 0 ops
def nT:List (List Nat)->List (List Nat)->Bool
 |[],[]=>true
 |x::xs,y::ys=>x==y&&nT xs ys
 |_,_=>false
def iP(hides:List (Nat × List (List Nat))):Code->Bool
 |.region id ops true=>match aX hides id with
  |none=>true
  |some hd=>zV T ops.toList (bM ops.toList []) hd 0 ops.toList&&nT hd (Df T ops.toList)
 |.seq a b=>iP hides a&&iP hides b
 |.cond _ a b=>iP hides a&&iP hides b
 |.block _ c=>iP hides c
 |.loop c=>iP hides c
 |.scope c=>iP hides c
 |.rangeFunc _ _ a b=>iP hides a&&iP hides b
 |_=>true
end
end
section
variable {w w':World}{b n:Nat}{M M':Nat->Prop}{v x:PV}{k:Kd}{a:Bool}{ks:List Kd}{C:Array Value}{fr:Nat × Nat}{e:TypeId}{β β':Nat -> Option (Nat × Nat)}{h h':Nat -> Option aH}
def PV.leaf:PV->Bool
 |.agg _=>false
 |_=>true
def AV.leaf:AV->Bool
 |.p v=>v.leaf
 |.agg _=>false
 |.o7 _=>false
 |.fresh _ _ _=>false
 |_=>true
def Nj(E:Array MapEntry)(k n:Nat):Prop:=E.size=n/\(∀e∈E.toList,e.born<k)/\(E.toList.map (·.born)).Nodup/\(k=n/\∀(i:Nat) (e:MapEntry),E[i]?=some e->e.born=i)
def Open(C:Array Value)(fr:Nat × Nat):Prop:=fr.1=fr.2\/C.size<=fr.1
def Room(w:World)(b n:Nat):Prop:=∃C e fr,w.heap[b]?=some (.cells C e fr)/\n / 2<=C.size/\(n%2=0->Open C fr)
inductive VR (w:World) (M:Nat->Prop):PV->Value->Prop
 |bool (b:Bool):VR w M (.bool b) (.bool b)
 |int (k:IntKind) (n:Int):VR w M (.int k n) (.int k n)
 |str (s:ByteArray):VR w M (.str s) (.string s)
 |agg (cs : List PV) (vs : Array Value) (hn : vs.size = cs.length) (hl : ∀c ∈ cs,c.leaf = true)
     (h:∀(i:Nat) (c:PV),cs[i]?=some c->VR w M c (vs.getD i undef)):VR w M (.agg cs) (.agg vs)
 |list (a : Bool) (ks : List Kd) (xs : List PV) (b o cap : Nat) (f : Nat -> Nat -> Value) (hM : M b) (hcap : xs.length <= cap)
     (hc:∀(i:Nat) (x:PV) (j:Nat) (c:PV),xs[i]?=some x->x.cells[j]?=some c->w.cell? ⟨b,o+i*ks.length+j,none⟩=some (f i j))
     (hv:∀(i:Nat) (x:PV) (j:Nat) (c:PV),xs[i]?=some x->x.cells[j]?=some c->VR w M c (f i j))
     (hs:∀x∈xs,aA a ks x=true):VR w M (.list a ks xs) (.slice (some ⟨b,o,none⟩) xs.length cap)
 |iM (a:Bool) (ks:List Kd) (base:Option Addr) (cap:Nat):VR w M (.list a ks []) (.slice base 0 cap)
 |full (a : Bool) (ks : List Kd) (xs : List PV) (b o : Nat) (f : Nat -> Nat -> Value) (hM : M b)
     (hc:∀(i:Nat) (x:PV) (j:Nat) (c:PV),xs[i]?=some x->x.cells[j]?=some c->w.cell? ⟨b,o+i*ks.length+j,none⟩=some (f i j))
     (hv:∀(i:Nat) (x:PV) (j:Nat) (c:PV),xs[i]?=some x->x.cells[j]?=some c->VR w M c (f i j))
     (hs:∀x∈xs,aA a ks x=true):VR w M (.full a ks xs) (.slice (some ⟨b,o,none⟩) xs.length xs.length)
 |JO (a:Bool) (ks:List Kd) (base:Option Addr):VR w M (.full a ks []) (.slice base 0 0)
 |nil:VR w M .nil (.slice none 0 0)
 |fn (f : Nat) (cs : List PV) (vs : Array Value) (hn : vs.size = cs.length)
     (h:∀(i:Nat) (c:PV),cs[i]?=some c->VR w M c (vs.getD i undef)):VR w M (.fn f cs) (.func (.func f) #[] vs)
 |ref (cs : List PV) (b o : Nat) (f : Nat -> Value) (hM : M b) (hl : ∀c ∈ cs,c.leaf = true)
     (hc:∀(j:Nat) (c:PV),cs[j]?=some c->w.cell? ⟨b,o+j,none⟩=some (f j))
     (hv:∀(j:Nat) (c:PV),cs[j]?=some c->VR w M c (f j)) (ho:Room w b (2*(o+cs.length))):VR w M (.ref cs) (.pointer (some ⟨b,o,none⟩))
 |zG:VR w M .zG (.pointer none)
 |pz:VR w M .pz .nilFunc
 |ifc (t:TypeId) (v:Value):VR w M .ifc (.iface t v)
 |rU:VR w M .rU .nilIface
 |Lj:VR w M .Lj (.map none)
 |Ig (ks vs : List PV) (b : Nat) (E : Array MapEntry) (k : Nat) (hM : M b) (hw : w.heap[b]? = some (.map E k)) (hn : Nj E k ks.length) (hl : vs.length = ks.length)
     (hk:∀(i:Nat) (x:PV) (e:MapEntry),ks[i]?=some x->E[i]?=some e->VR w M x e.key) (hv:∀(i:Nat) (x:PV) (e:MapEntry),vs[i]?=some x->E[i]?=some e->VR w M x e.val):VR w M (.Ig ks vs) (.map (some b))
theorem cell_of_heap{i:Nat}(h:w'.heap[b]?=w.heap[b]?):w'.cell? ⟨b,i,none⟩=w.cell? ⟨b,i,none⟩:=by simp[World.cell?,h]
theorem VR.mono(m:∀b,M b->M' b/\w'.heap[b]?=w.heap[b]?){c:Value}(h:VR w M v c):VR w' M' v c:=by
 induction h with
 |bool b=>exact .bool b
 |int k n=>exact .int k n
 |str s=>exact .str s
 |agg cs vs q r _ l=>exact .agg cs vs q r l
 |list a ks xs b o cap f g u z _ F l=>exact .list a ks xs b o cap f (m b g).1 u (λi x j c p A=>by rw[cell_of_heap (m b g).2];exact z i x j c p A) l F
 |iM a ks base cap=>exact .iM a ks base cap
 |full a ks xs b o f g z _ F l=>exact .full a ks xs b o f (m b g).1 (λi x j c p A=>by rw[cell_of_heap (m b g).2];exact z i x j c p A) l F
 |JO a ks base=>exact .JO a ks base
 |nil=>exact .nil
 |fn f cs vs q _ l=>exact .fn f cs vs q l
 |ref cs b o f g r z _ H l=>exact .ref cs b o f (m b g).1 r (λj c p=>by rw[cell_of_heap (m b g).2];exact z j c p) l (by obtain⟨C,e,fr,p,A,I⟩:=H;exact⟨C,e,fr,(m b g).2.trans p,A,I⟩)
 |zG=>exact .zG
 |pz=>exact .pz
 |ifc t v=>exact .ifc t v
 |rU=>exact .rU
 |Lj=>exact .Lj
 |Ig ks vs b E k g G q r _ _ D B=>exact .Ig ks vs b E k (m b g).1 ((m b g).2.trans G) q r D B
theorem VR.one{c:Value}(h:VR w M v c)(f:v.leaf=true):c.oneCell'=true:=by cases h<;>first |rfl |simp[PV.leaf]at f
theorem VR.Iw{c:Value}(h:VR w M v c)(f:v.leaf=true):c.cells=#[c]:=by cases h<;>first |rfl |simp[PV.leaf]at f
mutual
theorem Kd.beq_eq:∀(x y:Kd),Kd.beq x y=true->x=y
 |.int j,.int k,h=>by simp[Kd.beq]at h;rw[h]
 |.bool,.bool,_=>rfl
 |.str,.str,_=>rfl
 |.slice a ks,.slice b ls,h=>by simp[Kd.beq]at h;rw[h.1,Kd.oG ks ls h.2]
 |.other,.other,_=>rfl
 |.int _,.bool,h |.int _,.str,h |.int _,.slice _ _,h |.int _,.other,h
 |.bool,.int _,h |.bool,.str,h |.bool,.slice _ _,h |.bool,.other,h
 |.str,.int _,h |.str,.bool,h |.str,.slice _ _,h |.str,.other,h
 |.slice _ _,.int _,h |.slice _ _,.bool,h |.slice _ _,.str,h |.slice _ _,.other,h
 |.other,.int _,h |.other,.bool,h |.other,.str,h |.other,.slice _ _,h=>by simp[Kd.beq]at h
theorem Kd.oG:∀(x y:List Kd),Kd.zJ x y=true->x=y
 |[],[],_=>rfl
 |k::ks,l::ls,h=>by simp[Kd.zJ]at h;rw[Kd.beq_eq k l h.1,Kd.oG ks ls h.2]
 |[],_::_,h |_::_,[],h=>by simp[Kd.zJ]at h
end
mutual
theorem Kd.beq_refl:∀(x:Kd),Kd.beq x x=true
 |.int j=>by simp[Kd.beq]
 |.bool=>rfl
 |.str=>rfl
 |.slice a ks=>by simp[Kd.beq,Kd.kL ks]
 |.other=>rfl
theorem Kd.kL:∀(x:List Kd),Kd.zJ x x=true
 |[]=>rfl
 |k::ks=>by simp[Kd.zJ,Kd.beq_refl k,Kd.kL ks]
end
theorem iG(h:kindOk k v=true):v.leaf=true:=by cases v<;>first |rfl |(cases k<;>simp[kindOk]at h)
theorem yA{c:Value}(f:kindOk k v=true)(h:VR w M v c):VR w M (eta k v) c:=by
 cases k with
 |int j=>cases v<;>simp[kindOk]at f;subst f;exact h
 |bool=>cases v<;>simp[kindOk]at f;exact h
 |str=>cases v<;>simp[kindOk]at f;exact h
 |slice a ks=>
  cases v<;>simp[kindOk]at f
  .obtain⟨rfl,g⟩:=f;rw[<-Kd.oG _ _ g]at h;exact h
  .cases h;exact .iM a ks none 0
 |other=>exact h
theorem JQ(f:kindOk k v=true):(eta k v).leaf=true:=by cases k<;>first |rfl |exact iG f
theorem afj(f:kindOk k v=true):kindOk k (eta k v)=true:=by
 cases k with
 |slice a ks=>simp[eta,kindOk,Kd.kL]
 |other=>exact f
 |_=>simp[eta,kindOk]
theorem fQ:∀{ks:List Kd}{vs:List PV},bn ks vs=true->ks.length=vs.length/\∀(j:Nat) (k:Kd) (v:PV),ks[j]?=some k->vs[j]?=some v->kindOk k v=true
 |[],[],_=>⟨rfl,λj k v h=>by simp at h⟩
 |k::ks,v::vs,h=>by
  simp[bn]at h;obtain⟨p,m⟩:=fQ h.2;refine⟨by simp[p],λj l v' g f=>?_⟩;cases j with
  |zero=>simp at g f;subst g;subst f;exact h.1
  |succ j=>simp at g f;exact m j l v' g f
 |[],_::_,h |_::_,[],h=>by simp[bn]at h
theorem mP(h:aA a ks x=true):bn ks x.cells=true:=by
 cases a with
 |true=>cases x<;>simp[aA]at h;exact h
 |false=>
  match ks with
  |[]=>simp[aA]at h
  |[k]=>simp[aA]at h;have f:=iG h;cases x<;>first |(simp[PV.leaf]at f;done) |simpa[PV.cells,bn] using h
  |_::_::_=>simp[aA]at h
theorem bV(h:aA a ks x=true):x.cells.length=ks.length:=(fQ (mP h)).1.symm
theorem rD(h:aA a ks x=true){j:Nat}(g:ks[j]?=some k):∃c,x.cells[j]?=some c/\kindOk k c=true/\x.cell j=c:=by
 obtain⟨p,l⟩:=fQ (mP h);have m:j<ks.length:=θ
 have f:j<x.cells.length:=ω
 refine⟨x.cells[j],σ,l j k _ g σ,?_⟩;cases x with
 |agg cs=>simp[PV.cells]at f ⊢;simp[PV.cell,List.getD,f]
 |_=>simp[PV.cells]at f ⊢;simp[PV.cell]
def iQ:PV->Value
 |.int .u8 n=>.int .u8 n
 |_=>undef
theorem Open.at(h:Open C fr):∀i,i<C.size->¬(fr.1<=i/\i<fr.2):=by intro i hi f;rcases h with h |h<;>omega
theorem Open.size{C':Array Value}(h:Open C fr)(f:C'.size=C.size):Open C' fr:=by
 rcases h with h |h
 .exact .inl h
 .exact .inr ω
theorem Room.mk(h:w.heap[b]?=some (.cells C e fr))(g:n<=C.size)(f:Open C fr):Room w b (2*n):=⟨C,e,fr,h,ω,λ_=>f⟩
theorem Room.get(h:Room w b (2*n)):∃C e fr,w.heap[b]?=some (.cells C e fr)/\n<=C.size/\Open C fr:=by obtain⟨C,e,fr,j,g,f⟩:=h;grind
theorem Room.mkC(h:w.heap[b]?=some (.cells C e fr))(f:n<=C.size):Room w b (2*n+1):=⟨C,e,fr,h,ω,λh=>ω⟩
theorem Room.aqX(h:Room w b (2*n+1)):∃C e fr,w.heap[b]?=some (.cells C e fr)/\n<=C.size:=by obtain⟨C,e,fr,f,j,g⟩:=h;exact⟨C,e,fr,f,ω⟩
def Past(n:Nat)(fr:Nat × Nat):Prop:=fr.1=fr.2\/fr.2<=n
theorem Past.mono{m:Nat}(h:Past n fr)(f:n<=m):Past m fr:=h.imp id λh=>Nat.le_trans h f
section
variable (w:World) (M:Nat->Prop) (β:Nat->Option (Nat × Nat)) (h:Nat->Option aH)
inductive AR:AV->Value->Prop
 |undef (c:Value):AR .undef c
 |p (v:PV) (c:Value) (hv:VR w M v c):AR (.p v) c
 |slice (s off len : Nat) (a : Bool) (ks : List Kd) (xs : List PV) (b o cap : Nat) (hs : h s = some (.arr a ks xs)) (hl : off + len <= xs.length) (hb : β s = some (b,o))
     (hcap:len<=cap) (hr:Room w b (2*(o+(off+cap)*ks.length))):AR (.slice s ks.length off len) (.slice (some ⟨b,o+off*ks.length,none⟩) len cap)
 |sliceE (s off:Nat) (a:Bool) (ks:List Kd) (xs:List PV) (base:Option Addr) (hs:h s=some (.arr a ks xs)) (hl:off<=xs.length):AR (.slice s ks.length off 0) (.slice base 0 0)
 |bslice (s off len : Nat) (cs : List AV) (b o cap : Nat) (hs : h s = some (.box cs)) (hl : off + cap <= cs.length) (hb : β s = some (b,o))
     (hcap:len<=cap):AR (.bslice s off len) (.slice (some ⟨b,o+off,none⟩) len cap)
 |bsliceE (s off:Nat) (cs:List AV) (base:Option Addr) (hs:h s=some (.box cs)) (hl:off<=cs.length):AR (.bslice s off 0) (.slice base 0 0)
 |ptrB (s off:Nat) (cs:List AV) (b o:Nat) (hs:h s=some (.box cs)) (hb:β s=some (b,o)):AR (.ptr s 0 off) (.pointer (some ⟨b,o+off,none⟩))
 |ptrA (s idx off : Nat) (a : Bool) (ks : List Kd) (xs : List PV) (b o : Nat) (hs : h s = some (.arr a ks xs)) (hi : idx < xs.length) (hb : β s = some (b,o)) :
     AR (.ptr s idx off) (.pointer (some ⟨b,o+idx*ks.length+off,none⟩))
 |pF (a : Bool) (ks : List Kd) (x : PV) (off b o : Nat) (f : Nat -> Value) (hM : M b) (hx : aA a ks x = true)
     (hc:∀(j:Nat) (c:PV),x.cells[j]?=some c->w.cell? ⟨b,o+j,none⟩=some (f j))
     (hv:∀(j:Nat) (c:PV),x.cells[j]?=some c->VR w M c (f j)):AR (.pF a ks x off) (.pointer (some ⟨b,o+off,none⟩))
 |fn (f : Nat) (cs : List AV) (vs : Array Value) (hn : vs.size = cs.length)
     (hc:∀(i:Nat) (c:AV),cs[i]?=some c->AR c (vs.getD i undef)):AR (.fn f cs) (.func (.func f) #[] vs)
 |agg (cs : List AV) (vs : Array Value) (hn : vs.size = cs.length) (hl : ∀c ∈ cs,c.leaf = true)
     (hc:∀(i:Nat) (c:AV),cs[i]?=some c->AR c (vs.getD i undef)):AR (.agg cs) (.agg vs)
 |o7 (cs : List AV) (vs : Array Value) (hn : vs.size = cs.length)
     (hc:∀(i:Nat) (c:AV),cs[i]?=some c->AR c (vs.getD i undef)):AR (.o7 cs) (.tuple vs)
 |AB (l:Nat):AR .AB (.func (.yield l) #[] #[])
 |ptrT (s off:Nat) (t:TypeId) (c0 c1:AV) (b:Nat) (hs:h s=some (.tb t c0 c1)) (hb:β s=some (b,0)):AR (.ptr s 0 off) (.pointer (some ⟨b,off,none⟩))
 |Iy (s:Nat) (t:TypeId) (es:List (PV × PV)) (b o:Nat) (hs:h s=some (.mp t es)) (hb:β s=some (b,o)):AR (.mref s) (.map (some b))
 |Iz (s:Nat) (e:TypeId) (xs:List PV) (b cap:Nat) (hs:h s=some (.br e xs)) (hb:β s=some (b,0)) (hcap:xs.length<=cap) (h0:0<xs.length) (hr:Room w b (2*cap+1)):AR (.mref s) (.slice (some ⟨b,0,none⟩) xs.length cap)
 |yB (s:Nat) (e:TypeId) (hs:h s=some (.br e [])):AR (.mref s) (.slice none 0 0)
inductive BR (s:Nat):aH->Prop
 |box (cs : List AV) (b o : Nat) (C : Array Value) (e : TypeId) (fr : Nat × Nat) (hb : β s = some (b,o)) (hw : w.heap[b]? = some (.cells C e fr)) (hn : o + cs.length <= C.size)
     (ho:Open C fr) (hl:∀c∈cs,c.leaf=true) (hc:∀(j:Nat) (c:AV),cs[j]?=some c->AR w M β h c (C.getD (o+j) undef)):BR s (.box cs)
 |gJ (a:Bool) (ks:List Kd):BR s (.arr a ks [])
 |arr (a : Bool) (ks : List Kd) (xs : List PV) (b o : Nat) (C : Array Value) (e : TypeId) (fr : Nat × Nat) (hb : β s = some (b,o)) (hw : w.heap[b]? = some (.cells C e fr))
     (hn:o+xs.length*ks.length<=C.size) (ho:Open C fr) (hs:∀x∈xs,aA a ks x=true)
     (hc:∀(i:Nat) (x:PV) (j:Nat) (c:PV),xs[i]?=some x->x.cells[j]?=some c->VR w M c (C.getD (o+i*ks.length+j) undef)):BR s (.arr a ks xs)
 |log (on:Bool) (xs:List PV):BR s (.log on xs)
 |tb (t : TypeId) (c0 c1 : AV) (b : Nat) (C : Array Value) (fr : Nat × Nat) (hb : β s = some (b,0)) (hw : w.heap[b]? = some (.cells C t fr)) (hn : C.size = 2) (ho : Open C fr)
     (hl0:c0.leaf=true) (hl1:c1.leaf=true) (h0:AR w M β h c0 (C.getD 0 undef)) (h1:AR w M β h c1 (C.getD 1 undef)):BR s (.tb t c0 c1)
 |mp (t : TypeId) (es : List (PV × PV)) (b o : Nat) (E : Array MapEntry) (k : Nat) (hb : β s = some (b,o)) (hw : w.heap[b]? = some (.map E k)) (hn : Nj E k es.length)
     (hc:∀(i:Nat) (p:PV × PV) (e:MapEntry),es[i]?=some p->E[i]?=some e->VR w M p.1 e.key/\VR w M p.2 e.val):BR s (.mp t es)
 |GX (e:TypeId):BR s (.br e [])
 |br (e : TypeId) (xs : List PV) (b : Nat) (C : Array Value) (fr : Nat × Nat) (hb : β s = some (b,0)) (hw : w.heap[b]? = some (.cells C e fr)) (hn : xs.length <= C.size) (ho : Past xs.length fr)
     (hs:∀x∈xs,aA false [.int .u8] x=true) (hc:∀(i:Nat) (x:PV),xs[i]?=some x->C.getD i undef=iQ x):BR s (.br e xs)
end
def Like:aH->aH->Prop
 |.box cs,.box ds=>cs.length=ds.length
 |.arr a ks xs,.arr b ls ys=>a=b/\ks=ls/\xs.length<=ys.length
 |.log a _,.log b _=>a=b
 |.tb t _ _,.tb u _ _=>t=u
 |.mp t _,.mp u _=>t=u
 |.br e xs,.br f ys=>e=f/\xs.length=ys.length
 |_,_=>False
theorem Like.refl(x:aH):Like x x:=by cases x<;>simp[Like]
def al7:aH->Nat->Prop
 |.br _ _,n=>n%2=1
 |.box _,_=>False
 |_,_=>True
theorem AR.ahT(O:∀b,M b->M' b/\w'.heap[b]?=w.heap[b]?)
    {v:AV}{c:Value}(K:AR w M β h v c)
    (D:∀s blk,AV.refers [s] v=true->h s=some blk->∃blk',h' s=some blk'/\Like blk blk'/\β' s=β s/\(∀b o n,β s=some (b,o)->al7 blk n->Room w b n->Room w' b n)):AR w' M' β' h' v c:=by
  have any:∀(s:Nat) (cs:List AV) (i:Nat) (c:AV),cs[i]?=some c->AV.refers [s] c=true->AV.fU [s] cs=true:=by
   intro s cs;induction cs with
   |nil=>intro i c hi;simp at hi
   |cons x r H=>
    intro i c hi E;cases i with
    |zero=>simp at hi;subst hi;simp[AV.fU,E]
    |succ i=>simp at hi;simp[AV.fU,H i c hi E]
  have G:∀s:Nat,fB s [s]=true:=λs=>by simp[fB]
  induction K with
  |undef c=>exact .undef c
  |p v c K=>exact .p v c (K.mono O)
  |slice s off len a ks xs b o cap m N z B E=>
   obtain⟨blk',u,g,e3,F⟩:=D s _ (by simp[AV.refers,G]) m;cases blk' with
   |box cs=>exact g.elim
   |log _ _=>exact g.elim
   |tb _ _ _=>exact g.elim
   |mp _ _=>exact g.elim
   |br _ _=>exact g.elim
   |arr a' J q=>obtain⟨rfl,rfl,I⟩:=g;exact .slice s off len a ks q b o cap u ω (e3▸z) B (F _ _ _ z trivial E)
  |sliceE s off a ks xs base m N=>
   obtain⟨blk',u,g,e3,F⟩:=D s _ (by simp[AV.refers,G]) m;cases blk' with
   |box cs=>exact g.elim
   |log _ _=>exact g.elim
   |tb _ _ _=>exact g.elim
   |mp _ _=>exact g.elim
   |br _ _=>exact g.elim
   |arr a' J q=>obtain⟨rfl,rfl,I⟩:=g;exact .sliceE s off a ks q base u ω
  |bslice s off len cs b o cap m N z B=>
   obtain⟨blk',u,g,e3,F⟩:=D s _ (by simp[AV.refers,G]) m;cases blk' with
   |box A=>exact .bslice s off len A b o cap u (by have:cs.length=A.length:=g;omega) (e3▸z) B
   |arr _ _ _=>exact g.elim
   |log _ _=>exact g.elim
   |tb _ _ _=>exact g.elim
   |mp _ _=>exact g.elim
   |br _ _=>exact g.elim
  |bsliceE s off cs base m N=>
   obtain⟨blk',u,g,e3,F⟩:=D s _ (by simp[AV.refers,G]) m;cases blk' with
   |box A=>exact .bsliceE s off A base u (by have:cs.length=A.length:=g;omega)
   |arr _ _ _=>exact g.elim
   |log _ _=>exact g.elim
   |tb _ _ _=>exact g.elim
   |mp _ _=>exact g.elim
   |br _ _=>exact g.elim
  |ptrB s off cs b o m z=>
   obtain⟨blk',u,g,e3,F⟩:=D s _ (by simp[AV.refers,G]) m;cases blk' with
   |box A=>exact .ptrB s off A b o u (e3▸z)
   |arr _ _ _=>exact g.elim
   |log _ _=>exact g.elim
   |tb _ _ _=>exact g.elim
   |mp _ _=>exact g.elim
   |br _ _=>exact g.elim
  |ptrA s R off a ks xs b o m hi z=>
   obtain⟨blk',u,g,e3,F⟩:=D s _ (by simp[AV.refers,G]) m;cases blk' with
   |box cs=>exact g.elim
   |log _ _=>exact g.elim
   |tb _ _ _=>exact g.elim
   |mp _ _=>exact g.elim
   |br _ _=>exact g.elim
   |arr a' J q=>obtain⟨rfl,rfl,I⟩:=g;exact .ptrA s R off a ks q b o u ω (e3▸z)
  |pF a ks x off b o f z V W K=>exact .pF a ks x off b o f (O b z).1 V (λj c m=>by rw[cell_of_heap (O b z).2];exact W j c m) (λj c m=>(K j c m).mono O)
  |fn f cs vs L _ H=>exact .fn f cs vs L λi c hi=>H i c hi λs blk E=>D s blk (by simp only[AV.refers];exact any s cs i c hi E)
  |agg cs vs L N _ H=>exact .agg cs vs L N λi c hi=>H i c hi λs blk E=>D s blk (by simp only[AV.refers];exact any s cs i c hi E)
  |o7 cs vs L _ H=>exact .o7 cs vs L λi c hi=>H i c hi λs blk E=>D s blk (by simp only[AV.refers];exact any s cs i c hi E)
  |AB l=>exact .AB l
  |ptrT s off t c0 c1 b m z=>
   obtain⟨blk',u,g,e3,F⟩:=D s _ (by simp[AV.refers,G]) m;cases blk' with
   |box cs=>exact g.elim
   |log _ _=>exact g.elim
   |arr _ _ _=>exact g.elim
   |mp _ _=>exact g.elim
   |br _ _=>exact g.elim
   |tb Q U S=>exact .ptrT s off Q U S b u (e3▸z)
  |Iy s t Z b o m z=>
   obtain⟨blk',u,g,e3,F⟩:=D s _ (by simp[AV.refers,G]) m;cases blk' with
   |box cs=>exact g.elim
   |log _ _=>exact g.elim
   |arr _ _ _=>exact g.elim
   |tb _ _ _=>exact g.elim
   |br _ _=>exact g.elim
   |mp Q es'=>exact .Iy s Q es' b o u (e3▸z)
  |Iz s e xs b cap m z B Y E=>
   obtain⟨blk',u,g,e3,F⟩:=D s _ (by simp[AV.refers,G]) m;cases blk' with
   |box cs=>exact g.elim
   |log _ _=>exact g.elim
   |arr _ _ _=>exact g.elim
   |tb _ _ _=>exact g.elim
   |mp _ _=>exact g.elim
   |br X q=>obtain⟨rfl,I⟩:=g;rw[I];exact .Iz s e q b cap u (e3▸z) ω ω (F _ _ _ z (show(2*cap+1)%2=1 by omega) E)
  |yB s e m=>
   obtain⟨blk',u,g,e3,F⟩:=D s _ (by simp[AV.refers,G]) m;cases blk' with
   |box cs=>exact g.elim
   |log _ _=>exact g.elim
   |arr _ _ _=>exact g.elim
   |tb _ _ _=>exact g.elim
   |mp _ _=>exact g.elim
   |br X q=>obtain⟨rfl,I⟩:=g;have:q=[]:=List.length_eq_zero_iff.1 (by simpa using I.symm);subst this;exact .yB s e u
theorem AR.mono(l:∀b,M b->M' b/\w'.heap[b]?=w.heap[b]?)
    {v:AV}{c:Value}(f:AR w M β h v c)
    (g:∀s blk,AV.refers [s] v=true->h s=some blk->∃blk',h' s=some blk'/\Like blk blk'/\β' s=β s/\(∀b o n,β s=some (b,o)->Room w b n->Room w' b n)):AR w' M' β' h' v c:=
  f.ahT l λs blk p m=>let ⟨blk',e1,e2,e3,e4⟩:=g s blk p m;⟨blk',e1,e2,e3,λb o n h _ j=>e4 b o n h j⟩
structure Base where
 wd:World
 n0:Nat
 le:n0<=wd.heap.size
 gl:Option (List (Nat × Obj))
abbrev Base.heap(b:Base):=b.wd.heap
abbrev Base.os(b:Base):=b.wd.os
abbrev Base.tape(b:Base):=b.wd.tape
abbrev Base.output(b:Base):=b.wd.output
abbrev Base.drawn(b:Base):=b.wd.drawn
theorem Base.le'(b:Base):b.n0<=b.heap.size:=b.le
structure Rel (w0:Base) (Pr M0:Nat->Prop) (M:Nat->Prop) (β:Nat->Option (Nat × Nat)) (st:St) (a:Act) (w:World):Prop where
 mJ:st.env.length<=a.tmps.size
 env:∀(t:Nat) (v:AV),st.env[t]?=some v->AR w M β (look st.heap) v (a.tmps.getD t undef)
 heap:∀s blk,look st.heap s=some blk->BR w M β (look st.heap) s blk
 own:∀s b o,(look st.heap s).isSome=true->β s=some (b,o)->¬M b/\b<w.heap.size/\((w0.heap.size<=b\/Pr b)/\(w0.n0<=b\/ah<=s))
 inj:∀s s' b o o',(look st.heap s).isSome=true->(look st.heap s').isSome=true->β s=some (b,o)->β s'=some (b,o')->s=s'
 dJ:∀b,M b->b<w.heap.size
 jH:∀b,M b->M0 b\/(w0.n0<=b/\(w0.heap.size<=b\/Pr b))
 oZ:∀b,M0 b->M b
 keep:∀b,b<w0.heap.size->¬Pr b->w.heap[b]?=w0.heap[b]?
 room:∀b n,b<w0.n0->Pr b->Room w0.wd b n->Room w b n
 size:w0.heap.size<=w.heap.size
 os:w.os=w0.os
 tape:w.tape=w0.tape
 output:w.output=w0.output
 glob:∀p∈w0.gl.getD [],M p.1/\w.heap[p.1]?=some p.2
end
section
variable {ss:List Nat}
theorem jJ{x:Nat}:∀{l:List Nat},fB x l=true↔x∈l
 |[]=>by simp[fB]
 |y::r=>by
  simp only[fB,List.mem_cons];by_cases h:x=y
  .simp[h]
  .have h':(x==y)=false:=by simpa using h
   simp[h',h,jJ]
theorem dY{x:Nat}{l:List Nat}:fB x l=false↔x ∉ l:=by grind[jJ]
theorem aZ(hp:Heap)(s:Nat)(b:aH)(x:Nat):look (put hp s b) x=if x=s then some b else look hp x:=by
 induction hp with
 |nil=>
  by_cases h:x=s
  .subst h;simp[put,look]
  .have h':(s==x)=false:=by simpa using λe=>h e.symm
   simp[put,look,h,h']
 |cons p r l=>
  obtain⟨k,c⟩:=p;by_cases m:k=s
  .subst m;by_cases h:x=k
   .subst h;simp[put,look]
   .have h':(k==x)=false:=by simpa using λe=>h e.symm
    simp[put,look,h,h']
  .have f:(k==s)=false:=by simpa using m
   by_cases h:x=s
   .subst h;have j:(k==x)=false:=f;simp only[put,f,qCf,look,l,if_true]
   .by_cases j:k=x
    .subst j;simp[put,f,look,h]
    .have g:(k==x)=false:=by simpa using j
     simp only[put,f,qCf,look,g,l,h,if_false]
theorem ZQ(hp:Heap)(s x:Nat):look (drop1 hp s) x=if x=s then none else look hp x:=by
 induction hp with
 |nil=>simp[drop1,look]
 |cons p r f=>grind[drop1,look]
theorem rE(x:Nat):∀(ss:List Nat) (hp:Heap),look (nG hp ss) x=if x∈ss then none else look hp x
 |[],hp=>by simp[nG]
 |s::r,hp=>by simp only[nG,rE x r,ZQ,List.mem_cons];by_cases g:x∈r<;>by_cases f:x=s<;>simp[g,f]
theorem fE(ss:List Nat)(x:Nat):∀(hp:Heap),look (fM ss hp) x=(look hp x).map (aH.kill ss)
 |[]=>rfl
 |(k,b)::r=>by
  by_cases h:(k==x)=true
  .simp[fM,look,h]
  .have h':(k==x)=false:=by simpa using h
   simp[fM,look,h',fE ss x r]
theorem jD(ss:List Nat):∀(env:List AV) (t:Nat),(gq ss env)[t]?=(env[t]?).map (AV.kill ss)
 |[],t=>by simp[gq]
 |v::r,0=>by simp[gq]
 |v::r,t+1=>by simp[gq,jD ss r t]
theorem nU(ss:List Nat):∀(env:List AV),(gq ss env).length=env.length
 |[]=>rfl
 |v::r=>by simp[gq,nU ss r]
theorem aH.xg(ss:List Nat)(b:aH):Like b (b.kill ss):=by
 cases b with
 |box cs=>simp[aH.kill,Like,nU]
 |arr a ks xs=>exact Like.refl _
 |log f xs=>exact Like.refl _
 |tb t c0 c1=>exact rfl
 |mp t g=>exact Like.refl _
 |br e xs=>exact Like.refl _
theorem AV.Uk{v:AV}(h:v.leaf=true):(AV.kill ss v).leaf=true:=by
 unfold AV.kill;cases AV.refers ss v with
 |true=>rfl
 |false=>exact h
mutual
theorem Qm{s:Nat}{ss:List Nat}(f:s∈ss):∀(v:AV),AV.refers ss v=false->AV.refers [s] v=false
 |.undef,_=>rfl
 |.p _,_=>rfl
 |.pF _ _ _ _,_=>rfl
 |.fresh _ _ _,_=>rfl
 |.AB,_=>rfl
 |.slice x _ _ _,h=>by simp only[AV.refers]at *;rw[dY]at *;simp;rintro rfl;exact h f
 |.bslice x _ _,h=>by simp only[AV.refers]at *;rw[dY]at *;simp;rintro rfl;exact h f
 |.ptr x _ _,h=>by simp only[AV.refers]at *;rw[dY]at *;simp;rintro rfl;exact h f
 |.mref x,h=>by simp only[AV.refers]at *;rw[dY]at *;simp;rintro rfl;exact h f
 |.fn _ cs,h=>by simp only[AV.refers]at *;exact ug f cs h
 |.agg cs,h=>by simp only[AV.refers]at *;exact ug f cs h
 |.o7 cs,h=>by simp only[AV.refers]at *;exact ug f cs h
theorem ug{s:Nat}{ss:List Nat}(f:s∈ss):∀(cs:List AV),AV.fU ss cs=false->AV.fU [s] cs=false
 |[],_=>rfl
 |v::r,h=>by simp only[AV.fU,Bool.or_eq_false_iff]at *;exact⟨Qm f v h.1,ug f r h.2⟩
end
section
variable {w0:Base}{Pr M0 M:Nat->Prop}{β:Nat->Option (Nat × Nat)}{st:St}{a:Act}{w:World}
theorem Rel.congr(r:Rel w0 Pr M0 M β st a w){hp:Heap}(h:∀s,look hp s=look st.heap s):Rel w0 Pr M0 M β {st with heap:=hp} a w:=by have e:look hp=look st.heap:=funext h;exact⟨r.mJ,by rw[e];exact r.env,by rw[e];exact r.heap,by rw[e];exact r.own,by rw[e];exact r.inj,r.dJ,r.jH,r.oZ,r.keep,r.room,r.size,r.os,r.tape,r.output,r.glob⟩
theorem Rel.kill(r:Rel w0 Pr M0 M β st a w)(ss:List Nat):Rel w0 Pr M0 M β (st.kill ss) a w:=by
 cases ss with
 |nil=>exact r
 |cons z u=>
  have m:∀x,look (fM (z::u) st.heap) x=(look st.heap x).map (aH.kill (z::u)):=λx=>fE _ _ _;have key:∀(v:AV) (c:Value),AR w M β (look st.heap) v c->AR w M β (look (fM (z::u) st.heap)) (AV.kill (z::u) v) c:=by
   intro v c h;unfold AV.kill;cases R:AV.refers (z::u) v with
   |true=>exact .undef c
   |false=>refine h.mono (λb l=>⟨l,rfl⟩) λs blk _ B=>⟨blk.kill (z::u),?_,aH.xg _ _,rfl,λ_ _ _ _ h=>h⟩;rw[m,B];rfl
  refine⟨by simp only[St.kill,nU];exact r.mJ,?_,?_,?_,?_,r.dJ,r.jH,r.oZ,r.keep,r.room,r.size,r.os,r.tape,r.output,r.glob⟩
  .intro t v F;simp only[St.kill,jD]at F;cases D:st.env[t]? with
   |none=>rw[D]at F;simp at F
   |some v'=>rw[D]at F;simp at F;subst F;exact key _ _ (r.env t v' D)
  .intro s blk l;simp only[St.kill,m]at l;cases D:look st.heap s with
   |none=>rw[D]at l;simp at l
   |some b'=>
    rw[D]at l;simp at l;subst l;cases r.heap s b' D with
    |box cs b o C e fr g f p h4 h5 H=>
     refine .box _ b o C e fr g f (by rw[nU];exact p) h4 ?_ ?_
     .intro c q;obtain⟨i,hi⟩:=List.mem_iff_getElem?.1 q;rw[jD]at hi;cases A:cs[i]? with
      |none=>rw[A]at hi;simp at hi
      |some x=>
       rw[A]at hi;simp at hi;subst hi;unfold AV.kill;cases AV.refers (z::u) x with
       |true=>rfl
       |false=>exact h5 x (qLe A)
     .intro j c q;rw[jD]at q;cases A:cs[j]? with
      |none=>rw[A]at q;simp at q
      |some x=>rw[A]at q;simp at q;subst q;exact key _ _ (H j x A)
    |gJ a ks=>exact .gJ a ks
    |log J ys=>exact .log J ys
    |arr a ks xs b o C e fr g f p h4 h5 H=>exact .arr a ks xs b o C e fr g f p h4 h5 H
    |tb t c0 c1 b C fr g f p h4 h5 H N L=>exact .tb t _ _ b C fr g f p h4 (AV.Uk h5) (AV.Uk H) (key _ _ N) (key _ _ L)
    |mp t Q b o E k g f p h4=>exact .mp t Q b o E k g f p h4
    |GX e=>exact .GX e
    |br e xs b C fr g f p h4 O g6=>exact .br e xs b C fr g f p h4 O g6
  .intro s b o B l;simp only[St.kill,m,Option.isSome_map]at B;exact r.own s b o B l
  .intro s I b o K B G g f;simp only[St.kill,m,Option.isSome_map]at B G;exact r.inj s I b o K B G g f
theorem rF{s:Nat}(f:s∈ss)(v:AV):AV.refers [s] (AV.kill ss v)=false:=by
 unfold AV.kill;cases h:AV.refers ss v with
 |true=>rfl
 |false=>exact Qm f v h
theorem Rel.strike(r:Rel w0 Pr M0 M β st a w)(ss:List Nat){M':Nat->Prop}(N:∀b,M b->M' b)
    (W:∀b,M' b->M b\/(w0.n0<=b/\∃s o,s∈ss/\(look st.heap s).isSome=true/\β s=some (b,o))):Rel w0 Pr M0 M' β (st.strike ss) a w:=by
  have R:∀b,M' b->b<w.heap.size:=λb g=>by
   rcases W b g with h |⟨_,s,o,_,h,h'⟩
   .exact r.dJ b h
   .exact(r.own s b o h h').2.1
  have U:∀b,M' b->M0 b\/(w0.n0<=b/\(w0.heap.size<=b\/Pr b)):=λb g=>by
   rcases W b g with h |⟨h,s,o,_,B,A⟩
   .exact r.jH b h
   .exact .inr ⟨h,(r.own s b o B A).2.2.1⟩
  cases ss with
  |nil=>have e:M'=M:=funext λb=>propext ⟨λg=>(W b g).elim id λ⟨_,s,o,h,_⟩=>by simp at h,N b⟩;rw[e];exact r
  |cons u q=>
   have X:=r.kill (u::q);have H:∀x,look (nG (fM (u::q) st.heap) (u::q)) x=if x∈u::q then none else look (fM (u::q) st.heap) x:=λx=>rE x _ _
   have Q:∀x,(look (fM (u::q) st.heap) x).isSome=(look st.heap x).isSome:=λx=>by rw[fE];simp
   have key:∀(v:AV) (c:Value),(∀s,s∈u::q->AV.refers [s] v=false)->AR w M β (look (fM (u::q) st.heap)) v c ->
       AR w M' β (look (nG (fM (u::q) st.heap) (u::q))) v c:=by
     intro v c hr h;refine h.mono (λb g=>⟨N b g,rfl⟩) λs blk S z=>⟨blk,?_,Like.refl _,rfl,λ_ _ _ _ h=>h⟩;rw[H,if_neg (λD=>by rw[hr s D]at S;cases S)];exact z
   refine⟨X.mJ,?_,?_,?_,?_,R,U,λb g=>N b (r.oZ b g),r.keep,r.room,r.size,r.os,r.tape,r.output,λp hp=>⟨N _ (r.glob p hp).1,(r.glob p hp).2⟩⟩
   .intro t v K;refine key v _ ?_ (X.env t v K);intro s hs;simp only[St.strike,jD]at K;cases I:st.env[t]? with
    |none=>rw[I]at K;simp at K
    |some v'=>rw[I]at K;simp at K;subst K;exact rF hs v'
   .intro s blk g;simp only[St.strike,H]at g;by_cases D:s∈u::q
    .rw[if_pos D]at g;cases g
    .rw[if_neg D]at g;have f:=g;rw[fE]at f;cases I:look st.heap s with
     |none=>rw[I]at f;simp at f
     |some b'=>
      rw[I]at f;simp at f;cases X.heap s blk g with
      |box cs b o C e fr B A F G O g6=>
       refine .box _ b o C e fr B A F G O λj c L=>key c _ ?_ (g6 j c L);intro J l;cases b' with
       |arr a ks xs=>simp[aH.kill]at f
       |log Y xs=>simp[aH.kill]at f
       |tb t c0 c1=>simp[aH.kill]at f
       |mp t es=>simp[aH.kill]at f
       |br e xs=>simp[aH.kill]at f
       |box ds=>
        simp only[aH.kill,aH.box.injEq]at f;rw[<-f,jD]at L;cases hx:ds[j]? with
        |none=>rw[hx]at L;simp at L
        |some x=>rw[hx]at L;simp at L;subst L;exact rF l x
      |gJ a ks=>exact .gJ a ks
      |log Y ys=>exact .log Y ys
      |arr a ks xs b o C e fr B A F G O g6=>exact .arr a ks xs b o C e fr B A F G O λi x j c hi hj=>(g6 i x j c hi hj).mono λb g=>⟨N b g,rfl⟩
      |tb t c0 c1 b C fr B A F G O g6 g7 g8=>
       cases b' with
       |arr a ks xs=>simp[aH.kill]at f
       |log Y xs=>simp[aH.kill]at f
       |box ds=>simp[aH.kill]at f
       |mp t es=>simp[aH.kill]at f
       |br e xs=>simp[aH.kill]at f
       |tb t' d0 d1=>simp only[aH.kill,aH.tb.injEq]at f;obtain⟨rfl,rfl,rfl⟩:=f;exact .tb _ _ _ b C fr B A F G O g6 (key _ _ (λJ l=>rF l d0) g7) (key _ _ (λJ l=>rF l d1) g8)
      |mp t es b o E k B A F G=>exact .mp t es b o E k B A F λi p e hi I=>⟨(G i p e hi I).1.mono λb g=>⟨N b g,rfl⟩,(G i p e hi I).2.mono λb g=>⟨N b g,rfl⟩⟩
      |GX e=>exact .GX e
      |br e xs b C fr B A F G O g6=>exact .br e xs b C fr B A F G O g6
   .intro s b o z g;simp only[St.strike,H]at z;by_cases D:s∈u::q
    .rw[if_pos D]at z;cases z
    .rw[if_neg D,Q]at z;obtain⟨B,A,F⟩:=r.own s b o z g;refine⟨λhM=>?_,A,F⟩;rcases W b hM with h |⟨_,J,Z,l,m,f⟩
     .exact B h
     .exact D (by rw[r.inj s J b o Z z m g f];exact l)
   .intro s J b o Z z m h3 h4;simp only[St.strike,H]at z m;by_cases D:s∈u::q
    .rw[if_pos D]at z;cases z
    .by_cases V:J∈u::q
     .rw[if_pos V]at m;cases m
     .rw[if_neg D,Q]at z;rw[if_neg V,Q]at m;exact r.inj s J b o Z z m h3 h4
theorem Rel.setEnv(r:Rel w0 Pr M0 M β st a w)(d:Option Nat){v:AV}{c:Value}(h:AR w M β (look st.heap) v c) :
    Rel w0 Pr M0 M β {st with env:=Skm.setEnv st.env d v} (a.put d c) w:=by
  cases d with
  |none=>exact r
  |some d=>
   refine⟨by simp only[Skm.setEnv,Act.put,List.length_set,Array.size_setIfInBounds];exact r.mJ,?_,r.heap,r.own,r.inj,r.dJ,r.jH,r.oZ,r.keep,r.room,r.size,r.os,r.tape,r.output,r.glob⟩;intro t u f;have j:t<st.env.length:=by grind[Skm.setEnv]
   have g:t<a.tmps.size:=by have:=r.mJ;omega
   by_cases hd:d=t
   .simp_all[Skm.setEnv,Act.put]
   .simp only[Skm.setEnv,List.getElem?_set_ne hd]at f;simpa[Act.put,hd,qAe hd] using r.env t u f
theorem Rel.abx(r:Rel w0 Pr M0 M β st a w){env:List AV}(g:env.length=st.env.length)(h:∀(t:Nat) (v:AV),env[t]?=some v->v=.undef\/st.env[t]?=some v) :
    Rel w0 Pr M0 M β {st with env:=env} a w:=
  ⟨by simpa[g] using r.mJ,λt v f=>(h t v f).elim (λe=>e▸.undef _) (r.env t v),r.heap,r.own,r.inj,r.dJ,r.jH,r.oZ,r.keep,r.room,r.size,r.os,r.tape,r.output,r.glob⟩
end
end
section
variable {P:Program}{w w':World}{v:Value}{b n o s:Nat}{blk blk':aH}{C C':Array Value}{e:TypeId}{fr:Nat × Nat}{M:Nat -> Prop}{x:PV}
theorem Oe{at_ k:Addr}{u:TypeId}{f:Bool}{l:List Addr}(h:w.viewStore P at_ u k v f=.ok (w',l)):w'.drawn=w.drawn:=by
 unfold World.viewStore at h;simp only[bind,Except.bind,pure,Except.pure]at h
 repeat' (split at h<;>try (cases h;done))
 grind
theorem LH{α:Type}:∀(a:Ask α) (w:World),w.drawn<=(w.ask a).2.drawn
 |.done a,w=>qNr _
 |.ask what range k,w=>by
  unfold World.ask;simp only;split
  .exact LH _ w
  .exact Nat.le_trans (Nat.le_succ _) (LH _ {w with drawn:=w.drawn+1})
theorem acO{α:Type}:∀(s:Sem α) {w w':World} {a:α},s.run P w=.ok a w'->w.drawn<=w'.drawn:=by
 intro s;induction s with
 | pure a=>intro w w' b h;simp only[Sem.run]at h;cases h;exact qNr _
 | load m a k f=>grind[Sem.run]
 | store m a v k f =>
  intro w w' b h;have key:(match w.cell? a with
   | some _ => if w.frozen? a then .halt (.unsupported (.unsafePointer "a write to bytes that a string shares")) w else k.run P (w.setCell a v)
   | none=>match w.farStore P a v (m==.atomic)with
    | .ok (w,_)=>k.run P w
    | .error h=>.halt h w)=Result.ok b w':=by
   cases v<;>first | exact h |(simp only[Sem.run]at h;cases h)
  split at key
  . split at key
    . cases key
    . exact f (w:=w.setCell a v) key
  . split at key
    . rename_i j l g;have:j.drawn=w.drawn:=by
       unfold World.farStore at g;split at g
       . split at g
         . rename_i r p;cases g;exact Oe p
         . cases g
       . cases g
      grind
    . cases key
 | new o k f=>intro w w' b h;simp only[Sem.run]at h;exact f _ (w:={w with heap:=w.heap.push o}) h
 | shape r k f=>intro w w' b h;simp only[Sem.run]at h;exact f _ h
 | freeze a n k f=>grind[Sem.run,World.freeze]
 | frozen a k f=>intro w w' b h;simp only[Sem.run]at h;exact f _ h
 | getObj r k f=>grind[Sem.run]
 | setObj r o k f=>grind[Sem.run]
 | choose q k f=>grind[Sem.run]
 | sys c k f =>intro w w' b h;simp only[Sem.run]at h;refine Nat.le_trans ?_ (f _ h);unfold World.sys;have:=LH (Kernel.perform c w.os) w;grind
 | program k f=>intro w w' b h;simp only[Sem.run]at h;exact f _ h
 | mark m k f=>intro w w' b h;simp only[Sem.run]at h;exact f h
 | halt u=>intro w w' b h;simp only[Sem.run]at h;cases h
section
variable {w0:Base}{Pr M0 M:Nat->Prop}{β:Nat->Option (Nat × Nat)}{st:St}{a:Act}{w:World}
theorem Room.of_block{w:World}(h:w'.heap[b]?=w.heap[b]?)(f:Room w b n):Room w' b n:=by obtain⟨C,e,fr,l,j,g⟩:=f;exact⟨C,e,fr,by rw[h];exact l,j,g⟩
theorem Room.mono{w:World}{m:Nat}(f:Room w b (2*n))(h:m<=n):Room w b (2*m):=by obtain⟨C,e,fr,j,l,g⟩:=f.get;exact Room.mk j ω g
theorem Rel.world(r:Rel w0 Pr M0 M β st a w){M':Nat->Prop}(R:w.heap.size<=w'.heap.size)(G:w'.os=w.os)(D:w'.tape=w.tape)(H:w'.output=w.output)
    (J:∀b,b<w.heap.size->(M b\/(∃s o,(look st.heap s).isSome=true/\β s=some (b,o))\/(b<w0.heap.size/\¬Pr b))->w'.heap[b]?=w.heap[b]?)
    (F:∀b n,b<w0.n0->b<w.heap.size->Pr b->Room w b n->Room w' b n)(N:∀b,M b->M' b)(K:∀b,M' b->M b\/(w.heap.size<=b/\b<w'.heap.size)):Rel w0 Pr M0 M' β st a w':=by
  have A:∀b,M b->M' b/\w'.heap[b]?=w.heap[b]?:=λb h=>⟨N b h,J b (r.dJ b h) (.inl h)⟩;have B:∀s b o,(look st.heap s).isSome=true->β s=some (b,o)->w'.heap[b]?=w.heap[b]?:=λs b o g h4=>J b (r.own s b o g h4).2.1 (.inr (.inl ⟨s,o,g,h4⟩));have key:∀(v:AV) (c:Value),AR w M β (look st.heap) v c->AR w' M' β (look st.heap) v c:=λv c h=>h.mono A λs blk _ u=>⟨blk,u,Like.refl _,rfl,λb o n g S=>S.of_block (B s b o (by rw[u];rfl) g)⟩;refine⟨r.mJ,λt v h=>key _ _ (r.env t v h),?_,?_,r.inj,?_,?_,λb h=>N b (r.oZ b h),?_,λb n g h4 h5=>F b n g (by have:=r.size;have:=w0.le';omega) h4 (r.room b n g h4 h5),by have:=r.size;omega,G.trans r.os,D.trans r.tape,H.trans r.output,λp hp=>⟨(A _ (r.glob p hp).1).1,(A _ (r.glob p hp).1).2.trans (r.glob p hp).2⟩⟩
  .intro s blk u;have hi:(look st.heap s).isSome=true:=by rw[u];rfl
   cases r.heap s blk u with
   |box cs b o C e fr f q l m z g6=>exact .box _ b o C e fr f (by rw[B s b o hi f];exact q) l m z λj c I=>key _ _ (g6 j c I)
   |gJ a ks=>exact .gJ a ks
   |log O ys=>exact .log O ys
   |arr a ks xs b o C e fr f q l m z g6=>exact .arr a ks xs b o C e fr f (by rw[B s b o hi f];exact q) l m z λi x j c Q I=>(g6 i x j c Q I).mono A
   |tb t c0 c1 b C fr f q l m z g6 W V=>exact .tb t c0 c1 b C fr f (by rw[B s b 0 hi f];exact q) l m z g6 (key _ _ W) (key _ _ V)
   |mp t X b o E k f q l m=>exact .mp t X b o E k f (by rw[B s b o hi f];exact q) l λi p e hi L=>⟨(m i p e hi L).1.mono A,(m i p e hi L).2.mono A⟩
   |GX e=>exact .GX e
   |br e xs b C fr f q l m z g6=>exact .br e xs b C fr f (by rw[B s b 0 hi f];exact q) l m z g6
  .intro s b o u g;obtain⟨f,q,l⟩:=r.own s b o u g;refine⟨λU=>?_,ω,l⟩;rcases K b U with h |h
   .exact f h
   .omega
  .intro b h;rcases K b h with h |h
   .have:=r.dJ b h;omega
   .omega
  .intro b h;rcases K b h with h |h
   .exact r.jH b h
   .right;have:=r.size;have:=w0.le';exact⟨ω,.inl ω⟩
  .intro b g h4;rw[J b (by have:=r.size;omega) (.inr (.inr ⟨g,h4⟩)),r.keep b g h4]
theorem Rel.lay(r:Rel w0 Pr M0 M β st a w)(N:look st.heap s=none){p:Option (Nat × Nat)}
    (hp:∀b o,p=some (b,o)->¬M b/\b<w.heap.size/\((w0.heap.size<=b\/Pr b)/\(w0.n0<=b\/ah<=s))/\(∀m J,(look st.heap m).isSome=true->β m≠some (b,J)))
    (K:BR w M (λx=>if x=s then p else β x) (λx=>if x=s then some blk else look st.heap x) s blk) :
    Rel w0 Pr M0 M (λx=>if x=s then p else β x) {st with heap:=put st.heap s blk} a w:=by
  have l:look (put st.heap s blk)=λx=>if x=s then some blk else look st.heap x:=funext λx=>aZ _ _ _ _
  have key:∀(v:AV) (c:Value),AR w M β (look st.heap) v c->AR w M (λx=>if x=s then p else β x) (look (put st.heap s blk)) v c:=by
   intro v c h;refine h.mono (λb K=>⟨K,rfl⟩) λm blk' _ q=>?_;have f:m≠s:=by rintro rfl;rw[N]at q;cases q
   exact⟨blk',by rw[l];simp only[if_neg f];exact q,Like.refl _,by simp only[if_neg f],λ_ _ _ _ h=>h⟩
  refine⟨r.mJ,λt v h=>key _ _ (r.env t v h),?_,?_,?_,r.dJ,r.jH,r.oZ,r.keep,r.room,r.size,r.os,r.tape,r.output,r.glob⟩
  .intro m b' q;by_cases f:m=s
   .subst f;rw[l]at q;simp only[if_true,qOa]at q;subst q;show BR w M _ (look (put st.heap m blk)) m blk;rw[l];exact K
   .simp only[l,if_neg f]at q;cases r.heap m b' q with
    |box cs b o C e fr B A z G H g6=>exact .box _ b o C e fr (by simp only[if_neg f];exact B) A z G H λj c O=>key _ _ (g6 j c O)
    |gJ a ks=>exact .gJ a ks
    |log L ys=>exact .log L ys
    |arr a ks xs b o C e fr B A z G H g6=>exact .arr a ks xs b o C e fr (by simp only[if_neg f];exact B) A z G H g6
    |tb t c0 c1 b C fr B A z G H g6 R Q=>exact .tb t c0 c1 b C fr (by simp only[if_neg f];exact B) A z G H g6 (key _ _ R) (key _ _ Q)
    |mp t S b o E k B A z G=>exact .mp t S b o E k (by simp only[if_neg f];exact B) A z G
    |GX e=>exact .GX e
    |br e xs b C fr B A z G H g6=>exact .br e xs b C fr (by simp only[if_neg f];exact B) A z G H g6
  .intro m b o q u;by_cases f:m=s
   .subst f;simp only[if_true]at u;obtain⟨B,A,z,_⟩:=hp b o u;exact⟨B,A,z⟩
   .simp only[l,if_neg f]at q u;exact r.own m b o q u
  .intro m D b o J q F u I;by_cases f:m=s
   .subst f;by_cases g:D=m
    .exact g.symm
    .simp only[if_true,if_neg g]at u I;simp only[l,if_neg g]at F;exact absurd I ((hp b o u).2.2.2 D J F)
   .by_cases g:D=s
    .subst g;simp only[if_true,if_neg f]at u I;simp only[l,if_neg f]at q;exact absurd u ((hp b J I).2.2.2 m o q)
    .simp only[if_neg f,if_neg g]at u I;simp only[l,if_neg f]at q;simp only[l,if_neg g]at F;exact r.inj m D b o J q F u I
theorem Rel.ajG(r:Rel w0 Pr M0 M β st a w){A:Nat × Nat}
    (hs:look st.heap s=some blk)(hl:Like blk blk')(Q:β s=some (b,o))(hw:w.heap[b]?=some (.cells C e fr))(I:w'.heap=w.heap.setIfInBounds b (.cells C' e A))(Z:Open C fr->Open C' A)
    (hC:C'.size=C.size)(X:w'.os=w.os)(W:w'.tape=w.tape)(Y:w'.output=w.output)
    (hB:(∀(v:AV) (c:Value),AR w M β (look st.heap) v c->AR w' M β (λx=>if x=s then some blk' else look st.heap x) v c)->(∀(v:PV) (c:Value),VR w M v c->VR w' M v c) ->
      w'.heap[b]?=some (.cells C' e A)->BR w' M β (λx=>if x=s then some blk' else look st.heap x) s blk') :
    Rel w0 Pr M0 M β {st with heap:=put st.heap s blk'} a w':=by
  have hi:(look st.heap s).isSome=true:=by rw[hs];rfl
  obtain⟨D,V,o3⟩:=r.own s b o hi Q;have q:look (put st.heap s blk')=λx=>if x=s then some blk' else look st.heap x:=funext λx=>aZ _ _ _ _
  have J:w'.heap.size=w.heap.size:=by rw[I];simp
  have m:∀b',b'≠b->w'.heap[b']?=w.heap[b']?:=λb' h=>by rw[I,qAe (λe=>h e.symm)]
  have hself:w'.heap[b]?=some (.cells C' e A):=by rw[I];simp[V]
  have K:∀b',M b'->M b'/\w'.heap[b']?=w.heap[b']?:=λb' h=>⟨h,m b' λe=>D (e▸h)⟩;have hroom:∀b' n,Room w b' n->Room w' b' n:=by
   intro b' n O;by_cases h:b'=b
   .subst h;obtain⟨C1,S,R,g,f,H⟩:=O;rw[hw]at g;cases g;exact⟨C',e,A,hself,ω,λh=>Z (H h)⟩
   .exact O.of_block (m b' h)
  have key:∀(v:AV) (c:Value),AR w M β (look st.heap) v c->AR w' M β (λx=>if x=s then some blk' else look st.heap x) v c:=by
   intro v c h;refine h.mono K λl b' _ g=>?_;by_cases f:l=s
   .subst f;rw[hs]at g;cases g;exact⟨blk',σ,hl,rfl,λb o n _ O=>hroom b n O⟩
   .exact⟨b',by simp only[if_neg f];exact g,Like.refl _,rfl,λb o n _ O=>hroom b n O⟩
  refine⟨r.mJ,λt v h=>by rw[q];exact key _ _ (r.env t v h),?_,?_,?_,λb' h=>by rw[J];exact r.dJ b' h,r.jH,r.oZ,?_,λb' n g f H=>hroom b' n (r.room b' n g f H),by rw[J];exact r.size,X.trans r.os,W.trans r.tape,Y.trans r.output,λp hp=>⟨(K _ (r.glob p hp).1).1,(K _ (r.glob p hp).1).2.trans (r.glob p hp).2⟩⟩
  .intro l b' g;show BR w' M β (look (put st.heap s blk')) l b';by_cases f:l=s
   .subst f;simp only[q,if_true,qOa]at g;subst g;rw[q];exact hB key (λv c h=>h.mono K) hself
   .simp only[q,if_neg f]at g;have z:(look st.heap l).isSome=true:=by rw[g];rfl
    rw[q];cases r.heap l b' g with
    |box cs b1 D C1 S R u G F B L g6=>exact .box _ b1 D C1 S R u (by rw[m b1 λe=>f (r.inj l s b _ _ z hi (e▸u) Q)];exact G) F B L λj c hc=>key _ _ (g6 j c hc)
    |gJ a ks=>exact .gJ a ks
    |log on ys=>exact .log on ys
    |arr a ks xs b1 D C1 S R u G F B L g6=>exact .arr a ks xs b1 D C1 S R u (by rw[m b1 λe=>f (r.inj l s b _ _ z hi (e▸u) Q)];exact G) F B L λi x j c N hc=>(g6 i x j c N hc).mono K
    |tb t c0 c1 b1 C1 R u G F B L g6 g7 g8=>exact .tb t c0 c1 b1 C1 R u (by rw[m b1 λe=>f (r.inj l s b _ _ z hi (e▸u) Q)];exact G) F B L g6 (key _ _ g7) (key _ _ g8)
    |mp t es b1 D E k u G F B=>exact .mp t es b1 D E k u (by rw[m b1 λe=>f (r.inj l s b _ _ z hi (e▸u) Q)];exact G) F λi p e hi he=>⟨(B i p e hi he).1.mono K,(B i p e hi he).2.mono K⟩
    |GX e=>exact .GX e
    |br e xs b1 C fr u G F B L g6=>exact .br e xs b1 C fr u (by rw[m b1 λe=>f (r.inj l s b _ _ z hi (e▸u) Q)];exact G) F B L g6
  .intro l b' o' g f;rw[J];by_cases H:l=s
   .subst H;exact r.own l b' o' hi f
   .simp only[q,if_neg H]at g;exact r.own l b' o' g f
  .intro l U b' D V g f H h4;have N:∀x,(look (put st.heap s blk') x).isSome=true->(look st.heap x).isSome=true:=by
    intro x N;by_cases h:x=s
    .subst h;exact hi
    .simpa only[q,if_neg h] using N
   exact r.inj l U b' D V (N _ g) (N _ f) H h4
  .intro b' g f;rw[m b' ?_,r.keep b' g f];rintro rfl;rcases o3.1 with h |h
   .omega
   .exact f h
theorem Rel.write(r:Rel w0 Pr M0 M β st a w) 
    (q:look st.heap s=some blk)(u:Like blk blk')(z:β s=some (b,o))(p:w.heap[b]?=some (.cells C e fr))(f:w'.heap=w.heap.setIfInBounds b (.cells C' e fr))
    (m:C'.size=C.size)(j:w'.os=w.os)(g:w'.tape=w.tape)(l:w'.output=w.output)
    (A:(∀(v:AV) (c:Value),AR w M β (look st.heap) v c->AR w' M β (λx=>if x=s then some blk' else look st.heap x) v c)->(∀(v:PV) (c:Value),VR w M v c->VR w' M v c) ->
      w'.heap[b]?=some (.cells C' e fr)->BR w' M β (λx=>if x=s then some blk' else look st.heap x) s blk') :
    Rel w0 Pr M0 M β {st with heap:=put st.heap s blk'} a w':=
  r.ajG q u z p f (λh=>h.size m) m j g l A
end
theorem Ul(h:VG v=some x):VR w M x v/\x.leaf=true:=by unfold VG at h;split at h<;>first |(cases h;refine⟨?_,rfl⟩;constructor) |cases h
theorem Nk{w:World}{M:Nat->Prop}:∀{l:List Value}{xs:List PV},Bz l=some xs->xs.length=l.length/\(∀x∈xs,x.leaf=true)/\∀(i:Nat) (x:PV),xs[i]?=some x->∃v,l[i]?=some v/\VR w M x v
 |[],xs,h=>by simp[Bz]at h;subst h;simp
 |v::r,xs,h=>by
  simp only[Bz]at h;split at h
  .rename_i x ys p m;cases h;obtain⟨z,u,q⟩:=Nk (w:=w) (M:=M) m;obtain⟨j,g⟩:=Ul (w:=w) (M:=M) p;refine⟨by simp[z],?_,?_⟩
   .intro y f;rcases List.mem_cons.1 f with rfl |f
    .exact g
    .exact u y f
   .intro i y hi;cases i with
    |zero=>simp at hi;subst hi;exact⟨v,σ,j⟩
    |succ i=>simp at hi;simpa using q i y hi
  .cases h
theorem yC(h:ofValue v=some x):VR w M x v:=by
 unfold ofValue at h;split at h
 .rename_i cs;cases f:Bz cs.toList with
  |none=>rw[f]at h;cases h
  |some ys=>rw[f]at h;cases h;obtain⟨l,j,g⟩:=Nk (w:=w) (M:=M) f;refine .agg ys cs (by simpa using l.symm) j λi c hi=>?_;obtain⟨v,h4,h5⟩:=g i c hi;simp_all
 .exact(Ul h).1
section
variable {w0:Base}{Pr M0 M:Nat->Prop}{β:Nat->Option (Nat × Nat)}{st:St}{a:Act}{w:World}
theorem ahi{env:List AV}{t:Nat}:env.getD t .undef=.undef\/env[t]?=some (env.getD t .undef):=θ
theorem Rel.slot(r:Rel w0 Pr M0 M β st a w)(t:Nat):AR w M β (look st.heap) (st.env.getD t .undef) (a.tmps.getD t undef):=by
 rcases ahi (env:=st.env) (t:=t)with h |h
 .rw[h];exact .undef _
 .exact r.env t _ h
theorem Rel.aP(r:Rel w0 Pr M0 M β st a w)(x:Operand):AR w M β (look st.heap) (Skm.aP st.env x) (a.eval x):=by
 cases x with
 |tmp t=>exact r.slot t
 |const v=>
  simp only[Skm.aP,Act.eval];split
  .rename_i x h;exact .p _ _ (yC h)
  .exact .undef _
 |global g=>exact .undef _
 |func f=>exact .p _ _ (.fn f [] #[] rfl λi c h=>by simp at h)
end
end
section
variable {t:TypeId}{i:TypeInfo}{P:Program}{c d:Value}{x y:AV}{b:Bool}{op:BinOp}{v:PV}
def zh(e:TypeId)(w:World)(v:Value)(q:Option (Nat × Nat))(cs:List Value):Prop:=
 (q=none/\cs=[]/\v=.slice none 0 0) \/
 ∃b cap C fr,q=some (b,0)/\v=.slice (some ⟨b,0,none⟩) cs.length cap/\cs.length<=cap/\0<cs.length/\w.heap[b]?=some (.cells C e fr)/\cap<=C.size/\Past cs.length fr/\∀(j:Nat) (c:Value),cs[j]?=some c->C.getD j undef=c
def vP(l:List UInt8):List Value:=l.map λx=>.int .u8 x.toNat
structure DI (e:TypeId) (w:World) (t:TypeId) (b:Nat) (q:Option (Nat × Nat)) (cs:List Value) (C:Array Value) (fr:Nat × Nat):Prop where
 hw:w.heap[b]?=some (.cells C t fr)
 hn:C.size=2
 ho:Open C fr
 h0:C.getD 0 undef=.pointer none\/C.getD 0 undef=.pointer (some ⟨b,0,none⟩)
 h1:zh e w (C.getD 1 undef) q cs
 bytes:∀c∈cs,∃n,c=.int .u8 n
 ne:∀o,q≠some (b,o)
structure JR (N:Prop) (w:World) (b:Nat) (q:Option (Nat × Nat)) (w':World):Prop where
 keep:∀k,k<w.heap.size->k≠b->(∀o,q≠some (k,o))->w'.heap[k]?=w.heap[k]?
 size:w.heap.size<=w'.heap.size
 os:w'.os=w.os
 tape:w'.tape=w.tape
 output:w'.output=w.output
 drawn:N->w.drawn<=w'.drawn
structure zH (N:Prop) (e:TypeId) (w:World) (t:TypeId) (b:Nat) (q:Option (Nat × Nat)) (cs:List Value) (fr:Nat × Nat) (w':World):Prop extends JR N w b q w' where
 put:∃v' q',w'.heap[b]?=some (.cells #[.pointer (some ⟨b,0,none⟩),v'] t fr)/\zh e w' v' q' cs/\∀g o,q'=some (g,o)->g≠b/\((∃o',q=some (g,o'))\/w.heap.size<=g)
def Po(P:Program)(G:Bool->World->Prop)(f:FuncId)(ts:List TypeId)(e:TypeId):Prim->Prop
 |.none=>True
 |.ael=>∀t∈ts,∀(w:World) (b:Nat) (q:Option (Nat × Nat)) (cs:List Value) (C:Array Value) (fr:Nat × Nat) (x:ByteArray),DI e w t b q cs C fr->cs.length+x.size<=2147483648 ->
     Calls P f #[.pointer (some ⟨b,0,none⟩),.string x] w λr w'=>r=.returned (.tuple #[.int .i64 x.size,.nilIface])/\zH True e w t b q (cs++vP x.data.toList) fr w'
 |.afb=>∀t∈ts,∀(w:World) (b:Nat) (q:Option (Nat × Nat)) (cs:List Value) (C:Array Value) (fr:Nat × Nat) (n:Int),DI e w t b q cs C fr->cs.length+1<=2147483648 ->
     Calls P f #[.pointer (some ⟨b,0,none⟩),.int .u8 n] w λr w'=>r=.returned .nilIface/\zH True e w t b q (cs++[.int .u8 n]) fr w'
 |.str=>∀t∈ts,∀(w:World) (b:Nat) (q:Option (Nat × Nat)) (l:List UInt8) (C:Array Value) (fr:Nat × Nat),DI e w t b q (vP l) C fr->l.length<=2147483648 ->
     Calls P f #[.pointer (some ⟨b,0,none⟩)] w λr w'=>r=.returned (.string ⟨l.toArray⟩)/\JR True w b q w'/\w'.heap[b]?=w.heap[b]?/\∀g o,q=some (g,o)->∃C e fr fr',w.heap[g]?=some (.cells C e fr)/\w'.heap[g]?=some (.cells C e fr')/\Past l.length fr'
 |.TK lf=>∀t∈ts,∀(w:World) (b:Nat) (q:Option (Nat × Nat)) (cs:List Value) (C:Array Value) (fr:Nat × Nat) (xs ys:List PV) (g1 o1 g2 o2:Nat),DI e w t b q cs C fr ->
     (∀(i:Nat) (x:PV),xs[i]?=some x->∃s,x=.str s/\w.cell? ⟨g1,o1+i,none⟩=some (.string s))->(∀(i:Nat) (y:PV),ys[i]?=some y->∃n,(y=.int .i64 n∧-9223372036854775808<=n/\n<=9223372036854775807)/\w.cell? ⟨g2,o2+i,none⟩=some (.int .i64 n)) ->
     0<xs.length->0<ys.length->g1<w.heap.size->g2<w.heap.size->g1≠b->g2≠b->(∀o,q≠some (g1,o))->(∀o,q≠some (g2,o))->cs.length+(lf xs ys).size<=2147483648->∀s:Bool,G s w ->
     Calls P f #[.pointer (some ⟨b,0,none⟩),.slice (some ⟨g1,o1,none⟩) xs.length xs.length,.slice (some ⟨g2,o2,none⟩) ys.length ys.length] w λr w'=>r=.returned (.tuple #[])/\zH (s=false) e w t b q (cs++vP (lf xs ys).data.toList) fr w'
 |.carry s=>∀(w:World) (x y c:Nat),c<=1->(callFunc f #[.int .u64 x,.int .u64 y,.int .u64 c]).run P w=.ok (.value (.tuple #[.int .u64 (VE s x y c),.int .u64 (VF s x y c)])) w
structure bJ (P:Program) (T:Tab):Prop where
 types:∀ t i,aX T.types t=some i->mG P t=some i
 funcs : ∀ f fi, aX T.funcs f = some fi -> P.funcs[f]? = some fi.fn /\ (fi.fn.name == "runtime.NumGoroutine") = false /\ (∀ c, fi.fn.body = some c -> iP T fi.hides c = true) /\
  (fi.cfg.MZ=false->fi.cfg.shares=false->pG T fi.cfg.rets fi.fn.resultTypes.toList=true)
 mixed:P.follows .mixedOrders=true
 nvars:∀ f fi,aX T.funcs f=some fi->fi.cfg.nvars<=100000
 ahU:∀ f fi,aX T.funcs f=some fi->fi.cfg.xK.is=true->(fi.cfg.xK.calc=false->∃ c,fi.fn.body=some c)/\Po P T.glob f fi.cfg.Iq fi.cfg.Na fi.cfg.xK
section
variable {P:Program}{T:Tab} (ok:bJ P T)
include ok
theorem bJ.ti{i:TI}(h:aX T.types t=some i):∃d j,P.underlying t=some d/\P.info? t=some j /\
    i={desc:=d,size:=j.size,bytes:=j.bytes,agg:=wz P t,sh:=aU P 8 t,zero:=j.zero.bind ofValue,plain:=P8 P t}:=by
  have:=ok.types t i h;unfold mG at this;split at this
  .grind
  .cases this
theorem bJ.und{t:TypeId}{d:TypeDesc}(h:Skm.und T t=some d):P.underlying t=some d:=by
 unfold Skm.und at h;cases f:aX T.types t with
 |none=>rw[f]at h;cases h
 |some i=>obtain⟨l,j,g,_,h4⟩:=ok.ti f;grind
theorem bJ.size{t:TypeId}{n:Nat}(h:oK T t=some n):∃i,P.info? t=some i/\i.size=n:=by
 unfold oK at h;cases f:aX T.types t with
 |none=>rw[f]at h;cases h
 |some i=>obtain⟨l,j,_,g,h4⟩:=ok.ti f;grind
theorem bJ.bytes{t:TypeId}{n:Nat}(h:JE T t=some n):∃i,P.info? t=some i/\i.bytes=n:=by
 unfold JE at h;cases f:aX T.types t with
 |none=>rw[f]at h;cases h
 |some i=>obtain⟨l,j,_,g,h4⟩:=ok.ti f;grind
theorem bJ.zero{t:TypeId}{z:PV}(h:G8 T t=some z):∃i v,P.info? t=some i/\i.zero=some v/\ofValue v=some z:=by
 unfold G8 at h;cases f:aX T.types t with
 |none=>rw[f]at h;cases h
 |some i=>
  obtain⟨l,j,_,g,h4⟩:=ok.ti f;rw[f]at h;subst h4;simp at h;cases h5:j.zero with
  |none=>rw[h5]at h;cases h
  |some v=>rw[h5]at h;exact⟨j,v,g,h5,by simpa using h⟩
theorem bJ.agg{n:Nat}(h:oK T t=some n):afd T t=wz P t:=by
 unfold oK at h;unfold afd;cases f:aX T.types t with
 |none=>rw[f]at h;cases h
 |some i=>obtain⟨l,j,_,g,h4⟩:=ok.ti f;subst h4;rfl
theorem bJ.plain(h:EC T t=true):P8 P t=true:=by
 unfold EC at h;cases f:aX T.types t with
 |none=>rw[f]at h;cases h
 |some i=>obtain⟨l,j,_,g,h4⟩:=ok.ti f;grind
end
theorem aW{d:TypeDesc}(h:P.underlying t=some d)(w:World):(underlying t).run P w=.ok d w:=by simp[underlying,h]
theorem pO(h:P.info? t=some i)(w:World):(typeInfo t).run P w=.ok i w:=by simp[typeInfo,h]
theorem fZ(h:P.info? t=some i)(w:World):(sizeOf t).run P w=.ok i.size w:=by simp[sizeOf,pO h]
theorem lg{d:TypeDesc}(h:P.underlying t=some d)(w:World):(isAgg t).run P w=.ok (wz P t) w:=by unfold isAgg wz;simp only[h,Sem.run_bind,aW h,qRa];cases d<;>rfl
structure aj (P:Program) (w:World) (M:Nat->Prop) (β:Nat->Option (Nat × Nat)) (h:Nat->Option aH) (D:DT) (sem:Sem Value):Prop where
 sim:∀(α:Type) (k:Eff->Option α) (r:α),D.run k=some r->∃v c,k { val:=v }=some r/\AR w M β h v c/\sem.run P w=.ok c w
theorem aby{α:Type}{c:Bool}{x:DT}{k:Eff->Option α}{r:α}(h:(chk c x).run k=some r):c=true/\x.run k=some r:=by
 cases c
 .simp[chk,DT.run]at h
 .exact⟨rfl,by simpa[chk,DT.run] using h⟩
section
variable {P:Program}{T:Tab}{w:World}{M:Nat->Prop}{β:Nat->Option (Nat × Nat)}{h:Nat->Option aH}
theorem aj.ret{v:AV}{c:Value}{sem:Sem Value}(j:AR w M β h v c)(g:sem.run P w=.ok c w):aj P w M β h (.ret {val:=v}) sem:=
 ⟨λ_ _ _ f=>⟨v,c,f,j,g⟩⟩
theorem aj.fail{sem:Sem Value}:aj P w M β h .fail sem:=⟨λ_ _ _ f=>by simp[DT.run]at f⟩
theorem aj.chk{c:Bool}{D:DT}{sem:Sem Value}(l:c=true->aj P w M β h D sem):aj P w M β h (Skm.chk c D) sem:=
 ⟨λα k r f=>by obtain⟨j,g⟩:=aby f;exact(l j).sim α k r g⟩
theorem aj.ite{c:Bool}{D E:DT}{sem:Sem Value}(j:c=true->aj P w M β h D sem)(g:c=false->aj P w M β h E sem):aj P w M β h (.ite c D E) sem:=by
 refine⟨λα k r f=>?_⟩;cases c
 .exact(g rfl).sim α k r (by simpa[DT.run] using f)
 .exact(j rfl).sim α k r (by simpa[DT.run] using f)
theorem AR.BI{k:IntKind}{n:Int}(g:AR w M β h (.p (.int k n)) c):c=.int k n:=by cases g;rename_i f;cases f;rfl
theorem AR.Dh(g:AR w M β h (.p (.bool b)) c):c=.bool b:=by cases g;rename_i f;cases f;rfl
theorem AR.Um{s:ByteArray}(g:AR w M β h (.p (.str s)) c):c=.string s:=by cases g;rename_i f;cases f;rfl
theorem AR.int(k:IntKind)(n:Int):AR w M β h (.p (.int k n)) (.int k n):=.p _ _ (.int k n)
theorem AR.bool(b:Bool):AR w M β h (.p (.bool b)) (.bool b):=.p _ _ (.bool b)
theorem AR.str(s:ByteArray):AR w M β h (.p (.str s)) (.string s):=.p _ _ (.str s)
theorem Qn:∀(x y:List UInt8),CW x y=Op.bytesLess x y
 |[],[]=>rfl
 |_::_,[]=>rfl
 |[],_::_=>rfl
 |a::x,b::y=>by simp[CW,Op.bytesLess,Qn x y]
theorem ajH{op:UnOp}(f:AR w M β h x c):aj P w M β h (P9 op x) (Op.unary op c):=by
 unfold P9;split
 .rw[f.BI];exact aj.ret (.int _ _) (by simp[Op.unary,Op.intArith])
 .rw[f.Dh];exact aj.ret (.bool _) (by simp[Op.unary])
 .exact aj.fail
theorem ZR{j:IntKind}{a b:Int}(f:ZI op j a b=some v)(t:TypeId):∃c,VR w M v c/\(binOp op t (.int j a) (.int j b)).run P w=.ok c w:=by
 unfold ZI at f
 split at f<;>first
  |(cases f;exact⟨_,.int _ _,by simp[binOp,Op.intArith,Op.intBits]⟩)
  |(cases f;exact⟨_,.bool _,by simp[binOp,Op.intCmp]⟩)
  |cases f
theorem ZT{a b:ByteArray}(f:ZJ op a b=some v)(t:TypeId):∃c,VR w M v c/\(binOp op t (.string a) (.string b)).run P w=.ok c w:=by
 unfold ZJ at f
 split at f<;>first
  |(cases f;exact⟨_,.bool _,by simp[binOp,Op.stringOp,Qn]⟩)
  |cases f
theorem acP(ok:bJ P T){d:Nat}{x y:PV}{p m:Value}(f:xR (und T t) x y=some b)(j:VR w M x p)(g:VR w M y m) :
    (Op.equalIn (d+1) t p m).run P w=.ok b w:=by
  unfold xR at f;split at f
  .cases j;cases g;split at f
   .rename_i h;rename_i r x1 q u _ _;by_cases l:r=q
    .subst l;simp at f;subst f;exact run_equalIn_int w d t _ _ _ _ (ok.und h)
    grind
   .cases f
  .cases j;cases g;split at f
   .rename_i h;cases f;exact run_equalIn_bool w d t _ _ (ok.und h)
   .cases f
  .cases j;cases g;split at f
   .rename_i h;cases f;rw[run_equalIn_string w d t _ _ (ok.und h),beq_toListBytes]
   .cases f
  .cases f
theorem getD_some{vs:Array Value}{i:Nat}(h:i<vs.size):vs[i]?=some (vs.getD i undef):=by simp_all
def Rep(P:Program)(w:World)(M:Nat->Prop)(t:TypeId)(xs:List PV)(v:Value):Prop:=
 if wz P t=true then ∃vs:Array Value,v=.agg vs/\vs.size=xs.length/\∀(i:Nat) (c:PV),xs[i]?=some c->VR w M c (vs.getD i undef)else ∃x,xs=[x]/\VR w M x v
theorem abz(ok:bJ P T){g:TypeId->List PV->List PV->Option Bool}{gp:TypeId->Bool}{d:Nat}{xs ys:Array Value}
    (W:∀t as j b L K,gp t=true->g t as j=some b->Rep P w M t as L->Rep P w M t j K->(Op.equalIn d t L K).run P w=.ok b w)(V:∀t,gp t=true->∃Y,P.underlying t=some Y)
    (J:∀t,gp t=true->wz P t=false->∀as j b,g t as j=some b->∃x y,as=[x]/\j=[y]) :
    ∀(B:List Field) (o:Nat) (as j:List PV) (r:Bool),OA (λt=>(P.info? t).map (·.size)) gp o B=true ->
    (∀(i:Nat) (c:PV),as[i]?=some c->VR w M c (xs.getD (o+i) undef))->(∀(i:Nat) (c:PV),j[i]?=some c->VR w M c (ys.getD (o+i) undef)) ->
    o+as.length=xs.size->o+j.length=ys.size->RX (oK T) g B as j=some r->(Op.eqFields d xs ys B).run P w=.ok r w
  |[],o,as,j,r,_,_,_,_,_,he=>by cases as<;>cases j<;>simp[RX]at he;subst he;simp[Op.eqFields]
  |f::B,o,as,j,r,hp,ha,hb,h3,h4,he=>by
   unfold RX at he;unfold OA at hp;cases O:oK T f.type with
   |none=>rw[O]at he;simp at he
   |some n=>
   obtain⟨ti,E,F⟩:=ok.size O;rw[O]at he;simp only at he;cases u:(Nat.ble n as.length&&Nat.ble n j.length)with
   |false=>rw[u]at he;cases he
   |true=>
   rw[u,qCt]at he;rw[qBa,Nat.ble_eq,Nat.ble_eq]at u;obtain⟨R,Q⟩:=u;simp only[E,Option.map_some,F,qBa,beq_iff_eq,bne_iff_ne,ne_eq]at hp;obtain⟨z,hname,A,hrest⟩:=hp;cases H:g f.type (as.take n) (j.take n)with
   |none=>rw[H]at he;simp at he
   |some b1=>
   cases N:RX (oK T) g B (as.drop n) (j.drop n)with
   |none=>rw[H,N]at he;simp at he
   |some b2=>
   rw[H,N]at he;simp only[qOa]at he;obtain⟨Y,I⟩:=V _ A;have hpart:∀(p:Array Value) (cs:List PV),n<=cs.length->(wz P f.type=false->∃x,cs.take n=[x])->(∀(i:Nat) (c:PV),cs[i]?=some c->VR w M c (p.getD (o+i) undef))->o+cs.length=p.size->∃v,(part f.type p f.offset).run P w=.ok v w/\Rep P w M f.type (cs.take n) v:=by
    intro p cs hle m X hsize;cases l:wz P f.type with
    |true=>
     refine⟨.agg (p.extract o (o+n)),?_,?_⟩
     .simp only[part,Sem.run_bind,lg I,l,qRa,if_true,fZ E,F,z,Sem.run_pure]
     .unfold Rep;rw[if_pos l];refine⟨_,rfl,by simp only[Array.size_extract,List.length_take];omega,λi c hi=>?_⟩;rw[List.getElem?_take]at hi;split at hi
      .rename_i hlt;have G:=(qLa.1 hi).1;have:=X i c hi;have e:(p.extract o (o+n)).getD i undef=p.getD (o+i) undef:=by
        have J:i<(p.extract o (o+n)).size:=by simp only[Array.size_extract];omega
        have h2:o+i<p.size:=ω
        simp only[Array.getD,J,h2,dite_true];exact Array.getElem_extract ..
       rw[e];exact this
      .cases hi
    |false=>
     obtain⟨x,U⟩:=m l;have D:cs[0]?=some x:=by
      have:(cs.take n)[0]?=some x:=by rw[U];rfl
      rw[List.getElem?_take]at this;split at this
      .exact this
      .cases this
     have G:=(qLa.1 D).1;refine⟨p.getD o undef,?_,?_⟩
     .simp only[part,Sem.run_bind,lg I,l,qRa,Bool.false_eq_true,if_false,z,getD_some (by omega:o<p.size),Sem.run_pure]
     .unfold Rep;rw[l,if_neg σ];exact⟨x,U,by simpa using X 0 x D⟩
   have m:wz P f.type=false->(∃x,as.take n=[x])/\∃y,j.take n=[y]:=by intro q;obtain⟨x,y,e1,e2⟩:=J _ A q _ _ _ H;exact⟨⟨x,e1⟩,⟨y,e2⟩⟩
   obtain⟨L,pa,ra⟩:=hpart xs as R (λq=>(m q).1) ha h3;obtain⟨K,pb,Z⟩:=hpart ys j Q (λq=>(m q).2) hb h4;have S:=W _ _ _ _ _ _ A H ra Z;simp only[Op.eqFields,hname,ne_eq,not_false_eq_true,if_true,Sem.run_bind,pa,pb,S,qRa,Sem.run_ite];cases b1
   .simp at he;subst he;rfl
   .simp at he;subst he;exact abz ok W V J B (o+n) (as.drop n) (j.drop n) b2 hrest (λi c hi=>by
     rw[List.getElem?_drop]at hi;have:=ha (n+i) c hi;rwa[show o+(n+i)=o+n+i by omega]at this) (λi c hi=>by
     rw[List.getElem?_drop]at hi;have:=hb (n+i) c hi;rwa[show o+(n+i)=o+n+i by omega]at this) (by simp only[List.length_drop];omega) (by simp only[List.length_drop];omega) N
theorem ZU(ok:bJ P T):∀(n d:Nat) (t:TypeId) (as l:List PV) (b:Bool) (q p:Value),Ez P n t=true->TR T n t as l=some b->Rep P w M t as q->Rep P w M t l p->(Op.equalIn (d+n) t q p).run P w=.ok b w
 |0,d,t,as,l,b,q,p,hp,_,_,_=>by simp[Ez]at hp
 |n+1,d,t,as,l,b,q,p,hp,he,ra,rb=>by
  unfold TR at he;unfold Ez at hp;split at he
  .rename_i B j;have j:=ok.und j;rw[j]at hp;simp only[qBa,qBb]at hp;have f:wz P t=true:=by unfold wz;rw[j]
   unfold Rep at ra rb;rw[if_pos f]at ra rb;obtain⟨vs,rfl,J,G⟩:=ra;obtain⟨K,rfl,I,F⟩:=rb;have u:P.fieldsOf t=B:=by simp[Program.fieldsOf,j]
   rw[<-Nat.add_assoc,run_equalIn_struct w (d+n) t vs K (by rw[u];exact j) hp.1,u];refine abz ok (g:=TR T n) (gp:=Ez P n) (λt as l b q p G F O h4=>ZU ok n d t as l b q p G F O h4) (λt r=>?_) (λt r m as l b z=>?_) B.toList 0 as l b hp.2 (λi c hi=>by simpa using G i c hi) (λi c hi=>by simpa using F i c hi) ω ω he
   .cases n with
    |zero=>simp[Ez]at r
    |succ n=>
     unfold Ez at r;cases A:P.underlying t with
     |none=>rw[A]at r;simp at r
     |some H=>exact⟨H,rfl⟩
   .cases n with
    |zero=>simp[TR]at z
    |succ n=>
     unfold TR at z;split at z
     .rename_i Q D;have:=ok.und D;unfold wz at m;rw[this]at m;simp at m
     .split at z
      .exact⟨_,_,rfl,rfl⟩
      .cases z
  .rename_i E;split at he
   .rename_i x y;have f:wz P t=false:=by
     unfold wz;cases A:P.underlying t with
     |none=>rfl
     |some H=>
      rw[A]at hp
      cases H<;>first
       |rfl
       |(simp at hp;done)
       |(rename_i B
         exfalso;cases j:und T t with
         |none=>rw[j]at he;unfold xR at he;cases x<;>cases y<;>simp at he
         |some U=>have:=ok.und j;rw[A]at this;cases this;exact E B j)
    unfold Rep at ra rb;rw[f,if_neg σ]at ra rb;obtain⟨S,J,N⟩:=ra;obtain⟨R,I,L⟩:=rb;cases J;cases I;exact acP ok (d:=d+n) he N L
   .cases he
theorem afl(ok:bJ P T)(K J:Operand)(F:AR w M β h x c)(E:AR w M β h y d) :
    aj P w M β h (BA T op t x y) (do eqGuard op t K J c d;binOp op t c d):=by
  have guard:∀(I H:Value),(∀u v,I≠.agg u\/H≠.agg v)->(I≠.nilIface\/H≠.nilIface)->(eqGuard op t K J I H).run P w=.ok () w:=by
   intro I H l f
   cases op<;>first
    |(simp[eqGuard];done)
    |(cases I <;> first
       |(simp[eqGuard];done)
       |(cases H<;>first |(simp[eqGuard];done) |(rcases l _ _ with l |l<;>exact absurd rfl l) |(rcases f with f |f<;>exact absurd rfl f)))
  unfold BA;split
  .rename_i j a i b;rw[F.BI,E.BI];have g:=guard (.int j a) (.int i b) σ σ;split
   .refine aj.chk λD=>aj.ret (.int _ _) ?_;have q:¬b<0:=by simpa using D
    simp only[Sem.run_bind,g,qRa,binOp,Op.shift,if_neg q];simp
   .refine aj.chk λD=>aj.ret (.int _ _) ?_;have q:¬b<0:=by simpa using D
    simp only[Sem.run_bind,g,qRa,binOp,Op.shift,if_neg q];simp
   .refine aj.chk λU=>aj.chk λD=>aj.ret (.int _ _) ?_;simp_all[binOp,Op.intDiv]
   .refine aj.chk λU=>aj.chk λD=>aj.ret (.int _ _) ?_;simp_all[binOp,Op.intDiv]
   .refine aj.chk λU=>?_;have S:j=i:=by simpa using U
    subst S;split
    .rename_i v L;obtain⟨e,l,f⟩:=ZR (P:=P) (w:=w) (M:=M) L t;exact aj.ret (.p _ _ l) (by simp only[Sem.run_bind,g,qRa];exact f)
    .exact aj.fail
  .rename_i a b;rw[F.Um,E.Um];have g:=guard (.string a) (.string b) σ σ;split
   .refine aj.chk λD=>aj.ret (.str _) ?_;have q:a.size+b.size<=4611686018427387904:=by simpa using D
    have:¬((a.size+b.size:Nat):Int) > IntKind.i64.max:=by
     have:IntKind.i64.max=9223372036854775807:=δ
     omega
    simp_all[Sem.run_bind,qRa,binOp,Op.stringOp]
   .split
    .rename_i v L;obtain⟨e,l,f⟩:=ZT (P:=P) (w:=w) (M:=M) L t;exact aj.ret (.p _ _ l) (by simp only[Sem.run_bind,g,qRa];exact f)
    .exact aj.fail
  .rename_i a b;rw[F.Dh,E.Dh];have g:=guard (.bool a) (.bool b) σ σ;split
   .rename_i m;exact aj.ret (.bool _) (by simp[g,binOp,run_equal_bool w t a b (ok.und m)])
   .rename_i m;exact aj.ret (.bool _) (by simp[g,binOp,run_equal_bool w t a b (ok.und m)])
   .exact aj.fail
  .rename_i as V;cases F with
   |p _ _ F=>
   cases E with
   |p _ _ E=>
   cases F with
   |agg _ vs R X l=>
   cases E with
   |agg _ B Q W f=>
   refine aj.chk λhp=>?_;have hp:=ok.plain hp;split
   .rename_i Z m;have m:=ok.und m;have Y:P.fieldsOf t=Z:=by simp[Program.fieldsOf,m]
    unfold P8 at hp;rw[m]at hp;simp only[qBa,qBb]at hp;obtain⟨O,N⟩:=hp;have A:wz P t=true:=by unfold wz;rw[m]
    have g:(eqGuard op t K J (.agg vs) (.agg B)).run P w=.ok () w:=run_eqGuard_agg w op t K J vs B N;have z:∀r,TR T 4 t as V=some r->(Op.equalIn 10000 t (.agg vs) (.agg B)).run P w=.ok r w:=by intro r G;exact ZU ok 4 9996 t as V r (.agg vs) (.agg B) O G (by unfold Rep;rw[if_pos A];exact⟨vs,rfl,R,l⟩) (by unfold Rep;rw[if_pos A];exact⟨B,rfl,Q,f⟩)
    split
    .rename_i r G;exact aj.ret (.bool _) (by simp only[Sem.run_bind,g,qRa,run_eql_struct w t vs B,z r G])
    .rename_i r G;exact aj.ret (.bool _) (by simp only[Sem.run_bind,g,qRa,run_neq_struct w t vs B,z r G])
    .exact aj.fail
   .exact aj.fail
  .exact aj.fail
theorem IB(ok:bJ P T)(G z:Operand)(j:AR w M β h x c)(l:AR w M β h y d) :
    aj P w M β h (CX T op t (isLit z) x y) (do eqGuard op t G z c d;binOp op t c d):=by
  have guard:∀(D B:Value),(∀u v,D≠.agg u\/B≠.agg v)->(D≠.nilIface\/B≠.nilIface)->(eqGuard op t G z D B).run P w=.ok () w:=by
   intro D B F E
   cases op<;>first
    |(simp[eqGuard];done)
    |(cases D <;> first
       |(simp[eqGuard];done)
       |(cases B<;>first |(simp[eqGuard];done) |(rcases F _ _ with F |F<;>exact absurd rfl F) |(rcases E with E |E<;>exact absurd rfl E)))
  unfold CX;split
  .rename_i x;cases l with
   |p _ _ l=>
   cases l;cases j with
   |p _ _ j=>
   have m:=guard c .nilFunc (λ_ _=>.inr σ) (.inr σ);have run:∀(p r:Array TypeId) (b:Bool),P.underlying t=some (.func p r b)->x.isF=true->(Op.equal t c .nilFunc).run P w=.ok x.Ew w:=by
    intro p r b g f;have key:∀d,(Op.equalIn (d+1) t c .nilFunc).run P w=.ok x.Ew w:=λd=>by cases j<;>first |(simp[PV.isF]at f;done) |simp[Op.equalIn,aW g,PV.Ew]
    exact key 9999
   have q:∀o,(o=.eql\/o=.neq)->binOp o t c .nilFunc=(match o with |.eql=>(do pure (.bool (<-Op.equal t c .nilFunc)):Sem Value) |_=>(do pure (.bool (!(<-Op.equal t c .nilFunc))):Sem Value)):=by intro o A;rcases A with rfl|rfl<;>(cases j<;>rfl)
   split
   .rename_i g;refine aj.chk λf=>aj.ret (.p _ _ (.bool _)) ?_;simp only[Sem.run_bind,m,qRa,q .eql (.inl rfl),run _ _ _ (ok.und g) f,Sem.run_pure]
   .rename_i g;refine aj.chk λf=>aj.ret (.p _ _ (.bool _)) ?_;simp only[Sem.run_bind,m,qRa,q .neq (.inr rfl),run _ _ _ (ok.und g) f,Sem.run_pure]
   .exact aj.fail
  .rename_i x;cases l with
   |p _ _ l=>
   cases l;cases j with
   |p _ _ j=>
   have m:isLit z=true->(eqGuard op t G z c .nilIface).run P w=.ok () w:=by intro H;cases z<;>simp[isLit]at H;cases op<;>first |(simp[eqGuard];done) |(cases c<;>simp[eqGuard])
   have run:∀I,P.underlying t=some (.interface I)->x.isI=true->(Op.equal t c .nilIface).run P w=.ok x.Ib w:=by
    intro I g f;have key:∀d,(Op.equalIn (d+1) t c .nilIface).run P w=.ok x.Ib w:=λd=>by cases j<;>first |(simp[PV.isI]at f;done) |simp[Op.equalIn,aW g,PV.Ib]
    exact key 9999
   have q:∀o,(o=.eql\/o=.neq)->binOp o t c .nilIface=(match o with |.eql=>(do pure (.bool (<-Op.equal t c .nilIface)):Sem Value) |_=>(do pure (.bool (!(<-Op.equal t c .nilIface))):Sem Value)):=by intro o A;rcases A with rfl|rfl<;>(cases j<;>rfl)
   split
   .rename_i g;refine aj.chk λf=>?_;simp only[qBa]at f;refine aj.ret (.p _ _ (.bool _)) ?_;simp only[Sem.run_bind,m f.1,qRa,q .eql (.inl rfl),run _ (ok.und g) f.2,Sem.run_pure]
   .rename_i g;refine aj.chk λf=>?_;simp only[qBa]at f;refine aj.ret (.p _ _ (.bool _)) ?_;simp only[Sem.run_bind,m f.1,qRa,q .neq (.inr rfl),run _ (ok.und g) f.2,Sem.run_pure]
   .exact aj.fail
  .rename_i a ks xs;cases l with
   |p _ _ l=>
   cases l;cases j with
   |p _ _ j=>
   have m:=guard c (.slice none 0 0) (λ_ _=>.inr σ) (.inr σ);have run:∀e,P.underlying t=some (.slice e)->0<xs.length->(Op.equal t c (.slice none 0 0)).run P w=.ok false w:=by
    intro e g H;have key:∀d,(Op.equalIn (d+1) t c (.slice none 0 0)).run P w=.ok false w:=λd=>by
     cases j with
     |list=>simp[Op.equalIn,aW g]
     |iM=>simp at H
    exact key 9999
   have q:∀o,(o=.eql\/o=.neq)->binOp o t c (.slice none 0 0)=(match o with |.eql=>(do pure (.bool (<-Op.equal t c (.slice none 0 0))):Sem Value) |_=>(do pure (.bool (!(<-Op.equal t c (.slice none 0 0)))):Sem Value)):=by intro o A;rcases A with rfl|rfl<;>(cases j<;>rfl)
   split
   .rename_i g;refine aj.chk λf=>aj.ret (.p _ _ (.bool _)) ?_;simp only[Sem.run_bind,m,qRa,q .eql (.inl rfl),run _ (ok.und g) (Nat.le_of_ble_eq_true f),Sem.run_pure]
   .rename_i g;refine aj.chk λf=>aj.ret (.p _ _ (.bool _)) ?_;simp only[Sem.run_bind,m,qRa,q .neq (.inr rfl),run _ (ok.und g) (Nat.le_of_ble_eq_true f),Sem.run_pure];rfl
   .exact aj.fail
  .exact aj.fail
theorem ahk(ok:bJ P T)(g f:Operand)(l:AR w M β h x c)(j:AR w M β h y d) :
    aj P w M β h (JH T op t (isLit f) x y) (do eqGuard op t g f c d;binOp op t c d):=by
  unfold JH;split
  .exact IB ok g f l j
  .exact IB ok g f l j
  .exact IB ok g f l j
  .exact afl ok g f l j
end
end
end Go.Skm
