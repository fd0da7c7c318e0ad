import Derived.Orders
import Derived.WalkKit
set_option linter.all false
namespace Go.Skm
section
theorem qLa.{u}{α:Type u}{i:Nat}{a:α}{l:List α}:l[i]?=some a↔∃h:i<l.length,l[i]=a:=List.getElem?_eq_some_iff 
theorem qAa.{u}{α:Type u}{i:Nat}{b:α}{xs:Array α}:xs[i]?=some b↔∃h:i<xs.size,xs[i]=b:=Array.getElem?_eq_some_iff 
theorem qBa(a b:Bool):((a&&b)=true)=(a=true/\b=true):=Bool.and_eq_true a b
theorem qLb.{u}{α:Type u}{l:List α}{i:Nat}{a:α}:l.getD i a=l[i]?.getD a:=List.getD_eq_getElem?_getD 
theorem qAb.{u}{α:Type u}{xs:Array α}{i:Nat}{d:α}:xs.getD i d=xs[i]?.getD d:=Array.getD_eq_getD_getElem? 
theorem qLd.{u}{α:Type u}{l:List α}{i:Nat}(h:i<l.length):l[i]?=some l[i]:=List.getElem?_eq_getElem h
theorem qRa{α β:Type}(a:α)(w:Go.World)(f:α->Go.World->Go.Result β):(Go.Result.ok a w).andThen f=f a w:=Go.Result.andThen_ok a w f
theorem qOa.{u}{α:Type u}(a b:α):(some a=some b)=(a=b):=Option.some.injEq a b
theorem qAe.{u}{α:Type u}{xs:Array α}{i j:Nat}(h:i≠j){a:α}:(xs.setIfInBounds i a)[j]?=xs[j]?:=Array.getElem?_setIfInBounds_ne h
theorem qLe.{u}{α:Type u}{l:List α}{i:Nat}{a:α}(h:l[i]?=some a):a∈l:=List.mem_of_getElem? h
theorem qBb(b:Bool):((!b)=true)=(b=false):=Bool.not_eq_true' b
theorem qDa{p:Prop}[Decidable p]:(decide p=true)=p:=decide_eq_true_eq 
theorem qOb.{u}{α β:Type u}(a:α)(f:α->Option β):(some a).bind f=f a:=Option.bind_some a f
theorem qLh.{u}{α:Type u}{a d:α}{l:List α}:(a::l).headD d=a:=List.headD_cons 
theorem qCt.{u}{α:Sort u}(a b:α):cond true a b=a:=cond_true a b
theorem qCf.{u}{α:Sort u}(a b:α):cond false a b=b:=cond_false a b
theorem qIt(n:Nat):(n:Int).toNat=n:=Int.toNat_natCast n
theorem qLz.{u}{α:Type u}{a d:α}{l:List α}:(a::l).getD 0 d=a:=List.getD_cons_zero 
theorem qLp.{u}{α:Type u}{a b:List α}:(a++b).length=a.length+b.length:=List.length_append 
theorem qLl.{u}{α:Type u}{a:α}{l:List α}:(a::l).length=l.length+1:=List.length_cons 
theorem qBs(b:Bool):(b&&b)=b:=Bool.and_self b
theorem qNr(n:Nat):n<=n:=Nat.le_refl n
theorem qNz(n:Nat):0+n=n:=Nat.zero_add n
theorem qBt :(!true)=false:=Bool.not_true 
theorem qBf :(!false)=true:=Bool.not_false 
theorem qNm(x:Nat){y:Nat}(h:0<y):x%y<y:=Nat.mod_lt x h
theorem qLm.{u}{α β:Type u}{l:List α}(f:α->β):(l.map f).length=l.length:=List.length_map f
theorem qLy.{u}{α:Type u}{l:List α}:l.drop 0=l:=List.drop_zero 
inductive Kd where
 | int (k:IntKind)
 | bool
 | str
 | slice (a:Bool) (ks:List Kd)
 | other
 deriving Inhabited
mutual
def Kd.beq:Kd->Kd->Bool
 | .int j,.int k=>j==k
 | .bool,.bool=>true
 | .str,.str=>true
 | .slice a ks,.slice b ls=>a==b&&Kd.Fe ks ls
 | .other,.other=>true
 | _,_=>false
def Kd.Fe:List Kd->List Kd->Bool
 |[],[]=>true
 | k::ks,l::ls=>Kd.beq k l&&Kd.Fe ks ls
 | _,_=>false
end
inductive PV where
 | bool (b:Bool)
 | int (k:IntKind) (n:Int)
 | str (s:ByteArray)
 | agg (cs:List PV)
 | list (a:Bool) (ks:List Kd) (xs:List PV)
 | full (a:Bool) (ks:List Kd) (xs:List PV)
 | nil
 | fn (f:Nat) (caps:List PV)
 | ref (cs:List PV)
 | aau
 | sF
 deriving Inhabited
def PV.cells:PV->List PV
 | .agg cs=>cs
 | v=>[v]
def PV.cell:PV->Nat->PV
 | .agg cs,j=>cs.getD j .nil
 | v,_=>v
def PV.toInt:PV->Int
 | .int _ n=>n
 | _=>0
def PV.toBool:PV->Bool
 | .bool b=>b
 | _=>false
def PV.toStr:PV->ByteArray
 | .str s=>s
 | _=>ByteArray.empty
def PV.toList:PV->List PV
 | .list _ _ xs=>xs
 | .full _ _ xs=>xs
 | _=>[]
def PV.cap:PV->Nat->PV
 | .fn _ cs,j=>cs.getD j .nil
 | _,_=>.nil
def PV.iF:PV->Nat->PV
 | .ref cs,j=>cs.getD j .nil
 | v,_=>v
def PV.isF:PV->Bool
 | .fn _ _=>true
 | .sF=>true
 | _=>false
def PV.Wp:PV->Bool
 | .sF=>true
 | _=>false
def eta:Kd->PV->PV
 | .int k,v=>.int k v.toInt
 | .bool,v=>.bool v.toBool
 | .str,v=>.str v.toStr
 | .slice a ks,v=>.list a ks v.toList
 | .other,v=>v
def kP:List Kd->PV->Nat->List PV
 |[],_,_=>[]
 | k::ks,x,j=>eta k (x.cell j)::kP ks x (j+1)
def kindOk:Kd->PV->Bool
 | .int j,.int k _=>j==k
 | .bool,.bool _=>true
 | .str,.str _=>true
 | .slice a ks,.list b ls _=>a==b&&Kd.Fe ks ls
 | .slice _ _,.nil=>true
 | .other,.agg _=>false
 | .other,_=>true
 | _,_=>false
def gV:List Kd->List PV->Bool
 |[],[]=>true
 | k::ks,v::vs=>kindOk k v&&gV ks vs
 | _,_=>false
def Fv:List Kd->PV->Nat->List PV
 |[],_,_=>[]
 | k::ks,x,j=>eta k (x.iF j)::Fv ks x (j+1)
def aeB:Bool × List Kd->PV->PV
 |(true,ks),v=>.ref (Fv ks v 0)
 |(false,[k]),v=>eta k v
 | _,v=>v
def CX:List (Bool × List Kd)->PV->Nat->List PV
 |[],_,_=>[]
 | s::r,x,j=>aeB s (x.cap j)::CX r x (j+1)
def acH:Bool × List Kd->PV->Bool
 |(true,ks),.ref cs=>gV ks cs
 |(false,[k]),v=>kindOk k v
 | _,_=>false
def JU:List (Bool × List Kd)->List PV->Bool
 |[],[]=>true
 | s::r,v::vs=>acH s v&&JU r vs
 | _,_=>false
def bY:Bool->List Kd->PV->Bool
 | true,ks,.agg cs=>gV ks cs
 | true,_,_=>false
 | false,[k],v=>kindOk k v
 | false,_,_=>false
inductive AV where
 | undef
 | p (v:PV)
 | slice (s z off len:Nat)
 | bslice (s off len:Nat)
 | ptr (s idx off:Nat)
 | rE (a:Bool) (ks:List Kd) (x:PV) (off:Nat)
 | fn (f:Nat) (caps:List AV)
 | agg (cs:List AV)
 | vM (vs:List AV)
 | fresh (a:Bool) (ks:List Kd) (xs:List PV)
 | yL
 deriving Inhabited
inductive bZ where
 | box (cs:List AV)
 | arr (a:Bool) (ks:List Kd) (xs:List PV)
 | log (on:Bool) (xs:List PV)
 deriving Inhabited
abbrev Heap:=List (Nat × bZ)
structure St where
 env:List AV
 heap:Heap
inductive Ex where
 | normal
 | exit (id:Nat)
 | ret
structure Eff where
 val:AV
 uz:List (Nat × bZ):=[]
 new:List Nat:=[]
 cut:List Nat:=[]
 Ip:List Nat:=[]
def look:Heap->Nat->Option bZ
 |[],_=>none
 |(k,b)::h,s=>bif k==s then some b else look h s
def put:Heap->Nat->bZ->Heap
 |[],s,b=>[(s,b)]
 |(k,c)::h,s,b=>bif k==s then(s,b)::h else(k,c)::put h s b
def drop1:Heap->Nat->Heap
 |[],_=>[]
 |(k,c)::h,s=>bif k==s then drop1 h s else(k,c)::drop1 h s
def gZ:Heap->List (Nat × bZ)->Heap
 | h,[]=>h
 | h,(s,b)::r=>gZ (put h s b) r
def sG:Heap->List Nat->Heap
 | h,[]=>h
 | h,s::r=>sG (drop1 h s) r
def l7:Nat->List Nat->Bool
 | _,[]=>false
 | x,y::r=>bif x==y then true else l7 x r
mutual
def AV.refers(ss:List Nat):AV->Bool
 | .slice s _ _ _=>l7 s ss
 | .bslice s _ _=>l7 s ss
 | .ptr s _ _=>l7 s ss
 | .fn _ cs=>AV.kY ss cs
 | .agg cs=>AV.kY ss cs
 | .vM cs=>AV.kY ss cs
 | _=>false
def AV.kY(ss:List Nat):List AV->Bool
 |[]=>false
 | v::r=>AV.refers ss v||AV.kY ss r
end
def AV.kill(ss:List Nat)(v:AV):AV:=bif AV.refers ss v then .undef else v
def jQ(ss:List Nat):List AV->List AV
 |[]=>[]
 | v::r=>AV.kill ss v::jQ ss r
def bZ.kill(ss:List Nat):bZ->bZ
 | .box cs=>.box (jQ ss cs)
 | b=>b
def jL(ss:List Nat):Heap->Heap
 |[]=>[]
 |(k,b)::h=>(k,b.kill ss)::jL ss h
def St.kill(ss:List Nat)(st:St):St:=
 match ss with
 |[]=>st
 | _=>{env:=jQ ss st.env,heap:=jL ss st.heap}
def setEnv(env:List AV)(d:Option Nat)(v:AV):List AV:=
 match d with
 | some d=>env.set d v
 | none=>env
def St.strike(ss:List Nat)(st:St):St:=
 match ss with
 |[]=>st
 | ss=>{env:=jQ ss st.env,heap:=sG (jL ss st.heap) ss}
def present(h:Heap):List Nat->List Nat
 |[]=>[]
 | s::r=>match look h s with
  | some _=>s::present h r
  | none=>present h r
def St.apply(st:St)(d:Option Nat)(e:Eff):St:=
 let st1:=(st.strike (present st.heap e.new++e.Ip)).kill e.cut
 {env:=setEnv st1.env d e.val,heap:=gZ st1.heap e.uz}
def Jb(s d x:Nat):Nat:=bif x==s then d else x
mutual
def AV.ren(s d:Nat):AV->AV
 | .slice x z o l=>.slice (Jb s d x) z o l
 | .bslice x o l=>.bslice (Jb s d x) o l
 | .ptr x i o=>.ptr (Jb s d x) i o
 | .fn f cs=>.fn f (AV.ML s d cs)
 | .agg cs=>.agg (AV.ML s d cs)
 | .vM cs=>.vM (AV.ML s d cs)
 | v=>v
def AV.ML(s d:Nat):List AV->List AV
 |[]=>[]
 | v::r=>AV.ren s d v::AV.ML s d r
end
def bZ.ren(s d:Nat):bZ->bZ
 | .box cs=>.box (AV.ML s d cs)
 | b=>b
def wz(s d:Nat):Heap->Heap
 |[]=>[]
 |(k,b)::h=>(Jb s d k,b.ren s d)::wz s d h
def St.Q8(st:St)(s d:Nat):St:=
 let st1:=st.strike [d]
 {env:=AV.ML s d st1.env,heap:=wz s d st1.heap}
def zS(live:List Nat):Nat->List AV->List AV
 | _,[]=>[]
 | i,v::r=>(bif l7 i live then v else .undef)::zS live (i+1) r
def Q9(sites:List Nat):Heap->List Nat
 |[]=>[]
 |(k,_)::h=>bif l7 k sites then Q9 sites h else k::Q9 sites h
def St.forget(st:St)(live sites:List Nat):St:=
 let st1:St:={st with env:=zS live 0 st.env}
 st1.strike (Q9 sites st1.heap)
inductive nC where
 | deep
 | fresh
 | alias (j:Nat)
 | func (g:Nat) (ss:List (Bool × List Kd))
 deriving Inhabited
inductive Prim where
 | none
 | carry (sub:Bool)
 deriving Inhabited
def nS(sub:Bool)(x y c:Nat):Nat:=cond sub ((x+18446744073709551616-y-c)%18446744073709551616) ((x+y+c)%18446744073709551616)
def pq(sub:Bool)(x y c:Nat):Nat:=cond sub (if x<y+c then 1 else 0) ((x+y+c) / 18446744073709551616)
def Prim.is:Prim->Bool
 | .none=>false
 | _=>true
structure Jc where
 D9:Bool:=false
 shares:Bool:=false
 rets:List nC:=[]
 nvars:Nat:=0
 yk:List (Bool × List Kd):=[]
 ys:List Nat:=[]
 cuts:List (Nat × List Nat × List Nat):=[]
 frzs:List Nat:=[]
 Nr:Prim:=.none
 quiet:Bool:=false
 vcall:Bool:=false
 gext:Bool:=false
 take:Bool:=false
 deriving Inhabited
structure TI where
 desc:TypeDesc
 size:Nat
 bytes:Nat
 agg:Bool
 sh:Bool × List Kd
 zero:Option PV
 plain:Bool
structure FI where
 fn:Func
 cfg:Jc
 hides:List (Nat × List (List Nat)):=[]
structure Tab where
 types:List (Nat × TI)
 funcs:List (Nat × FI)
 strict:Bool:=false
 owns:List (Nat × Nat):=[]
 calcs:List Nat:=[]
 glob:Bool->World->Prop:=λ_ _=>True
def dZ{β:Type}:List (Nat × β)->Nat->Option β
 |[],_=>none
 |(k,x)::r,s=>bif k==s then some x else dZ r s
def aav:Value->Option PV
 | .bool b=>some (.bool b)
 | .int k n=>some (.int k n)
 | .string s=>some (.str s)
 | .slice none 0 0=>some .nil
 | .pointer none=>some .aau
 | .nilFunc=>some .sF
 | _=>none
def GZ:List Value->Option (List PV)
 |[]=>some []
 | v::r=>match aav v,GZ r with
  | some x,some xs=>some (x::xs)
  | _,_=>none
def ofValue:Value->Option PV
 | .agg cs=>(GZ cs.toList).map .agg
 | v=>aav v
section
variable (P:Program)
def EF(t:TypeId):Bool:=
 match P.underlying t with
 | some (.struct _)=>true
 | some (.array _ _)=>true
 | _=>false
def dO:Nat->TypeId->Bool × List Kd
 | 0,_=>(false,[.other])
 | n+1,t =>
  match P.underlying t with
  | some (.int k)=>(false,[.int k])
  | some .bool=>(false,[.bool])
  | some .string=>(false,[.str])
  | some (.slice e)=>(false,[.slice (dO n e).1 (dO n e).2])
  | some (.struct fs)=>(true,fs.toList.flatMap λf=>(dO n f.type).2)
  | some (.array len e)=>(true,(List.replicate len (dO n e).2).flatten)
  | _=>(false,[.other])
def Uy(sz:TypeId->Option Nat)(g:TypeId->Bool):Nat->List Field->Bool
 | _,[]=>true
 | o,f::r=>match sz f.type with
  | some n => f.offset == o && (f.name != "_" && (g f.type && Uy sz g (o + n) r))
  | none=>false
def JV:Nat->TypeId->Bool
 | 0,_=>false
 | n+1,t=>match P.underlying t with
  | some (.int _)=>true
  | some .bool=>true
  | some .string=>true
  | some (.struct fs)=>!(P.stoodInHeld t)&&Uy (λt=>(P.info? t).map (·.size)) (JV n) 0 fs.toList
  | _=>false
def aaw(t:TypeId):Bool:=
 match P.underlying t with
 | some (.struct _)=>JV P 4 t&&!(P.eqGuardType P.depth t)
 | _=>false
def alW(t:TypeId):Option TI:=
 match P.underlying t,P.info? t with
 | some d,some i=>some {desc:=d,size:=i.size,bytes:=i.bytes,agg:=EF P t,sh:=dO P 8 t,zero:=i.zero.bind ofValue,plain:=aaw P t}
 | _,_=>none
end
section
variable (T:Tab)
def und(t:TypeId):Option TypeDesc:=(dZ T.types t).map (·.desc)
def yG(t:TypeId):Option Nat:=(dZ T.types t).map (·.size)
def PN(t:TypeId):Option Nat:=(dZ T.types t).map (·.bytes)
def ajL(t:TypeId):Bool:=match dZ T.types t with | some i=>i.agg | none=>false
def dD(t:TypeId):Bool × List Kd:=match dZ T.types t with | some i=>i.sh | none=>(false,[])
def SN(t:TypeId):Option PV:=(dZ T.types t).bind (·.zero)
def aeC(t:TypeId):Bool:=match dZ T.types t with | some i=>i.plain | none=>false
def pI(f:Nat):Jc:=match dZ T.funcs f with | some i=>i.cfg | none=>{}
def dP(env:List AV):Operand->AV
 | .tmp t=>env.getD t .undef
 | .const v=>match ofValue v with
  | some x=>.p x
  | none=>.undef
 | .func f=>.p (.fn f [])
 | .global _=>.undef
def og(env:List AV):List Operand->List AV
 |[]=>[]
 | x::r=>dP env x::og env r
def JW:List AV->Option (List PV)
 |[]=>some []
 | .p v::r=>match JW r with
  | some vs=>some (v::vs)
  | none=>none
 | _=>none
def IW(cs:List AV):AV:=
 match JW cs with
 | some vs=>.p (.agg vs)
 | none=>.agg cs
def AV.Lu:List AV->Bool
 |[]=>true
 | .undef::_=>false
 | .yL::_=>false
 | .vM _::_=>false
 | .fresh _ _ _::_=>false
 | .agg _::_=>false
 | _::r=>AV.Lu r
def AV.ok:AV->Bool
 | .undef=>false
 | .yL=>false
 | .vM _=>false
 | .fresh _ _ _=>false
 | .agg cs=>AV.Lu cs
 | _=>true
def AV.cells:AV->List AV
 | .p (.agg cs)=>cs.map .p
 | .agg cs=>cs
 | v=>[v]
def aax:PV->Kd
 | .int j _=>.int j
 | .bool _=>.bool
 | .str _=>.str
 | _=>.other
def PO(cs:List AV):Option (Kd × List PV):=
 match JW cs with
 | some (v::vs)=>bif (v::vs).all (kindOk (aax v))then some (aax v,v::vs)else none
 | _=>none
def SQ(h:Nat->Option bZ):AV->Option (PV × List Nat)
 | .p v=>some (v,[])
 | .slice s _ off len=>match h s with
  | some (.arr a ks xs)=>some (.list a ks ((xs.drop off).take len),[s])
  | _=>none
 | .bslice s off len=>match h s with
  | some (.box cs)=>match PO cs with
   | some (kd,vs)=>some (.list false [kd] ((vs.drop off).take len),[s])
   | none=>none
  | _=>none
 | _=>none
def Ea(h:Nat->Option bZ):List AV->Option (List PV × List Nat)
 |[]=>some ([],[])
 | v::r=>match SQ h v,Ea h r with
  | some (x,s),some (xs,ss)=>some (x::xs,s++ss)
  | _,_=>none
def PS(h:Nat->Option bZ):AV->Option (PV × List Nat)
 | .ptr s 0 0=>match h s with
  | some (.box cs)=>match Ea h cs with
   | some (vs,ss)=>some (.ref vs,s::ss)
   | none=>none
  | _=>none
 | v=>SQ h v
def JX(h:Nat->Option bZ):List AV->Option (List PV × List Nat)
 |[]=>some ([],[])
 | v::r=>match PS h v,JX h r with
  | some (x,s),some (xs,ss)=>some (x::xs,s++ss)
  | _,_=>none
def deep(h:Nat->Option bZ):AV->Option (PV × List Nat)
 | .agg cs=>match Ea h cs with
  | some (vs,ss)=>some (.agg vs,ss)
  | none=>none
 | .fn f cs=>match JX h cs with
  | some (vs,ss)=>some (.fn f vs,ss)
  | none=>none
 | v=>PS h v
def JY(h:Nat->Option bZ):List AV->Option (List PV × List Nat)
 |[]=>some ([],[])
 | v::r=>match deep h v,JY h r with
  | some (x,s),some (xs,ss)=>some (x::xs,s++ss)
  | _,_=>none
def YS(h:Nat->Option bZ):AV->Option (Option (Bool × List Kd) × Nat × List PV)
 | .slice s _ off len=>match h s with
  | some (.arr a ks xs)=>some (some (a,ks),len,(xs.drop off).take len)
  | _=>none
 | .bslice s off len=>match h s with
  | some (.box cs)=>match PO cs with
   | some (kd,vs)=>some (some (false,[kd]),len,(vs.drop off).take len)
   | none=>none
  | _=>none
 | .p (.list a ks xs)=>some (some (a,ks),xs.length,xs)
 | .p (.full a ks xs)=>some (some (a,ks),xs.length,xs)
 | .p .nil=>some (none,0,[])
 | .p (.str s)=>some (some (false,[.int .u8]),s.size,s.data.toList.map λb=>.int .u8 b.toNat)
 | _=>none
def Iq(o:Option (Bool × List Kd))(a:Bool)(ks:List Kd):Bool:=
 match o with
 | none=>true
 | some (b,ls)=>a==b&&Kd.Fe ks ls
def aeD(op:BinOp)(k:IntKind)(x y:Int):Option PV:=
 match op with
 | .add=>some (.int k (k.wrap (x+y)))
 | .sub=>some (.int k (k.wrap (x-y)))
 | .mul=>some (.int k (k.wrap (x*y)))
 | .and=>some (.int k (k.wrap (BitVec.ofInt k.bits x &&& BitVec.ofInt k.bits y).toNat))
 | .or=>some (.int k (k.wrap (BitVec.ofInt k.bits x ||| BitVec.ofInt k.bits y).toNat))
 | .xor=>some (.int k (k.wrap (BitVec.ofInt k.bits x ^^^ BitVec.ofInt k.bits y).toNat))
 | .andNot=>some (.int k (k.wrap (BitVec.ofInt k.bits x &&& ~~~(BitVec.ofInt k.bits y)).toNat))
 | .eql=>some (.bool (x==y))
 | .neq=>some (.bool (x != y))
 | .lss=>some (.bool (decide (x<y)))
 | .leq=>some (.bool (decide (x<=y)))
 | .gtr=>some (.bool (decide (x > y)))
 | .geq=>some (.bool (decide (x >= y)))
 | _=>none
def Ir:List UInt8->List UInt8->Bool
 | _,[]=>false
 |[],_::_=>true
 | a::x,b::y=>decide (a<b)||(a==b&&Ir x y)
def aeE(op:BinOp)(x y:ByteArray):Option PV:=
 match op with
 | .eql=>some (.bool (x.toList==y.toList))
 | .neq=>some (.bool !(x.toList==y.toList))
 | .lss=>some (.bool (Ir x.toList y.toList))
 | .leq=>some (.bool (Ir x.toList y.toList||x.toList==y.toList))
 | .gtr=>some (.bool !(Ir x.toList y.toList||x.toList==y.toList))
 | .geq=>some (.bool !(Ir x.toList y.toList))
 | _=>none
def aay(d:Option TypeDesc):PV->PV->Option Bool
 | .int j x,.int k y=>match d with
  | some (.int _)=>bif j==k then some (x==y)else none
  | _=>none
 | .bool x,.bool y=>match d with
  | some .bool=>some (x==y)
  | _=>none
 | .str x,.str y=>match d with
  | some .string=>some (x==y)
  | _=>none
 | _,_=>none
def ahs(sz:TypeId->Option Nat)(g:TypeId->List PV->List PV->Option Bool):List Field->List PV->List PV->Option Bool
 |[],[],[]=>some true
 | f::fs,xs,ys=>match sz f.type with
  | some n=>bif Nat.ble n xs.length&&Nat.ble n ys.length then(match g f.type (xs.take n) (ys.take n),ahs sz g fs (xs.drop n) (ys.drop n)with
   | some a,some b=>some (a&&b)
   | _,_=>none)else none
  | none=>none
 | _,_,_=>none
def eqT:Nat->TypeId->List PV->List PV->Option Bool
 | 0,_,_,_=>none
 | n+1,t,xs,ys=>match und T t with
  | some (.struct fs)=>ahs (yG T) (eqT n) fs.toList xs ys
  | d=>match xs,ys with
   |[x],[y]=>aay d x y
   | _,_=>none
inductive DT where
 | fail
 | ret (e:Eff)
 | ite (c:Bool) (x y:DT)
 | call (o:Option (List AV × List bZ)) (f:List AV × List bZ->DT)
def DT.run{α:Type}(k:Eff->Option α):DT->Option α
 | .fail=>none
 | .ret e=>k e
 | .ite c x y=>cond c (DT.run k x) (DT.run k y)
 | .call o f=>match o with
  | some r=>DT.run k (f r)
  | none=>none
abbrev cu(a b:Int):Bool:=decide (a<b)
abbrev leI(a b:Int):Bool:=decide (a<=b)
abbrev mg(a b:Int):Bool:=decide (a > b)
abbrev BJ(a b:Int):Bool:=decide (a >= b)
abbrev Je(a b:Int):Bool:=decide (a=b)
abbrev F5(a b:Nat):Bool:=decide (a<=b)
def chk(c:Bool)(x:DT):DT:=.ite c x .fail
def isLit:Operand->Bool
 | .const _=>true
 | _=>false
def G5(op:BinOp)(t:TypeId)(x y:AV):DT:=
 match x,y with
 | .p (.int j a),.p (.int i b) =>
  match op with
  | .shl=>chk (!(decide (b<0)))<|.ret {val:=.p (.int j (j.wrap (a*2^(min b.toNat j.bits))))}
  | .shr=>chk (!(decide (b<0)))<|.ret {val:=.p (.int j (a.fdiv (2^(min b.toNat j.bits))))}
  | .quo=>chk (j==i)<|chk (!(decide (b=0)))<|.ret {val:=.p (.int j (j.wrap (a.tdiv b)))}
  | .rem=>chk (j==i)<|chk (!(decide (b=0)))<|.ret {val:=.p (.int j (a.tmod b))}
  | op=>chk (j==i)<|match aeD op j a b with
   | some v=>.ret {val:=.p v}
   | none=>.fail
 | .p (.str a),.p (.str b) =>
  match op with
  | .add=>chk (decide (a.size+b.size<=4611686018427387904))<|.ret {val:=.p (.str (a++b))}
  | op=>match aeE op a b with
   | some v=>.ret {val:=.p v}
   | none=>.fail
 | .p (.bool a),.p (.bool b) =>
  match op,und T t with
  | .eql,some .bool=>.ret {val:=.p (.bool (a==b))}
  | .neq,some .bool=>.ret {val:=.p (.bool (!(a==b)))}
  | _,_=>.fail
 | .p (.agg a),.p (.agg b) =>
  chk (aeC T t) <|
   match und T t with
   | some (.struct _) =>
    match op,eqT T 4 t a b with
    | .eql,some r=>.ret {val:=.p (.bool r)}
    | .neq,some r=>.ret {val:=.p (.bool (!r))}
    | _,_=>.fail
   | _=>.fail
 | _,_=>.fail
def LC(op:BinOp)(t:TypeId)(kc:Bool)(x y:AV):DT:=
 match y,x with
 | .p .sF,.p x =>
  match op,und T t with
  | .eql,some (.func _ _ _)=>chk x.isF<|.ret {val:=.p (.bool x.Wp)}
  | .neq,some (.func _ _ _)=>chk x.isF<|.ret {val:=.p (.bool (!x.Wp))}
  | _,_=>.fail
 | .p .nil,.p (.list _ _ xs) =>
  match op,und T t with
  | .eql,some (.slice _)=>chk (Nat.blt 0 xs.length)<|.ret {val:=.p (.bool false)}
  | .neq,some (.slice _)=>chk (Nat.blt 0 xs.length)<|.ret {val:=.p (.bool true)}
  | _,_=>.fail
 | _,_=>.fail
def PU(op:BinOp)(t:TypeId)(kc:Bool)(x y:AV):DT:=
 match y with
 | .p .sF=>LC T op t kc x y
 | .p .nil=>LC T op t kc x y
 | _=>G5 T op t x y
def Wq(op:UnOp)(x:AV):DT:=
 match op,x with
 | .neg,.p (.int j n)=>.ret {val:=.p (.int j (j.wrap (0-n)))}
 | .not,.p (.bool b)=>.ret {val:=.p (.bool (!b))}
 | _,_=>.fail
def Ws(c a b:AV):DT:=
 match c with
 | .p (.bool c) =>
  match a,b with
  | .p (.bool x),.p (.bool y)=>.ret {val:=.p (.bool (cond c x y))}
  | a,b=>.ite c (.ret {val:=a}) (.ret {val:=b})
 | _=>.fail
def Rf(d:Option Nat)(t:TypeId):DT:=
 match d,SN T t with
 | some d,some z=>.ret {val:=.ptr d 0 0,uz:=[(d,.box (AV.p z).cells)],new:=[d]}
 | _,_=>.fail
def aaz(d:Option Nat)(v:AV):DT:=
 match d with
 | some d=>chk (v.ok&&!(AV.refers [d] v))<|.ret {val:=.ptr d 0 0,uz:=[(d,.box v.cells)],new:=[d]}
 | none=>.fail
def patch{β:Type}(cs:List β)(off:Nat)(vs:List β):List β:=cs.take off++vs++cs.drop (off+vs.length)
def MW(place:Nat->Option (Nat × Nat)):List AV->List (Nat × AV)->Option (List AV)
 | cs,[]=>some cs
 | cs,(i,v)::r=>match place i with
  | none=>none
  | some (off,size) =>
   bif v.cells.length==size&&Nat.ble (off+size) cs.length&&v.ok then MW place (patch cs off v.cells) r else none
def jY:List Field->List (Option (Nat × Nat))
 |[]=>[]
 | f::r=>((yG T f.type).map λn=>(f.offset,n))::jY r
def Rh(t:TypeId)(parts:List (Nat × AV)):DT:=
 match SN T t,und T t with
 | some (.agg zs),some (.struct fs) =>
  chk ((jY T fs.toList).all Option.isSome) <|
  match MW (λi=>((jY T fs.toList)[i]?).bind id) (zs.map .p) parts with
  | some cs=>.ret {val:=IW cs}
  | none=>.fail
 | some (.agg zs),some (.array _ e) =>
  match yG T e with
  | some n=>match MW (λi=>some (i*n,n)) (zs.map .p) parts with
   | some cs=>.ret {val:=IW cs}
   | none=>.fail
  | none=>.fail
 | _,_=>.fail
def acI(h:Nat->Option bZ)(a:Bool)(ks:List Kd):List PV->List Nat->List (Nat × AV)->Option (List PV × List Nat)
 | xs,ss,[]=>some (xs,ss)
 | xs,ss,(i,v)::r=>match deep h v with
  | some (x,s)=>bif bY a ks x&&Nat.blt i xs.length then acI h a ks (xs.set i x) (ss++s) r else none
  | none=>none
def Eb(h:Nat->Option bZ)(d:Option Nat)(t:TypeId)(len:Nat)(parts:List (Nat × AV)):DT:=
 match d,und T t with
 | some d,some (.slice e) =>
  match SN T e,yG T e with
  | some z,some n =>
   let sh:=dD T e
   chk (n==sh.2.length&&bY sh.1 sh.2 z&&Nat.ble (len*n) 16777216) <|
    match acI h sh.1 sh.2 (List.replicate len z) [] parts with
    | some (xs,ss)=>.ret {val:=.slice d n 0 len,uz:=[(d,.arr sh.1 sh.2 xs)],new:=[d],Ip:=ss}
    | none=>.fail
  | _,_=>.fail
 | _,_=>.fail
def aaA(t:TypeId)(n:Nat)(a:Bool)(ks:List Kd)(x:PV)(off:Nat):Option PV:=
 bif Nat.ble (off+n) ks.length then
  bif ajL T t then(bif a then some (.agg (kP ((ks.drop off).take n) x off))else none)
  else bif Nat.beq n 1 then(match (ks.drop off).head? with
   | some kd=>some (eta kd (x.cell off))
   | none=>none)else none
 else none
def zT(t:TypeId)(n:Nat)(cs:List AV)(off:Nat):Option AV:=
 bif Nat.ble (off+n) cs.length then
  bif ajL T t then some (IW ((cs.drop off).take n))else(bif Nat.beq n 1 then some (cs.getD off .undef)else none)
 else none
def JZ(h:Nat->Option bZ)(t:TypeId)(ptr:AV):DT:=
 match yG T t with
 | none=>.fail
 | some n =>
  match ptr with
  | .ptr s idx off=>match h s with
   | some (.box cs)=>match zT T t n cs off with
    | some v=>.ret {val:=v}
    | none=>.fail
   | some (.arr a ks xs)=>match aaA T t n a ks (xs.getD idx .nil) off with
    | some v=>.ret {val:=.p v}
    | _=>.fail
   | _=>.fail
  | .rE a ks x off=>match aaA T t n a ks x off with
   | some v=>.ret {val:=.p v}
   | none=>.fail
  | .p (.ref cs)=>match zT T t n (cs.map .p) 0 with
   | some v=>.ret {val:=v}
   | none=>.fail
  | _=>.fail
def Ri(h:Nat->Option bZ)(t:TypeId)(ptr v:AV):DT:=
 match yG T t with
 | none=>.fail
 | some n =>
  chk (v.cells.length==n) <|
   match ptr with
   | .ptr s idx off=>match h s with
    | some (.box cs) =>
     chk (v.ok&&(Nat.beq idx 0&&Nat.ble (off+n) cs.length))<|.ret {val:=.undef,uz:=[(s,.box (patch cs off v.cells))]}
    | some (.arr a ks xs) =>
     match deep h v with
     | some (x,ss) =>
      match a with
      | true =>
       chk (gV ((ks.drop off).take n) x.cells&&(Nat.ble (off+n) ks.length&&!(l7 s ss))) <|
        .ret {val:=.undef,uz:=[(s,.arr a ks (xs.set idx (.agg (patch (kP ks (xs.getD idx .nil) 0) off x.cells))))],Ip:=ss}
      | false =>
       chk (bY a ks x&&(Nat.beq off 0&&(Nat.beq n 1&&!(l7 s ss))))<|.ret {val:=.undef,uz:=[(s,.arr a ks (xs.set idx x))],Ip:=ss}
     | none=>.fail
    | _=>.fail
   | .p (.ref [.int k b])=>match v with
    | .p (.int j a)=>chk (j==k&&Je a b)<|.ret {val:=.undef}
    | _=>.fail
   | _=>.fail
def Fz(t:TypeId)(ptr:AV)(f:Nat):DT:=
 match und T t with
 | some (.struct fs) =>
  match fs[f]? with
  | some fd =>
   match yG T fd.type with
   | some (_+1) =>
    match ptr with
    | .ptr s idx off=>.ret {val:=.ptr s idx (off+fd.offset)}
    | .rE a ks x off=>.ret {val:=.rE a ks x (off+fd.offset)}
    | .p (.ref [c])=>match fd.offset with
     | 0=>.ret {val:=.p (.ref [c])}
     | o=>.ret {val:=.rE true [aax c] (.agg [c]) o}
    | .p (.ref cs)=>.ret {val:=.rE true (cs.map aax) (.agg cs) fd.offset}
    | _=>.fail
   | _=>.fail
  | none=>.fail
 | _=>.fail
def Rj(t:TypeId)(x:AV)(f:Nat):DT:=
 match und T t with
 | some (.struct fs) =>
  match fs[f]? with
  | some fd =>
   match yG T fd.type,x with
   | some n,.p (.agg cs)=>match zT T fd.type n (cs.map .p) fd.offset with
    | some v=>.ret {val:=v}
    | none=>.fail
   | some n,.agg cs=>match zT T fd.type n cs fd.offset with
    | some v=>.ret {val:=v}
    | none=>.fail
   | _,_=>.fail
  | none=>.fail
 | _=>.fail
def aaB(f:Nat->AV)(i:Int):Nat->Nat->DT
 | 0,_=>.fail
 | m+1,j=>.ite (decide (i=(j:Int))) (.ret {val:=f j}) (aaB f i m (j+1))
def FB(t:TypeId)(x:AV)(i:AV):DT:=
 match i with
 | .p (.int _ i) =>
  match und T t with
  | some (.slice e) =>
   match yG T e with
   | none=>.fail
   | some n =>
   match x with
   | .slice s z off len=>chk (z==n)<|chk (decide (0<=i)&&decide (i<(len:Int)))<|.ret {val:=.ptr s (off+i.toNat) 0}
   | .bslice s off len=>chk (n==1)<|chk (decide (0<=i)&&decide (i<(len:Int)))<|.ret {val:=.ptr s 0 (off+i.toNat)}
   | .p (.list a ks xs)=>chk (ks.length==n)<|chk (decide (0<=i)&&decide (i<(xs.length:Int)))<|.ret {val:=.rE a ks (xs.getD i.toNat .nil) 0}
   | .p (.full a ks xs)=>chk (ks.length==n)<|chk (decide (0<=i)&&decide (i<(xs.length:Int)))<|.ret {val:=.rE a ks (xs.getD i.toNat .nil) 0}
   | _=>.fail
  | some (.array n e) =>
   match x,yG T e with
   | .ptr s idx off,some m=>chk (decide (0<=i)&&decide (i<(n:Int)))<|bif Nat.ble n 8 then aaB (λj=>.ptr s idx (off+j*m)) i n 0 else .ret {val:=.ptr s idx (off+i.toNat*m)}
   | .rE a ks y off,some m=>chk (decide (0<=i)&&decide (i<(n:Int)))<|.ret {val:=.rE a ks y (off+i.toNat*m)}
   | _,_=>.fail
  | _=>.fail
 | _=>.fail
def Rk(t:TypeId)(x:AV)(i:AV):DT:=
 match i with
 | .p (.int _ i) =>
  match und T t,x with
  | some .string,.p (.str s)=>chk (decide (0<=i)&&decide (i<(s.size:Int)))<|.ret {val:=.p (.int .u8 ((s.data.getD i.toNat 0).toNat:Int))}
  | some (.array n e),.p (.agg cs) =>
   match (dD T e).2,yG T e with
   |[kd],some 1 =>
    chk (cs.all (kindOk kd)&&Nat.beq cs.length n&&!(ajL T e)) <|
     chk (decide (0<=i)&&decide (i<(n:Int)))<|.ret {val:=.p (eta kd (cs.getD i.toNat .nil))}
   | _,some m =>
    chk (Nat.ble n 8&&((List.range n).all (λj=>(zT T e m (cs.map .p) (j*m)).isSome))) <|
     chk (decide (0<=i)&&decide (i<(n:Int)))<|aaB (λj=>(zT T e m (cs.map .p) (j*m)).getD .undef) i n 0
   | _,_=>.fail
  | _,_=>.fail
 | _=>.fail
def FC(d:Option Nat)(t:TypeId)(len cap:AV):DT:=
 match d,und T t,len,cap with
 | some d,some (.slice e),.p (.int _ l),.p (.int _ c) =>
  match SN T e,yG T e,PN T e with
  | some z,some n,some DN =>
   let sh:=dD T e
   chk (n==sh.2.length&&bY sh.1 sh.2 z&&Nat.ble DN 16384) <|
    chk (decide (0<=l)&&(decide (l<=c)&&decide (c<=2147483648))) <|
     .ret {val:=.slice d n 0 l.toNat,uz:=[(d,.arr sh.1 sh.2 (List.replicate l.toNat z))],new:=[d]}
  | _,_,_=>.fail
 | _,_,_,_=>.fail
def bound(dflt:Int):Option AV->Option Int
 | none=>some dflt
 | some (.p (.int _ n))=>some n
 | _=>none
def Rl(t:TypeId)(x:AV)(lo hi mx:Option AV):DT:=
 match und T t with
 | some .string =>
  match x,mx with
  | .p (.str s),none =>
   match bound 0 lo,bound s.size hi with
   | some l,some u=>chk (decide (0<=l)&&(decide (l<=u)&&decide (u<=(s.size:Int))))<|.ret {val:=.p (.str (s.extract l.toNat u.toNat))}
   | _,_=>.fail
  | _,_=>.fail
 | some (.slice e) =>
  match yG T e with
  | none=>.fail
  | some n =>
  match x with
  | .slice s z off len =>
   match bound 0 lo,bound len hi,bound len mx with
   | some l,some u,some m =>
    chk (z==n)<|chk (decide (0<=l)&&(decide (l<=u)&&(decide (u<=m)&&decide (m<=(len:Int)))))<|.ret {val:=.slice s z (off+l.toNat) (u-l).toNat}
   | _,_,_=>.fail
  | .bslice s off len =>
   match bound 0 lo,bound len hi,bound len mx with
   | some l,some u,some m =>
    chk (n==1)<|chk (decide (0<=l)&&(decide (l<=u)&&(decide (u<=m)&&decide (m<=(len:Int)))))<|.ret {val:=.bslice s (off+l.toNat) (u-l).toNat}
   | _,_,_=>.fail
  | .p (.list a ks xs) =>
   match bound 0 lo,bound xs.length hi,bound xs.length mx with
   | some l,some u,some m =>
    chk (ks.length==n)<|chk (decide (0<=l)&&(decide (l<=u)&&(decide (u<=m)&&decide (m<=(xs.length:Int))))) <|
     match mx with
     | none=>.ret {val:=.p (.list a ks ((xs.drop l.toNat).take (u-l).toNat))}
     | some _=>.ite (decide (u=m)) (.ret {val:=.p (.full a ks ((xs.drop l.toNat).take (u-l).toNat))})
      (.ret {val:=.p (.list a ks ((xs.drop l.toNat).take (u-l).toNat))})
   | _,_,_=>.fail
  | .p .nil =>
   match bound 0 lo,bound 0 hi,bound 0 mx with
   | some l,some u,some m=>chk (decide (l=0)&&(decide (u=0)&&decide (m=0)))<|.ret {val:=.p .nil}
   | _,_,_=>.fail
  | _=>.fail
 | _=>.fail
def Iu(h:Nat->Option bZ)(n:Nat)(e:TypeId)(x:AV)(lo hi mx:Option AV):DT:=
 match x,mx,yG T e with
 | .ptr s 0 off,none,some 1 =>
  match h s with
  | some (.box cs) =>
   match bound 0 lo,bound n hi with
   | some l,some u =>
    chk (Nat.ble (off+n) cs.length)<|chk (decide (0<=l)&&(decide (l<=u)&&decide (u<=(n:Int))))<|.ret {val:=.bslice s (off+l.toNat) (u-l).toNat}
   | _,_=>.fail
  | _=>.fail
 | _,_,_=>.fail
def PW(x:AV):DT:=
 match x with
 | .ptr s i o=>.ret {val:=.ptr s i o}
 | .rE a ks y o=>.ret {val:=.rE a ks y o}
 | .p (.ref cs)=>.ret {val:=.p (.ref cs)}
 | .p (.fn f cs)=>.ret {val:=.p (.fn f cs)}
 | .fn f cs=>.ret {val:=.fn f cs}
 | _=>.fail
def J3(x:AV)(i:Nat):DT:=
 match x with
 | .vM vs=>match vs[i]? with
  | some v=>.ret {val:=v}
  | none=>.fail
 | _=>.fail
def anO:AV->Bool
 | .slice _ _ _ _=>true
 | .p (.list _ _ _)=>true
 | _=>false
def bytesOf(xs:List PV):ByteArray:=⟨(xs.map λx=>UInt8.ofNat x.toInt.toNat).toArray⟩
def J4(h:Nat->Option bZ)(d:Option Nat)(src dst:TypeId)(x:AV):DT:=
 match x with
 | .p (.int _ n)=>match und T src,und T dst with
  | some _,some (.int j)=>.ret {val:=.p (.int j (j.wrap n))}
  | _,_=>.fail
 | .p (.str s)=>match und T src,und T dst with
  | some _,some .string=>.ret {val:=.p (.str s)}
  | some .string,some (.slice e) =>
   match und T e,d with
   | some (.int .u8),some d=>.ret {val:=.slice d 1 0 s.size,uz:=[(d,.arr false [.int .u8] (s.data.toList.map λb=>.int .u8 b.toNat))],new:=[d]}
   | _,_=>.fail
  | _,_=>.fail
 | x=>match und T src,und T dst with
  | some (.slice e),some .string=>match und T e,YS h x with
   | some (.int .u8),some (s2,_,ys)=>chk (Iq s2 false [.int .u8]&&anO x)<|.ret {val:=.p (.str (bytesOf ys))}
   | _,_=>.fail
  | _,_=>.fail
def Iw(fn:Fn)(first:List AV)(caps:List AV):DT:=
 match fn,first with
 | .func f,[]=>match JW caps with
  | some vs=>.ret {val:=.p (.fn f vs)}
  | none=>chk (AV.Lu caps)<|.ret {val:=.fn f caps}
 | _,_=>.fail
def aaC(t:TypeId)(x:AV):DT:=
 match und T t,x with
 | some .string,.p (.str s)=>.ret {val:=.p (.int .i64 s.size)}
 | some (.slice _),.slice _ _ _ len=>.ret {val:=.p (.int .i64 len)}
 | some (.slice _),.bslice _ _ len=>.ret {val:=.p (.int .i64 len)}
 | some (.slice _),.p (.list _ _ xs)=>.ret {val:=.p (.int .i64 xs.length)}
 | some (.slice _),.p (.full _ _ xs)=>.ret {val:=.p (.int .i64 xs.length)}
 | some (.slice _),.p .nil=>.ret {val:=.p (.int .i64 0)}
 | some (.array n _),_=>.ret {val:=.p (.int .i64 n)}
 | _,_=>.fail
def acJ(f:Int->Int->Int)(j:IntKind):Int->List AV->Option Int
 | x,[]=>some x
 | x,.p (.int i y)::r=>bif i==j then acJ f j (f x y) r else none
 | _,_=>none
def Iy(f:Int->Int->Int)(xs:List AV):DT:=
 match xs with
 | .p (.int j x)::r=>match acJ f j x r with
  | some y=>.ret {val:=.p (.int j y)}
  | none=>.fail
 | _=>.fail
def sV(x y:Int):Int:=if y<x then y else x
def sW(x y:Int):Int:=if x<y then y else x
def Uz(h:Nat->Option bZ)(d:Nat)(sh:Bool × List Kd)(x:AV)(s2:Option (Bool × List Kd))(m:Nat)(ys:List PV):DT:=
 chk (Iq s2 sh.1 sh.2) <|
 match x with
 | .slice s _ off len =>
  match h s with
  | some (.arr a ks xs) =>
   chk (a==sh.1&&(Kd.Fe ks sh.2&&Nat.blt s 100000)) <|
   chk (decide (len+m<=2147483648)) <|
    .ret {val:=.slice s sh.2.length 0 (len+m),uz:=[(s,.arr sh.1 sh.2 ((xs.drop off).take len++ys))],cut:=[s]}
  | _=>.fail
 | .p .nil=>chk (decide (m<=2147483648))<|.ret {val:=.slice d sh.2.length 0 m,uz:=[(d,.arr sh.1 sh.2 ys)],new:=[d]}
 | .p (.full a ks xs) =>
  chk (a==sh.1&&Kd.Fe ks sh.2)<|chk (decide (0<m\/xs.length=0)&&decide (xs.length+m<=2147483648)) <|
   .ret {val:=.slice d sh.2.length 0 (xs.length+m),uz:=[(d,.arr sh.1 sh.2 (xs++ys))],new:=[d]}
 | _=>.fail
def NU(h:Nat->Option bZ)(d:Option Nat)(t t2:TypeId)(x y:AV):DT:=
 match d,und T t with
 | some d,some (.slice e) =>
  match SN T e,yG T e,PN T e with
  | some z,some n,some DN =>
   chk (n==(dD T e).2.length&&(bY (dD T e).1 (dD T e).2 z&&Nat.ble DN 16384)) <|
   match und T t2 with
   | some (.int _)=>match y with
    | .p (.int _ m)=>chk (decide (0<=m)&&decide (m<=2147483648))<|Uz h d (dD T e) x none m.toNat (List.replicate m.toNat z)
    | _=>.fail
   | some _=>match YS h y with
    | some (s2,m,ys)=>Uz h d (dD T e) x s2 m ys
    | none=>.fail
   | none=>.fail
  | _,_,_=>.fail
 | _,_=>.fail
def Wu(h:Nat->Option bZ)(t:TypeId)(x y:AV):DT:=
 match und T t with
 | some (.slice e) =>
  match x,yG T e with
  | .slice s _ off len,some n=>match h s,YS h y with
   | some (.arr a ks xs),some (s2,m,ys) =>
    chk (Iq s2 a ks&&n==ks.length) <|
     .ret {val:=.p (.int .i64 (Nat.min m len:Nat)),uz:=[(s,.arr a ks (patch xs off (ys.take (Nat.min m len))))]}
   | _,_=>.fail
  | _,_=>.fail
 | _=>.fail
def Rn(h:Nat->Option bZ)(t:TypeId)(x:AV):DT:=
 match und T t,x with
 | some (.slice e),.slice s _ off len=>match h s,SN T e with
  | some (.arr a ks xs),some z =>
   chk (bY a ks z)<|.ret {val:=.vM [],uz:=[(s,.arr a ks (patch xs off (List.replicate len z)))]}
  | _,_=>.fail
 | _,_=>.fail
def ah:Nat:=100000
def addN(ss:List Nat)(s:Nat):List Nat:=bif l7 s ss then ss else ss++[s]
mutual
def AV.sites(acc:List Nat):AV->List Nat
 | .slice s _ _ _=>addN acc s
 | .bslice s _ _=>addN acc s
 | .ptr s _ _=>addN acc s
 | .fn _ cs=>AV.AO acc cs
 | .agg cs=>AV.AO acc cs
 | .vM cs=>AV.AO acc cs
 | _=>acc
def AV.AO(acc:List Nat):List AV->List Nat
 |[]=>acc
 | v::r=>AV.AO (AV.sites acc v) r
end
def idxOf(s:Nat):List Nat->Nat->Option Nat
 |[],_=>none
 | x::r,i=>bif x==s then some i else idxOf s r (i+1)
def toArg(ss:List Nat):AV->Option AV
 | .p v=>some (.p v)
 | .slice s z off len=>(idxOf s ss 0).map λi=>.slice (ah+i) z off len
 | .ptr s idx off=>(idxOf s ss 0).map λi=>.ptr (ah+i) idx off
 | _=>none
def Ro(ss:List Nat):List AV->Option (List AV)
 |[]=>some []
 | v::r=>match toArg ss v,Ro ss r with
  | some x,some xs=>some (x::xs)
  | _,_=>none
def iI:bZ->Bool
 | .box cs=>(JW cs).isSome
 | .arr _ _ _=>true
 | _=>false
def LD(h:Nat->Option bZ):List Nat->Option (List bZ)
 |[]=>some []
 | s::r=>match h s,LD h r with
  | some b,some bs=>bif iI b then some (b::bs)else none
  | _,_=>none
def AV.aI:AV->List PV
 | .fresh _ _ xs=>xs
 | _=>[]
def AV.pv:AV->PV
 | .p v=>v
 | _=>.nil
def Wv{β:Type}:List β->Option (List β × β)
 |[]=>none
 |[x]=>some ([],x)
 | x::y::r=>match Wv (y::r)with
  | some (l,z)=>some (x::l,z)
  | none=>none
def AV.qM:AV->Nat
 | .slice _ _ o _=>o
 | _=>0
def AV.sLen:AV->Nat
 | .slice _ _ _ l=>l
 | _=>0
def bZ.xs:bZ->List PV
 | .arr _ _ xs=>xs
 | _=>[]
def bZ.cs:bZ->List AV
 | .box cs=>cs
 | _=>[]
def bZ.ls:bZ->List PV
 | .log _ xs=>xs
 | _=>[]
def Wx(d:Nat)(i:Nat)(ss:List Nat)(m:nC)(t:TypeId)(r:AV):Option (AV × List (Nat × bZ)):=
 match m with
 | .deep=>match dD T t with
  |(true,ks)=>some (.p (.agg (kP ks r.pv 0)),[])
  |(false,[k])=>some (.p (eta k r.pv),[])
  | _=>none
 | .fresh=>match und T t with
  | some (.slice e)=>some (.slice (d+1000*i) (dD T e).2.length 0 r.aI.length,[(d+1000*i,.arr (dD T e).1 (dD T e).2 r.aI)])
  | _=>none
 | .alias j=>match ss[j]?,und T t with
  | some s,some (.slice e)=>some (.slice s (dD T e).2.length r.qM r.sLen,[])
  | _,_=>none
 | .func g qs=>some (.p (.fn g (CX qs r.pv 0)),[])
def uQ(d:Nat)(ss:List Nat):Nat->List nC->List TypeId->List AV->Option (List AV × List (Nat × bZ))
 | _,_,[],_=>some ([],[])
 | i,ms,t::ts,rs =>
  match Wx T d i ss (ms.headD .deep) t (rs.headD .undef),uQ d ss (i+1) ms.tail ts rs.tail with
  | some (v,b),some (vs,bs)=>some (v::vs,b++bs)
  | _,_=>none
def pO:List AV->AV
 |[v]=>v
 | vs=>.vM vs
def wF(b0 b1:bZ):bZ:=
 match b0 with
 | .arr a ks _=>.arr a ks b1.xs
 | .box cs=>.box (xC cs b1.cs 0)
 | _=>b1
where
 xC:List AV->List AV->Nat->List AV
  |[],_,_=>[]
  | .p (.int k _)::r,cs,i=>.p (.int k (cs.getD i .undef).pv.toInt)::xC r cs (i+1)
  | .p (.bool _)::r,cs,i=>.p (.bool (cs.getD i .undef).pv.toBool)::xC r cs (i+1)
  | .p (.str _)::r,cs,i=>.p (.str (cs.getD i .undef).pv.toStr)::xC r cs (i+1)
  | .p (.list a ks _)::r,cs,i=>.p (.list a ks (cs.getD i .undef).pv.toList)::xC r cs (i+1)
  | _::r,cs,i=>cs.getD i .undef::xC r cs (i+1)
def kQ:List Nat->List bZ->List bZ->List (Nat × bZ)
 | s::ss,b0::bs,cs=>(s,wF b0 (cs.headD (.box [])))::kQ ss bs cs.tail
 | _,_,_=>[]
def keysOf:List (Nat × bZ)->List Nat
 |[]=>[]
 |(k,_)::r=>k::keysOf r
def LG(ss:List Nat):List Nat->Bool
 |[]=>true
 | x::r=>!(l7 x ss)&&LG ss r
def Kd.flat:Kd->Bool
 | .int _=>true
 | .bool=>true
 | .str=>true
 | _=>false
def PX(m:nC)(t:TypeId):Bool:=
 match m with
 | .deep=>(dD T t).2.all Kd.flat
 | .fresh=>match und T t with
  | some (.slice e)=>(dD T e).2.all Kd.flat
  | _=>false
 | _=>false
def vS:List nC->List TypeId->Bool
 | _,[]=>true
 | ms,t::ts=>PX T (ms.headD .deep) t&&vS ms.tail ts
def NV:List Kd->List PV->List PV
 | .slice a ks::r,.nil::cs=>.list a ks []::NV r cs
 | _::r,c::cs=>c::NV r cs
 | _,cs=>cs
def aeF:Bool × List Kd->PV->PV
 |(false,[.slice a ks]),.nil=>.list a ks []
 |(true,ks),.agg cs=>.agg (NV ks cs)
 | _,v=>v
def normArgs:List TypeId->List PV->List AV
 | t::ts,v::vs=>.p (aeF (dD T t) v)::normArgs ts vs
 |[],vs=>vs.map .p
 | _::_,[]=>[]
abbrev aH:=Nat->List AV->List bZ->Option (List AV × List bZ)
def WA(k:Prim)(d:Option Nat)(args:List AV):DT:=
 match d,k,args with
 | some _,.carry b,[.p (.int .u64 x),.p (.int .u64 y),.p (.int .u64 c)]=>chk (decide (0<=x)&&(decide (0<=y)&&(decide (0<=c)&&decide (c<=1)))) <|
  .ret {val:=.vM [.p (.int .u64 (nS b x.toNat y.toNat c.toNat)),.p (.int .u64 (pq b x.toNat y.toNat c.toNat))]}
 | _,_,_=>.fail
def xE(C:aH)(h:Nat->Option bZ)(d:Option Nat)(f:Nat)(args:List AV):DT:=
 match d,dZ T.funcs f with
 | some d,some fi =>
  match fi.cfg.D9 with
  | false =>
   match JY h args with
   | some (vs,ss) =>
    .call (C f (normArgs T fi.fn.params.toList vs) []) λr =>
     match uQ T d [] 0 fi.cfg.rets fi.fn.resultTypes.toList r.1 with
     | some (xs,bs)=>.ret {val:=pO xs,uz:=bs,new:=keysOf bs,Ip:=cond fi.cfg.shares ss []}
     | none=>.fail
   | none=>.fail
  | true =>
   let ss:=AV.AO [] args
   match Ro ss args,LD h ss with
   | some as_,some bl =>
    .call (C f as_ bl) λr =>
     match uQ T d ss 0 fi.cfg.rets fi.fn.resultTypes.toList r.1 with
     | some (xs,bs)=>chk (LG ss (keysOf bs))<|.ret {val:=pO xs,uz:=kQ ss bl r.2++bs,new:=keysOf bs}
     | none=>.fail
   | _,_=>.fail
 | _,_=>.fail
def sH:List bZ->Heap
 |[b0,b1]=>[(ah,b0),(99999,b1)]
 | _=>[]
def abA(bl:List bZ):List PV:=(bl.getD 1 (.box [])).xs
def ZF(bl:List bZ):AV:=(bl.headD (.box [])).cs.headD .undef
def YT(C:aH)(h:Nat->Option bZ)(d f:Nat)(fi:FI)(pre:List AV)(s A:Nat)(a:Bool)(ks:List Kd)(off len:Nat)(xs:List PV):DT:=
 match JY h pre with
 | some (vs,ss) =>
  bif (Nat.blt s 100000&&(Nat.blt A 100000&&!(A==s)))&&(!(l7 s ss)&&!(l7 A ss))then
  .call (C f (normArgs T fi.fn.params.toList vs++[.ptr ah 0 0]) [.box [.slice 99999 ks.length off len],.arr a ks xs]) λr =>
   match uQ T d [] 0 fi.cfg.rets fi.fn.resultTypes.toList r.1 with
   | some (rv,[])=>.ret {val:=pO rv,uz:=[(A,.arr a ks (abA r.2)),(s,.box [.slice A ks.length (ZF r.2).qM (ZF r.2).sLen])],cut:=[A],Ip:=ss}
   | _=>.fail
  else .fail
 | none=>.fail
def UA(C:aH)(h:Nat->Option bZ)(d:Option Nat)(f:Nat)(args:List AV):DT:=
 match d,dZ T.funcs f,Wv args with
 | some d,some fi,some (pre,.ptr s 0 0)=>match h s with
  | some (.box [.slice A _ off len])=>match h A with
   | some (.arr a ks xs)=>YT T C h d f fi pre s A a ks off len xs
   | _=>.fail
  | _=>.fail
 | _,_,_=>.fail
def PY(C:aH)(h:Nat->Option bZ)(d:Option Nat)(f:Nat)(args:List AV):DT:=
 match d,dZ T.funcs f,args with
 | some d,some fi,.slice A _ off len::rest=>match h A with
  | some (.arr a ks xs)=>match JY h rest with
   | some (vs,[]) =>
    .call (C f (.slice 99999 ks.length off len::vs.map .p) [.log false [],.arr a ks xs]) λr =>
     match uQ T d [] 0 fi.cfg.rets fi.fn.resultTypes.toList r.1 with
     | some (rv,bs)=>.ret {val:=pO rv,uz:=bs,new:=A::keysOf bs}
     | none=>.fail
   | _=>.fail
  | _=>.fail
 | _,_,_=>.fail
def Ec(C:aH)(h:Nat->Option bZ)(d:Option Nat)(f:Nat)(args:List AV):DT:=
 bif (pI T f).Nr.is then WA (pI T f).Nr d args else
 bif (pI T f).vcall then UA T C h d f args else
 bif (pI T f).take then PY T C h d f args else xE T C h d f args
def oC(env:List AV):Option Operand->Option AV
 | none=>none
 | some x=>some (dP env x)
def lJ(env:List AV):List (Nat × Operand)->List (Nat × AV)
 |[]=>[]
 |(i,x)::r=>(i,dP env x)::lJ env r
def iq(C:aH)(env:List AV)(h:Nat->Option bZ)(o:Oper):DT:=
 match o.op with
 | .move x=>.ret {val:=dP env x}
 | .assign x =>
  match o.dst,x,und T o.type with
  | some d,.const (.slice none 0 0),some (.slice e)=>.ret {val:=.slice d (dD T e).2.length 0 0,uz:=[(d,.arr (dD T e).1 (dD T e).2 [])],new:=[d]}
  | _,x,_=>.ret {val:=dP env x}
 | .pick c a b=>Ws (dP env c) (dP env a) (dP env b)
 | .alloc t=>Rf T o.dst t
 | .box _ v=>aaz o.dst (dP env v)
 | .build t parts=>Rh T t (lJ env parts.toList)
 | .buildSlice t len parts=>Eb T h o.dst t len (lJ env parts.toList)
 | .load t a=>JZ T h t (dP env a)
 | .store t a v=>Ri T h t (dP env a) (dP env v)
 | .binOp op t x y _=>PU T op t (isLit y) (dP env x) (dP env y)
 | .unOp op _ x=>Wq op (dP env x)
 | .convert s t x=>J4 T h o.dst s t (dP env x)
 | .makeFunc fn first caps=>Iw fn (og env first.toList) (og env caps.toList)
 | .makeSlice t l c=>FC T o.dst t (dP env l) (dP env c)
 | .slice t x lo hi mx=>match und T t with
  | some (.array n e)=>Iu T h n e (dP env x) (oC env lo) (oC env hi) (oC env mx)
  | _=>match mx,hi with
   | some _,none=>.fail
   | _,_=>Rl T t (dP env x) (oC env lo) (oC env hi) (oC env mx)
 | .fieldAddr t x f=>Fz T t (dP env x) f
 | .field t x f=>Rj T t (dP env x) f
 | .indexAddr t x i=>FB T t (dP env x) (dP env i)
 | .index t x i=>Rk T t (dP env x) (dP env i)
 | .extract x i=>J3 (dP env x) i
 | .nilCheck x=>PW (dP env x)
 | .call c =>
  match c.callee with
  | .builtin .len=>match c.args.toList,c.argTypes.toList with
   |[x],t::_=>aaC T t (dP env x)
   | _,_=>.fail
  | .builtin .min=>Iy sV (og env c.args.toList)
  | .builtin .max=>Iy sW (og env c.args.toList)
  | .builtin .append=>match c.args.toList,c.argTypes.toList with
   |[x,y],[t,t2]=>NU T h o.dst t t2 (dP env x) (dP env y)
   | _,_=>.fail
  | .builtin .copy=>match c.args.toList,c.argTypes.toList with
   |[x,y],t::_=>Wu T h t (dP env x) (dP env y)
   | _,_=>.fail
  | .builtin .clear=>match c.args.toList,c.argTypes.toList with
   |[x],t::_=>Rn T h t (dP env x)
   | _,_=>.fail
  | .value f=>match dP env f with
   | .p (.fn f caps)=>Ec T C h o.dst f (og env c.args.toList++caps.map .p)
   | .fn f caps=>Ec T C h o.dst f (og env c.args.toList++caps)
   | _=>.fail
  | _=>.fail
 | _=>.fail
section
variable {α:Type}
def vT(m:Nat)(k:Nat->Option α):Option α:=
 match m with
 | 0=>k 0
 | m+1=>k (m+1)
def WB(n:Int)(k:Int->Option α):Option α:=
 match n with
 | .ofNat m=>vT m λm=>k (.ofNat m)
 | .negSucc m=>vT m λm=>k (.negSucc m)
mutual
def qV(b:Bool):PV->(PV->Option α)->Option α
 | .bool c,k=>bif b then cond c (k (.bool true)) (k (.bool false))else k (.bool c)
 | .int j n,k=>bif b then WB n λn=>k (.int j n)else k (.int j n)
 | .str s,k=>k (.str s)
 | .agg cs,k=>rJ b cs λcs=>k (.agg cs)
 | .list a ks xs,k=>bif b then rJ b xs λxs=>k (.list a ks xs)else k (.list a ks xs)
 | .full a ks xs,k=>bif b then rJ b xs λxs=>k (.full a ks xs)else k (.full a ks xs)
 | .nil,k=>k .nil
 | .fn f cs,k=>bif b then rJ b cs λcs=>k (.fn f cs)else k (.fn f cs)
 | .ref cs,k=>rJ b cs λcs=>k (.ref cs)
 | .aau,k=>k .aau
 | .sF,k=>k .sF
def rJ(b:Bool):List PV->(List PV->Option α)->Option α
 |[],k=>k []
 | v::r,k=>qV b v λv=>rJ b r λr=>k (v::r)
end
mutual
def sJ(b:Bool):AV->(AV->Option α)->Option α
 | .undef,k=>k .undef
 | .p v,k=>bif b then qV b v λv=>k (.p v)else k (.p v)
 | .slice s z o l,k=>bif b then vT o λo=>vT l λl=>k (.slice s z o l)else k (.slice s z o l)
 | .bslice s o l,k=>bif b then vT o λo=>vT l λl=>k (.bslice s o l)else k (.bslice s o l)
 | .ptr s i o,k=>bif b then vT i λi=>vT o λo=>k (.ptr s i o)else k (.ptr s i o)
 | .rE a ks x o,k=>bif b then qV b x λx=>vT o λo=>k (.rE a ks x o)else k (.rE a ks x o)
 | .fn f cs,k=>qE b cs λcs=>k (.fn f cs)
 | .agg cs,k=>qE b cs λcs=>k (.agg cs)
 | .vM cs,k=>qE b cs λcs=>k (.vM cs)
 | .fresh a ks xs,k=>bif b then rJ b xs λxs=>k (.fresh a ks xs)else k (.fresh a ks xs)
 | .yL,k=>k .yL
def qE(b:Bool):List AV->(List AV->Option α)->Option α
 |[],k=>k []
 | v::r,k=>sJ b v λv=>qE b r λr=>k (v::r)
end
def spine:List AV->(List AV->Option α)->Option α
 |[],k=>k []
 | v::r,k=>spine r λr=>k (v::r)
def G6(b:Bool):bZ->(bZ->Option α)->Option α
 | .box cs,k=>qE b cs λcs=>k (.box cs)
 | .arr a ks xs,k=>bif b then rJ b xs λxs=>k (.arr a ks xs)else k (.arr a ks xs)
 | .log on xs,k=>bif b then rJ b xs λxs=>k (.log on xs)else k (.log on xs)
def zx(b:Bool):List bZ->(List bZ->Option α)->Option α
 |[],k=>k []
 | x::r,k=>G6 b x λx=>zx b r λr=>k (x::r)
def PZ(b:Bool):List (Nat × bZ)->(List (Nat × bZ)->Option α)->Option α
 |[],k=>k []
 |(s,x)::r,k=>G6 b x λx=>PZ b r λr=>k ((s,x)::r)
def aaD:Heap->(Heap->Option α)->Option α
 |[],k=>k []
 |(s,x)::r,k=>aaD r λr=>k ((s,x)::r)
def jZ(st:St)(k:St->Option α):Option α:=
 spine st.env λenv=>aaD st.heap λheap=>k {env,heap}
def P5(b:Bool)(st:St)(d:Option Nat)(e:Eff)(k:St->Option α):Option α:=
 sJ b e.val λv=>PZ b e.uz λc=>jZ (st.apply d {e with val:=v,uz:=c}) k
end
inductive Cls where
 | const | plain | pure | read | own (t:Nat) | store | heavy
def Ed:Operand->Bool
 | .const _=>true
 | .func _=>true
 | _=>false
def anP(t:Nat):List Oper->Option Op
 |[]=>none
 | o::r=>match o.dst with
  | some d=>bif d==t then some o.op else anP t r
  | none=>anP t r
def rootOf(all:List Oper):Nat->Nat->Option Nat
 | 0,_=>none
 | n+1,t=>match anP t all with
  | none=>some t
  | some (.alloc _)=>some t
  | some (.fieldAddr _ (.tmp u) _)=>rootOf all n u
  | _=>none
def WC(t:Nat):List Oper->Bool
 |[]=>false
 | o::r=>(match o.op,o.dst with
  | .slice _ _ _ _ (some _),some d=>bif d==t then true else WC t r
  | _,_=>WC t r)
def aaE(xs:List Operand)(all:List Oper):Bool:=
 match xs with
 | .tmp t::_=>WC t all
 | .const (.slice none 0 0)::_=>true
 | _=>false
def ap1:Option Nat->Option Nat
 | some d=>dZ T.owns d
 | none=>none
def ajM(t:Nat):Operand->Nat
 | .tmp v=>1000000+(1000*t+v)
 | _=>0
def acK(all:List Oper)(t:Nat)(v:Operand):Option Nat:=match dZ T.owns (ajM t v)with
 | some s=>some s
 | none=>rootOf all 4 t
def agb:Operand->Option Nat->Cls
 | .tmp u,some d=>bif l7 (1000*d+u) T.calcs then .plain else .pure
 | _,_=>.pure
def eF(all:List Oper)(o:Oper):Cls:=
 match o.op with
 | .assign (.const (.slice none 0 0))=>.read
 | .assign x=>bif Ed x then .const else .pure
 | .move x=>bif Ed x then .const else agb T x o.dst
 | .binOp ..=>.plain
 | .unOp ..=>.plain
 | .pick .. | .build .. | .makeFunc .. | .fieldAddr .. | .field .. | .indexAddr .. | .index .. | .extract .. | .nilCheck ..=>.pure
 | .slice t ..=>match und T t with
  | some (.array _ _)=>.read
  | _=>.pure
 | .alloc .. | .box .. | .buildSlice .. | .load .. | .makeSlice .. | .convert ..=>.read
 | .store _ (.tmp t) v=>match acK T all t v with
  | some s=>.own s
  | none=>.store
 | .call c=>match c.callee with
  | .builtin .len | .builtin .min | .builtin .max=>.pure
  | .builtin .append=>bif aaE c.args.toList all then .read else .heavy
  | .builtin .copy=>.store
  | .value (.tmp _)=>match ap1 T o.dst with
   | some s=>.own s
   | none=>.read
  | .value (.func f)=>bif (pI T f).D9||((pI T f).take||((pI T f).shares&&!(pI T f).quiet))then .heavy else .read
  | .value _=>.read
  | _=>.heavy
 | _=>.heavy
def jA(all:List Oper)(o:Oper):List Nat:=
 match o.dst with
 | some d=>match o.op with
  | .assign (.const (.slice none 0 0))=>[d]
  | .alloc .. | .box .. | .buildSlice .. | .makeSlice .. | .convert ..=>[d]
  | .call c=>match c.callee with
   | .value _=>[d,d+1000,d+2000,d+3000]
   | .builtin .append=>bif aaE c.args.toList all then [d]else []
   | _=>[]
  | _=>[]
 | none=>[]
def ajN(all:List Oper)(o:Oper):List Nat:=
 match o.op with
 | .store _ (.tmp t) v=>match acK T all t v with
  | some s=>[s]
  | none=>[]
 | .call c=>match c.callee,ap1 T o.dst with
  | .value (.tmp _),some s=>[s]
  | _,_=>[]
 | _=>[]
def G7(all:List Oper):List Oper->List Nat
 |[]=>[]
 | o::r=>jA all o++G7 all r
def aaF(ss:List Nat):List Nat->Bool
 |[]=>true
 | x::r=>!(l7 x ss)&&aaF ss r
def WE(ss:List Nat):List (Nat × bZ)->Bool
 |[]=>true
 |(k,_)::r=>l7 k ss&&WE ss r
def alX(ss:List Nat):List Nat->Bool
 |[]=>true
 | x::r=>l7 x ss&&alX ss r
def tmpsOf:List Operand->List Nat
 |[]=>[]
 | .tmp t::r=>t::tmpsOf r
 | _::r=>tmpsOf r
def yH(ops:List Oper)(o:Oper):List Nat:=
 tmpsOf o.op.operands.toList++(match o.guard with
  | some (g,_)=>match (ops[g]?).bind (·.dst)with
   | some d=>[d]
   | none=>[]
  | none=>[])
def aeG(ops:List Oper)(x y:Oper):Bool:=
 (match x.dst with
  | some d=>!(l7 d (yH ops y))&&!(y.dst==some d)
  | none=>true) &&
 (match y.dst with
  | some d=>!(l7 d (yH ops x))
  | none=>true)
def Dq(all:List Oper)(hx ho:List Nat)(x o:Oper):Bool:=
 aeG all x o&&(aaF (jA all x) (jA all o)&&(match eF T all x,eF T all o with
  | .const,_=>true
  | _,.const=>true
  | .plain,_=>true
  | _,.plain=>true
  | .pure,.heavy=>false
  | .heavy,.pure=>false
  | .pure,_=>true
  | _,.pure=>true
  | .read,.read=>true
  | .read,.own t=>l7 t hx&&!(l7 t (jA all x))
  | .own t,.read=>l7 t ho&&!(l7 t (jA all o))
  | _,_=>false))
def J5:List Nat->List Nat->List Nat
 | acc,[]=>acc
 | acc,x::r=>J5 (bif l7 x acc then acc else x::acc) r
def LH(done:List (List Nat))(o:Oper):List Nat:=
 (o.after.toList).foldl (λacc e=>match e.ground with
   | .textOnly _=>acc
   | .gcOnly _=>acc
   | _=>J5 (J5 acc [e.on]) (done.getD e.on [])) []
def eU:List Oper->List (List Nat)->List (List Nat)
 |[],acc=>acc
 | o::r,acc=>eU r (acc++[LH acc o])
def WG(all:List Oper)(hd:List (List Nat))(acL:List Nat)(j:Nat)(o:Oper):Nat->List Oper->Bool
 | _,[]=>true
 | i,x::r=>bif Nat.ble j i then true else
  (bif l7 i acL then true else Dq T all (hd.getD i []) (hd.getD j []) x o)&&WG all hd acL j o (i+1) r
def LJ(j:Nat)(o:Oper):Bool:=
 o.after.toList.all λe=>match e.ground with
  | .textOnly _=>true
  | .gcOnly _=>true
  | _=>Nat.blt e.on j
def FD(all:List Oper)(tab hd:List (List Nat)):Nat->List Oper->Bool
 | _,[]=>true
 | j,o::r=>LJ j o&&WG T all hd (tab.getD j []) j o 0 all&&FD all tab hd (j+1) r
def Dt(all:List Oper)(tab:List (List Nat))(j:Nat):Nat->List Oper->List Nat
 | _,[]=>[]
 | i,o::r =>
  bif i==j||l7 i (tab.getD j [])||l7 j (tab.getD i [])then Dt all tab j (i+1) r else jA all o++(ajN T all o++Dt all tab j (i+1) r)
section
variable {α:Type}
def oh(U:List Nat)(h:Nat->Option bZ):Nat->Option bZ:=
 match U with
 |[]=>h
 | U=>λs=>bif l7 s U then none else h s
def BX(all:List Oper)(g:Nat):Option Nat:=(all[g]?).bind (·.dst)
def kC:List Nat->Bool
 |[]=>true
 | s::r=>Nat.blt s 100000&&kC r
def EP(h:Heap):List (Nat × bZ)->Bool
 |[]=>true
 |(_,.log _ _)::_=>false
 |(s,_)::r=>bif s==ah then(match look h ah with
  | some (.log _ _)=>false
  | _=>EP h r)else EP h r
def AV.X3:AV->Bool
 | .p _=>true
 | .vM []=>true
 | _=>false
def iK(draw:Bool)(cls:Cls)(ss:List Nat)(h:Heap)(e:Eff):Bool:=
 match draw,cls with
 | false,_=>EP h e.uz
 | true,.heavy=>true
 | true,.store=>e.cut.isEmpty&&(e.Ip.isEmpty&&e.new.isEmpty)
 | true,.own t=>e.cut.isEmpty&&(e.Ip.isEmpty&&(WE [t] e.uz&&e.new.isEmpty))
 | true,.read=>e.cut.isEmpty&&(e.Ip.isEmpty&&(WE ss e.uz&&(alX ss e.new&&(present h e.new).isEmpty)))
 | true,.plain=>e.cut.isEmpty&&(e.Ip.isEmpty&&(e.uz.isEmpty&&(e.new.isEmpty&&e.val.X3)))
 | true,_=>e.cut.isEmpty&&(e.Ip.isEmpty&&(e.uz.isEmpty&&e.new.isEmpty))
def yieldOf(st:St)(o:Oper):Option (List PV × List PV):=
 match o.op with
 | .call c=>match c.callee with
  | .value (.tmp t)=>match st.env.getD t .undef with
   | .yL=>match look st.heap ah,JY (look st.heap) (og st.env c.args.toList)with
    | some (.log true xs),some (vs,_)=>some (xs,vs)
    | _,_=>none
   | _=>none
  | _=>none
 | _=>none
def wG(draw:Bool)(st:St)(o:Oper):Option (List PV × List PV):=match draw with | true=>none | false=>yieldOf st o
def lC(s:Nat):Heap->List Nat
 |[]=>[]
 |(k,_)::h=>bif k==s then lC s h else k::lC s h
def agc(h:Nat->Option bZ):AV->Option PV
 | .ptr s 0 0=>match h s with
  | some (.box cs)=>match JW cs with
   | some vs=>some (.ref vs)
   | none=>none
  | _=>none
 | _=>none
def aaG(h:Nat->Option bZ)(ss:List Nat)(v:AV):AV:=match agc h v with
 | some x=>.p x
 | none=>AV.kill ss v
def FH(h:Nat->Option bZ)(ss:List Nat):List AV->List AV
 |[]=>[]
 | v::r=>aaG h ss v::FH h ss r
def mP(st:St)(d:Option Nat)(xs vs:List PV)(b:Bool):St:=
 let st1:St:={env:=FH (oh [ah] (look st.heap)) (lC ah st.heap) st.env,heap:=(st.strike (lC ah st.heap)).heap}
 {env:=setEnv st1.env d (.p (.bool b)),heap:=put st1.heap ah (.log b (xs++[.agg vs]))}
def fork(no yes:Option α):Option α:=
 match no with
 | some _=>yes
 | none=>none
def iY(C:aH)(draw:Bool)(hd:List (List Nat))(all:List Oper):List Oper->Nat->St->(St->Option α)->Option α
 |[],_,st,k=>k st
 | o::rest,j,st,k =>
  let go (st:St):Option α:=
   match wG draw st o with
   | some (xs,vs)=>fork (jZ (mP st o.dst xs vs false) λst=>iY C draw hd all rest (j+1) st k) (jZ (mP st o.dst xs vs true) λst=>iY C draw hd all rest (j+1) st k)
   | none=>(iq T C st.env (oh (hd.getD j []) (look st.heap)) o).run λe =>
    bif kC (e.new++e.Ip)&&iK draw (eF T all o) (jA all o) st.heap e then P5 T.strict st o.dst e λst=>iY C draw hd all rest (j+1) st k else none
  let skip (st:St):Option α:=jZ {st with env:=setEnv st.env o.dst (.vM [])} λst=>iY C draw hd all rest (j+1) st k
  match o.guard with
  | none=>go st
  | some (g,want) =>
   match BX all g with
   | none=>none
   | some t =>
    match st.env.getD t .undef with
    | .p (.bool b) =>
     cond b (bif want then go {st with env:=st.env.set t (.p (.bool true))}else skip {st with env:=st.env.set t (.p (.bool true))})
      (bif want then skip {st with env:=st.env.set t (.p (.bool false))}else go {st with env:=st.env.set t (.p (.bool false))})
    | .vM []=>skip st
    | _=>none
def qW(nv:Nat):List Oper->St->St
 |[],st=>st
 | o::r,st =>
  match o.op,o.dst with
  | .assign _,some d =>
   match st.env.getD d .undef with
   | .slice s _ _ _=>bif Nat.ble nv s&&(Nat.blt d nv&&Nat.blt s 100000)then qW nv r (st.Q8 s d)else qW nv r st
   | _=>qW nv r st
  | _,_=>qW nv r st
def aaH:List Nat->Nat->List Nat
 |[],_=>[]
 | x::r,d=>bif Nat.ble 1000000 x&&Nat.beq ((x-1000000) / 1000) d then((x-1000000)%1000)::aaH r d else aaH r d
def ajO(ts:List Nat)(d:Nat):List Nat:=bif l7 d ts then [d]else aaH ts d
def uS:List Nat->St->St
 |[],st=>st
 | x::r,st=>match deep (look st.heap) (st.env.getD x .undef)with
  | some (v,ss)=>bif kC ss then uS r {(st.strike ss)with env:=(st.strike ss).env.set x (.p v)}else uS r st
  | none=>uS r st
def freezes(ts:List Nat):List Oper->St->St
 |[],st=>st
 | o::r,st =>
  match o.op,o.dst with
  | .assign _,some d=>freezes ts r (uS (ajO ts d) st)
  | _,_=>freezes ts r st
def settle(F:Jc)(ops:List Oper)(st:St):St:=freezes F.frzs ops (qW F.nvars ops st)
def AP:Code->Option Nat
 | .region id _ _=>some id
 | .seq a b=>match AP a with
  | some i=>some i
  | none=>AP b
 | .block _ c=>AP c
 | .loop c=>AP c
 | .scope c=>AP c
 | .rangeFunc _ _ a b=>match AP a with
  | some i=>some i
  | none=>AP b
 | _=>none
def cutAt:List (Nat × List Nat × List Nat)->Nat->Option (List Nat × List Nat)
 |[],_=>none
 |(i,l,s)::r,j=>bif i==j then some (l,s)else cutAt r j
def dQ(F:Jc)(c:Code)(st:St):St:=
 match AP c with
 | none=>st
 | some i=>match cutAt F.cuts i with
  | none=>st
  | some (l,s)=>st.forget l s
def yV(fg:St->St)(body:St->(Ex->St->Option α)->Option α):Nat->St->(Ex->St->Option α)->Option α
 | 0,_,_=>none
 | m+1,st,k=>body st λex st' =>
  match ex with
  | .normal=>jZ (fg st') λst'=>yV fg body m st' k
  | .exit id=>k (.exit id) st'
  | .ret=>k .ret st'
open Classical in
noncomputable def lim(f:Nat->Option α):Option α:=if h:∃ x n,f n=some x then some h.choose else none
noncomputable def SS(fg:St->St)(body:St->(Ex->St->Option α)->Option α):Option Nat->St->(Ex->St->Option α)->Option α
 | some n,st,k=>yV fg body n st k
 | none,st,k=>lim λm=>yV fg body m st k
def ER(b:Option bZ)(st:St)(k:St->Option α):Option α:=
 match look st.heap ah with
 | some (.log _ _)=>match b with
  | some (.log on xs)=>k {st with heap:=put st.heap ah (.log on xs)}
  | _=>none
 | _=>k st
def gQ:Code->Bool
 | .seq a b=>gQ a&&gQ b
 | .cond _ a b=>gQ a&&gQ b
 | .block _ c=>gQ c
 | .loop c=>gQ c
 | .scope c=>gQ c
 | .rangeFunc _ _ _ _=>false
 | _=>true
def jM:Code->List Nat
 | .region _ ops _=>ops.toList.filterMap (·.dst)
 | .seq a b=>jM a++jM b
 | .cond _ a b=>jM a++jM b
 | .block _ c=>jM c
 | .loop c=>jM c
 | .scope c=>jM c
 | .rangeFunc _ ps a b=>ps.toList++(jM a++jM b)
 | _=>[]
def opsOf:Code->List Oper
 | .region _ ops _=>ops.toList
 | .seq a b=>opsOf a++opsOf b
 | .cond _ a b=>opsOf a++opsOf b
 | .block _ c=>opsOf c
 | .loop c=>opsOf c
 | .scope c=>opsOf c
 | .rangeFunc _ _ a b=>opsOf a++opsOf b
 | _=>[]
def yOp(ys:List Nat)(o:Oper):Bool:=
 (match o.dst with
 | some t=>bif l7 t ys then(match o.op with
  | .move (.tmp s)=>l7 s ys
  | .assign (.tmp s)=>l7 s ys
  | _=>false)else true
 | none=>true) &&
 (match o.op with
 | .call c=>match c.callee with
  | .value (.tmp t)=>l7 t ys
  | _=>true
 | _=>true)
def alZ(ys:List Nat):List Oper->Bool
 |[]=>true
 | o::r=>yOp ys o&&alZ ys r
def aaI(n:Nat):List Nat->Bool
 |[]=>true
 | t::r=>(Nat.beq t 0||Nat.blt n t)&&aaI n r
def rP(fi:FI)(n:Nat):Bool:=match fi.fn.body with | some c=>fi.cfg.gext||(gQ c&&(aaI n fi.cfg.ys&&(alZ fi.cfg.ys (opsOf c)&&(!fi.cfg.vcall&&!fi.cfg.take)))) | none=>false
def xG:Code->Bool
 | .skip=>true
 | .region _ _ _=>true
 | .seq a b=>xG a&&xG b
 | _=>false
def CY(ws:List Nat):Nat->List AV->List AV
 | _,[]=>[]
 | i,v::r=>(bif l7 i ws then .undef else v)::CY ws (i+1) r
def aeH:Bool × List Kd->PV->PV
 |(true,ks),v=>.agg (kP ks v 0)
 |(false,[k]),v=>eta k v
 | _,v=>v
def IX:List (Bool × List Kd)->List Nat->PV->Nat->List AV->Option (List AV)
 |[],[],v,i,env=>bif Nat.beq v.cells.length i then some env else none
 | s::ss,t::ts,v,i,env=>bif bY s.1 s.2 (v.cell i)then IX ss ts v (i+1) (env.set t (.p (aeH s (v.cell i))))else none
 | _,_,_,_,_=>none
def back(ws:List Nat)(st:St):St:={st with env:=CY ws 0 st.env}
def IY(fg:St->St)(ws:List Nat)(L:St->Option α)(k:Ex->St->Option α):Ex->St->Option α
 | .normal,st=>jZ (fg (back ws st)) L
 | .exit id,st=>jZ (back ws st) (k (.exit id))
 | .ret,st=>jZ (back ws st) (k .ret)
def wO(fg:St->St)(ss:List (Bool × List Kd))(ps ws:List Nat)(round:St->(Ex->St->Option α)->Option α):List PV->St->(Ex->St->Option α)->Option α
 |[],st,k=>k .normal st
 | v::xs,st,k =>
  match IX ss ps v 0 st.env with
  | none=>none
  | some env=>jZ {st with env:=env} λst=>round st (IY fg ws (λst=>wO fg ss ps ws round xs st k) k)
def uY(l:List bZ):List PV:=(l.headD (.box [])).ls
def P6(l:List Nat):Nat->Bool
 | 0=>true
 | n+1=>l7 n l&&P6 l n
def uT(tab:List (List Nat))(j:Nat):Nat->List Oper->Bool
 | _,[]=>true
 | i,_::r=>(Nat.blt i j||P6 (tab.getD i []) i)&&uT tab j (i+1) r
def aaJ(ys:List Nat):Nat->List Oper->Option Nat
 | _,[]=>none
 | i,o::r=>match o.op with
  | .call c=>match c.callee with
   | .value (.tmp t)=>bif l7 t ys then some i else aaJ ys (i+1) r
   | _=>aaJ ys (i+1) r
  | _=>aaJ ys (i+1) r
def aht(ys:List Nat)(ops:List Oper):Option Nat:=match ys with
 |[]=>none
 | _=>match aaJ ys 0 ops with
  | some j=>bif uT (eU ops []) j 0 ops then some j else none
  | none=>none
noncomputable def dH(C:aH)(F:FI)(n:Option Nat):Code->St->(Ex->St->Option α)->Option α
 | .skip,st,k=>k .normal st
 | .region id ops draw,st,k =>
  match draw with
  | false=>iY T C false [] ops.toList ops.toList 0 st λst'=>jZ (settle F.cfg ops.toList st') λst'=>k .normal st'
  | true =>
   match dZ F.hides id with
   | some hd=>jZ (st.strike (present st.heap (G7 ops.toList ops.toList))) λst =>
    match aht F.cfg.ys ops.toList with
    | none=>iY T C true hd ops.toList ops.toList 0 st λst'=>ER (look st.heap ah) st' λst'=>jZ (settle F.cfg ops.toList st') λst'=>k .normal st'
    | some j=>iY T C true hd ops.toList (ops.toList.take j) 0 st λst'=>ER (look st.heap ah) st' λst'=>iY T C false [] ops.toList (ops.toList.drop j) j st' λst'=>jZ (settle F.cfg ops.toList st') λst'=>k .normal st'
   | none=>none
 | .seq a b,st,k=>dH C F n a st λex st' =>
  match ex with
  | .normal=>dH C F n b (dQ F.cfg b st') k
  | .exit id=>k (.exit id) st'
  | .ret=>k .ret st'
 | .cond c x y,st,k =>
  match dP st.env c with
  | .p (.bool b)=>cond b (dH C F n x st k) (dH C F n y st k)
  | _=>none
 | .block id c,st,k=>dH C F n c st λex st' =>
  match ex with
  | .normal=>k .normal st'
  | .exit i=>bif i==id then k .normal st' else k (.exit i) st'
  | .ret=>k .ret st'
 | .scope c,st,k=>dH C F n c st k
 | .loop c,st,k=>SS (dQ F.cfg c) (λst' k'=>dH C F n c st' k') n (dQ F.cfg c st) k
 | .exit id,st,k=>k (.exit id) st
 | .ret,st,k=>k .ret st
 | .label _,st,k=>k .normal st
 | .rangeFunc f ps a b,st,k =>
  match dP st.env f with
  | .p (.fn g caps) =>
   match dZ T.funcs g,xG a with
   | some fi,true =>
    bif rP fi caps.length then
    match C g (.yL::caps.map .p) [.log true []]with
    | some r=>wO (dQ F.cfg (.seq a b)) fi.cfg.yk ps.toList (ps.toList ++ (jM a ++ jM b))
        (λst k=>dH C F n a st λex st' =>
          match ex with
          | .normal=>dH C F n b (dQ F.cfg b st') k
          | .exit id=>k (.exit id) st'
          | .ret=>k .ret st') (uY r.2) (dQ F.cfg (.seq a b) st) k
    | none=>none
    else none
   | _,_=>none
  | _=>none
 | _,_,_=>none
end
def WH(h:Nat->Option bZ)(m:nC)(t:TypeId)(v:AV):Option (AV × List Nat):=
 match m with
 | .deep=>match deep h v with
  | some (x,ss)=>bif bY (dD T t).1 (dD T t).2 x&&ss.all (λs=>Nat.blt s 100000)then some (.p x,ss)else none
  | none=>none
 | .fresh=>match und T t with
  | some (.slice e) =>
   match v with
   | .slice s _ off len=>match h s with
    | some (.arr a ks xs) =>
     bif a==(dD T e).1&&Kd.Fe ks (dD T e).2&&Nat.blt s 100000 then some (.fresh a ks ((xs.drop off).take len),[s])else none
    | _=>none
   | .p .nil=>some (.fresh (dD T e).1 (dD T e).2 [],[])
   | _=>none
  | _=>none
 | .alias j=>match v,und T t with
  | .slice s z off len,some (.slice e)=>bif s==ah+j&&z==(dD T e).2.length then some (.slice s z off len,[])else none
  | _,_=>none
 | .func g qs=>match deep h v with
  | some (.fn f cs,ss)=>bif (f==g&&JU qs cs)&&ss.all (λs=>Nat.blt s 100000)then some (.p (.fn f cs),ss)else none
  | _=>none
def CZ(h:Heap):List nC->List TypeId->List AV->Option (List AV)
 | _,[],[]=>some []
 | ms,t::ts,v::vs =>
  match WH T (look h) (ms.headD .deep) t v with
  | some (x,ss)=>match CZ (sG h ss) ms.tail ts vs with
   | some xs=>some (x::xs)
   | none=>none
  | none=>none
 | _,_,_=>none
def acM:AV->AV->Bool
 | .p (.int k _),.p (.int j _)=>k==j
 | .p (.int _ _),_=>false
 | .p (.bool _),.p (.bool _)=>true
 | .p (.bool _),_=>false
 | .p (.str _),.p (.str _)=>true
 | .p (.str _),_=>false
 | .p (.list a ks _),.p (.list b ls _)=>a==b&&Kd.Fe ks ls
 | .p (.list _ _ _),_=>false
 | _,_=>true
def xH:List AV->List AV->Bool
 |[],[]=>true
 | x::xs,y::ys=>acM x y&&xH xs ys
 | _,_=>false
def backOk:bZ->bZ->Bool
 | .arr a ks _,.arr b ls _=>a==b&&Kd.Fe ks ls
 | .box cs,.box ds=>xH cs ds
 | .log _ _,.log _ _=>true
 | _,_=>false
def LK:bZ->Bool
 | .log _ _=>true
 | b=>iI b
def G8(h:Heap):Nat->List bZ->Option (List bZ)
 | _,[]=>some []
 | i,b0::r=>match look h (ah+i),G8 h (i+1) r with
  | some b,some bs=>bif LK b&&backOk b0 b then some (b::bs)else none
  | _,_=>none
def agd(env:List AV)(h:Nat->Option bZ):ResultVar->Option AV
 | .tmp t=>some (env.getD t .undef)
 | .cell t ty=>match env.getD t .undef,yG T ty with
  | .ptr s 0 0,some n=>match h s with
   | some (.box cs)=>zT T ty n cs 0
   | _=>none
  | _,_=>none
def J6(env:List AV)(h:Nat->Option bZ):List ResultVar->Option (List AV)
 |[]=>some []
 | r::rs=>match agd T env h r,J6 env h rs with
  | some v,some vs=>some (v::vs)
  | _,_=>none
def aeI(F:Jc)(fn:Func)(bl:List bZ)(st:St):Option (List AV × List bZ):=
 match J6 T st.env (look st.heap) fn.results.toList with
 | none=>none
 | some vs =>
  match CZ T st.heap F.rets fn.resultTypes.toList vs,G8 st.heap 0 bl with
  | some rs,some bl=>qE T.strict rs λrs=>zx T.strict bl λbl=>some (rs,bl)
  | _,_=>none
def iW:Nat->List bZ->Heap
 | _,[]=>[]
 | i,b::r=>(ah+i,b)::iW (i+1) r
def ES(fn:Func)(args:List AV)(bl:List bZ):St:=
 {env:=args++List.replicate (fn.ntmps-args.length) .undef,heap:=iW 0 bl}
def Ee(F:Jc)(bl:List bZ):Bool:=match F.gext with
 | true=>false
 | false=>match F.vcall with
  | true=>match bl with
   |[.box [.slice _ _ _ _],.arr _ _ _]=>true
   | _=>false
  | false=>match F.take with
   | true=>match bl with
    |[.log false [],.arr _ _ _]=>true
    | _=>false
   | false=>true
def acN:List bZ->Heap
 |[_,b]=>[(99999,b)]
 | _=>[]
def Rq(F:Jc)(fn:Func)(args:List AV)(bl:List bZ):St:=match F.vcall with
 | true=>{env:=args++List.replicate (fn.ntmps-args.length) .undef,heap:=sH bl}
 | false=>match F.take with
  | true=>{env:=args++List.replicate (fn.ntmps-args.length) .undef,heap:=acN bl}
  | false=>ES fn args bl
def G9:List nC->Bool
 |[]=>true
 | .deep::r=>G9 r
 | _=>false
def ap2(F:Jc)(fn:Func)(bl:List bZ)(st:St):Option (List AV × List bZ):=
 match J6 T st.env (look st.heap) fn.results.toList,bl with
 | some vs,[_,.arr a0 ks0 _]=>match look st.heap ah with
  | some (.box [.slice X _ off len])=>match look st.heap X with
   | some (.arr a ks xs) =>
    bif (a==a0&&Kd.Fe ks ks0)&&(G9 F.rets&&Nat.blt X 100000)then
    match CZ T (sG st.heap [ah,X]) F.rets fn.resultTypes.toList vs with
    | some rs=>qE T.strict rs λrs=>zx T.strict [.box [.slice 99999 ks0.length off len],.arr a0 ks0 xs] λbl=>some (rs,bl)
    | none=>none
    else none
   | _=>none
  | _=>none
 | _,_=>none
def ap3(F:Jc)(fn:Func)(st:St):Option (List AV × List bZ):=
 match J6 T st.env (look st.heap) fn.results.toList with
 | none=>none
 | some vs =>
  match CZ T st.heap F.rets fn.resultTypes.toList vs with
  | some rs=>qE T.strict rs λrs=>some (rs,[])
  | none=>none
def aeJ(F:Jc)(fn:Func)(bl:List bZ)(st:St):Option (List AV × List bZ):=match F.vcall with
 | true=>ap2 T F fn bl st
 | false=>match F.take with
  | true=>ap3 T F fn st
  | false=>aeI T F fn bl st
abbrev Ext:=Nat->Option (List AV->List bZ->Option (List AV × List bZ))
noncomputable def lK(X:Ext):Nat->aH
 | 0,_,_,_=>none
 | n+1,f,args,bl =>
  match dZ T.funcs f with
  | none=>none
  | some fi =>
   match X f with
   | some s=>s args bl
   | none =>
   match fi.fn.body with
   | none=>none
   | some c=>bif Ee fi.cfg bl then
    qE T.strict args λargs=>zx T.strict bl λbl=>jZ (Rq fi.cfg fi.fn args bl) λst =>
    dH T (lK X n) fi (some n) c st λex st =>
     match ex with
     | .exit _=>none
     | _=>aeJ T fi.cfg fi.fn bl st
    else none
def Iz(ops:List Oper):List (List Nat):=
 let tab:=eU ops []
 (List.range ops.length).map λj=>Dt T ops tab j 0 ops
def um:List (List Nat)->List (List Nat)->Bool
 |[],[]=>true
 | x::xs,y::ys=>x==y&&um xs ys
 | _,_=>false
def gy(hides:List (Nat × List (List Nat))):Code->Bool
 | .region id ops true=>match dZ hides id with
  | none=>true
  | some hd=>FD T ops.toList (eU ops.toList []) hd 0 ops.toList&&um hd (Iz T ops.toList)
 | .seq a b=>gy hides a&&gy hides b
 | .cond _ a b=>gy hides a&&gy hides b
 | .block _ c=>gy hides c
 | .loop c=>gy hides c
 | .scope c=>gy hides c
 | .rangeFunc _ _ a b=>gy hides a&&gy hides b
 | _=>true
end
end
section
variable {w w':World}{b n:Nat}{M M':Nat->Prop}{v x:PV}{k:Kd}{a:Bool}{ks:List Kd}{C:Array Value}{fr:Nat × Nat}{β β':Nat -> Option (Nat × Nat)}{h h':Nat -> Option bZ}
def PV.leaf:PV->Bool
 | .agg _=>false
 | _=>true
def AV.leaf:AV->Bool
 | .p v=>v.leaf
 | .agg _=>false
 | .vM _=>false
 | .fresh _ _ _=>false
 | _=>true
def Open(C:Array Value)(fr:Nat × Nat):Prop:=fr.1=fr.2\/C.size<=fr.1
def Room(w:World)(b n:Nat):Prop:=∃ C e fr,w.heap[b]?=some (.cells C e fr)/\n / 2<=C.size/\(n%2=0->Open C fr)
inductive VR (w:World) (M:Nat->Prop):PV->Value->Prop
 | bool (b:Bool):VR w M (.bool b) (.bool b)
 | int (k:IntKind) (n:Int):VR w M (.int k n) (.int k n)
 | str (s:ByteArray):VR w M (.str s) (.string s)
 | agg (cs : List PV) (vs : Array Value) (hn : vs.size = cs.length) (hl : ∀ c ∈ cs,c.leaf = true)
     (h:∀ (i:Nat) (c:PV),cs[i]?=some c->VR w M c (vs.getD i undef)):VR w M (.agg cs) (.agg vs)
 | list (a : Bool) (ks : List Kd) (xs : List PV) (b o cap : Nat) (f : Nat -> Nat -> Value) (hM : M b) (hcap : xs.length <= cap)
     (hc:∀ (i:Nat) (x:PV) (j:Nat) (c:PV),xs[i]?=some x->x.cells[j]?=some c->w.cell? ⟨b,o+i*ks.length+j,none⟩=some (f i j))
     (hv:∀ (i:Nat) (x:PV) (j:Nat) (c:PV),xs[i]?=some x->x.cells[j]?=some c->VR w M c (f i j))
     (hs:∀ x∈xs,bY a ks x=true):VR w M (.list a ks xs) (.slice (some ⟨b,o,none⟩) xs.length cap)
 | wW (a:Bool) (ks:List Kd) (base:Option Addr) (cap:Nat):VR w M (.list a ks []) (.slice base 0 cap)
 | full (a : Bool) (ks : List Kd) (xs : List PV) (b o : Nat) (f : Nat -> Nat -> Value) (hM : M b)
     (hc:∀ (i:Nat) (x:PV) (j:Nat) (c:PV),xs[i]?=some x->x.cells[j]?=some c->w.cell? ⟨b,o+i*ks.length+j,none⟩=some (f i j))
     (hv:∀ (i:Nat) (x:PV) (j:Nat) (c:PV),xs[i]?=some x->x.cells[j]?=some c->VR w M c (f i j))
     (hs:∀ x∈xs,bY a ks x=true):VR w M (.full a ks xs) (.slice (some ⟨b,o,none⟩) xs.length xs.length)
 | SV (a:Bool) (ks:List Kd) (base:Option Addr):VR w M (.full a ks []) (.slice base 0 0)
 | nil:VR w M .nil (.slice none 0 0)
 | fn (f : Nat) (cs : List PV) (vs : Array Value) (hn : vs.size = cs.length)
     (h:∀ (i:Nat) (c:PV),cs[i]?=some c->VR w M c (vs.getD i undef)):VR w M (.fn f cs) (.func (.func f) #[] vs)
 | ref (cs : List PV) (b o : Nat) (f : Nat -> Value) (hM : M b) (hl : ∀ c ∈ cs,c.leaf = true)
     (hc:∀ (j:Nat) (c:PV),cs[j]?=some c->w.cell? ⟨b,o+j,none⟩=some (f j))
     (hv:∀ (j:Nat) (c:PV),cs[j]?=some c->VR w M c (f j)) (ho:Room w b (2*(o+cs.length))):VR w M (.ref cs) (.pointer (some ⟨b,o,none⟩))
 | aau:VR w M .aau (.pointer none)
 | sF:VR w M .sF .nilFunc
theorem cell_of_heap{i:Nat}(h:w'.heap[b]?=w.heap[b]?):w'.cell? ⟨b,i,none⟩=w.cell? ⟨b,i,none⟩:=by simp[World.cell?,h]
theorem VR.mono(p:∀ b,M b->M' b/\w'.heap[b]?=w.heap[b]?){c:Value}(h:VR w M v c):VR w' M' v c:=by
 induction h with
 | bool b=>exact .bool b
 | int k n=>exact .int k n
 | str s=>exact .str s
 | agg cs vs D E _ g=>exact .agg cs vs D E g
 | list a ks xs b o cap f m r z _ B g =>exact .list a ks xs b o cap f (p b m).1 r (λi x j c q A=>by rw[cell_of_heap (p b m).2];exact z i x j c q A) g B
 | wW a ks base cap=>exact .wW a ks base cap
 | full a ks xs b o f m z _ B g =>exact .full a ks xs b o f (p b m).1 (λi x j c q A=>by rw[cell_of_heap (p b m).2];exact z i x j c q A) g B
 | SV a ks base=>exact .SV a ks base
 | nil=>exact .nil
 | fn f cs vs D _ g=>exact .fn f cs vs D g
 | ref cs b o f m E z _ F g =>exact .ref cs b o f (p b m).1 E (λj c q=>by rw[cell_of_heap (p b m).2];exact z j c q) g (by obtain⟨C,e,fr,q,A,G⟩:=F;exact⟨C,e,fr,(p b m).2.trans q,A,G⟩)
 | aau=>exact .aau
 | sF=>exact .sF
theorem VR.one{c:Value}(h:VR w M v c)(g:v.leaf=true):c.oneCell'=true:=by cases h<;>first | rfl | simp[PV.leaf]at g
theorem VR.NW{c:Value}(h:VR w M v c)(g:v.leaf=true):c.cells=#[c]:=by cases h<;>first | rfl | simp[PV.leaf]at g
mutual
theorem Kd.beq_eq:∀(x y:Kd),Kd.beq x y=true->x=y
 | .int j,.int k,h=>by simp[Kd.beq]at h;rw[h]
 | .bool,.bool,_=>rfl
 | .str,.str,_=>rfl
 | .slice a ks,.slice b ls,h=>by simp[Kd.beq]at h;rw[h.1,Kd.uD ks ls h.2]
 | .other,.other,_=>rfl
 | .int _,.bool,h | .int _,.str,h | .int _,.slice _ _,h | .int _,.other,h
 | .bool,.int _,h | .bool,.str,h | .bool,.slice _ _,h | .bool,.other,h
 | .str,.int _,h | .str,.bool,h | .str,.slice _ _,h | .str,.other,h
 | .slice _ _,.int _,h | .slice _ _,.bool,h | .slice _ _,.str,h | .slice _ _,.other,h
 | .other,.int _,h | .other,.bool,h | .other,.str,h | .other,.slice _ _,h=>by simp[Kd.beq]at h
theorem Kd.uD:∀(x y:List Kd),Kd.Fe x y=true->x=y
 |[],[],_=>rfl
 | k::ks,l::ls,h=>by simp[Kd.Fe]at h;rw[Kd.beq_eq k l h.1,Kd.uD ks ls h.2]
 |[],_::_,h | _::_,[],h=>by simp[Kd.Fe]at h
end
mutual
theorem Kd.beq_refl:∀(x:Kd),Kd.beq x x=true
 | .int j=>by simp[Kd.beq]
 | .bool=>rfl
 | .str=>rfl
 | .slice a ks=>by simp[Kd.beq,Kd.rO ks]
 | .other=>rfl
theorem Kd.rO:∀(x:List Kd),Kd.Fe x x=true
 |[]=>rfl
 | k::ks=>by simp[Kd.Fe,Kd.beq_refl k,Kd.rO ks]
end
theorem lg(h:kindOk k v=true):v.leaf=true:=by cases v<;>first | rfl |(cases k<;>simp[kindOk]at h)
theorem IB{c:Value}(g:kindOk k v=true)(h:VR w M v c):VR w M (eta k v) c:=by
 cases k with
 | int j=>cases v<;>simp[kindOk]at g;subst g;exact h
 | bool=>cases v<;>simp[kindOk]at g;exact h
 | str=>cases v<;>simp[kindOk]at g;exact h
 | slice a ks =>
  cases v<;>simp[kindOk]at g
  . obtain⟨rfl,m⟩:=g;rw[<- Kd.uD _ _ m]at h;exact h
  . cases h;exact .wW a ks none 0
 | other=>exact h
theorem WI(g:kindOk k v=true):(eta k v).leaf=true:=by cases k<;>first | rfl | exact lg g
theorem ajP(g:kindOk k v=true):kindOk k (eta k v)=true:=by
 cases k with
 | slice a ks=>simp[eta,kindOk,Kd.rO]
 | other=>exact g
 | _=>simp[eta,kindOk]
theorem nH:∀{ks:List Kd} {vs:List PV},gV ks vs=true->ks.length=vs.length/\∀(j:Nat) (k:Kd) (v:PV),ks[j]?=some k->vs[j]?=some v->kindOk k v=true
 |[],[],_=>⟨rfl,λj k v h=>by simp at h⟩
 | k::ks,v::vs,h=>by simp[gV]at h;obtain⟨m,g⟩:=nH h.2;grind
 |[],_::_,h | _::_,[],h=>by simp[gV]at h
theorem vU(h:bY a ks x=true):gV ks x.cells=true:=by
 cases a with
 | true=>cases x<;>simp[bY]at h;exact h
 | false =>
  match ks with
  |[]=>simp[bY]at h
  |[k] =>simp[bY]at h;have g:=lg h;cases x<;>first |(simp[PV.leaf]at g;done) | simpa[PV.cells,gV] using h
  | _::_::_=>simp[bY]at h
theorem gq(h:bY a ks x=true):x.cells.length=ks.length:=(nH (vU h)).1.symm
theorem uU(h:bY a ks x=true){j:Nat}(m:ks[j]?=some k):∃ c,x.cells[j]?=some c/\kindOk k c=true/\x.cell j=c:=by
 obtain⟨r,p⟩:=nH (vU h);have q:j<ks.length:=by grind
 have g:j<x.cells.length:=by omega
 refine⟨x.cells[j],by simp,p j k _ m (by simp),?_⟩;cases x with
 | agg cs=>simp[PV.cells]at g ⊢;simp[PV.cell,List.getD,g]
 | _=>simp[PV.cells]at g ⊢;simp[PV.cell]
theorem Open.at(h:Open C fr):∀ i,i<C.size->¬(fr.1<=i/\i<fr.2):=by intro i hi g;rcases h with h | h<;>omega
theorem Open.size{C':Array Value}(h:Open C fr)(g:C'.size=C.size):Open C' fr:=by
 rcases h with h | h
 . exact .inl h
 . exact .inr (by omega)
theorem Room.mk{e:TypeId}(h:w.heap[b]?=some (.cells C e fr))(j:n<=C.size)(g:Open C fr):Room w b (2*n):=⟨C,e,fr,h,by omega,λ_=>g⟩
theorem Room.get(h:Room w b (2*n)):∃ C e fr,w.heap[b]?=some (.cells C e fr)/\n<=C.size/\Open C fr:=by obtain⟨C,e,fr,m,j,g⟩:=h;grind
section
variable (w:World) (M:Nat->Prop) (β:Nat->Option (Nat × Nat)) (h:Nat->Option bZ)
inductive AR:AV->Value->Prop
 | undef (c:Value):AR .undef c
 | p (v:PV) (c:Value) (hv:VR w M v c):AR (.p v) c
 | slice (s off len : Nat) (a : Bool) (ks : List Kd) (xs : List PV) (b o cap : Nat) (hs : h s = some (.arr a ks xs)) (hl : off + len <= xs.length) (hb : β s = some (b,o))
     (hcap:len<=cap) (hr:Room w b (2*(o+(off+cap)*ks.length))):AR (.slice s ks.length off len) (.slice (some ⟨b,o+off*ks.length,none⟩) len cap)
 | sliceE (s off:Nat) (a:Bool) (ks:List Kd) (xs:List PV) (base:Option Addr) (hs:h s=some (.arr a ks xs)) (hl:off<=xs.length):AR (.slice s ks.length off 0) (.slice base 0 0)
 | bslice (s off len : Nat) (cs : List AV) (b o cap : Nat) (hs : h s = some (.box cs)) (hl : off + cap <= cs.length) (hb : β s = some (b,o))
     (hcap:len<=cap):AR (.bslice s off len) (.slice (some ⟨b,o+off,none⟩) len cap)
 | bsliceE (s off:Nat) (cs:List AV) (base:Option Addr) (hs:h s=some (.box cs)) (hl:off<=cs.length):AR (.bslice s off 0) (.slice base 0 0)
 | ptrB (s off:Nat) (cs:List AV) (b o:Nat) (hs:h s=some (.box cs)) (hb:β s=some (b,o)):AR (.ptr s 0 off) (.pointer (some ⟨b,o+off,none⟩))
 | ptrA (s idx off : Nat) (a : Bool) (ks : List Kd) (xs : List PV) (b o : Nat) (hs : h s = some (.arr a ks xs)) (hi : idx < xs.length) (hb : β s = some (b,o)) :
     AR (.ptr s idx off) (.pointer (some ⟨b,o+idx*ks.length+off,none⟩))
 | rE (a : Bool) (ks : List Kd) (x : PV) (off b o : Nat) (f : Nat -> Value) (hM : M b) (hx : bY a ks x = true)
     (hc:∀ (j:Nat) (c:PV),x.cells[j]?=some c->w.cell? ⟨b,o+j,none⟩=some (f j))
     (hv:∀ (j:Nat) (c:PV),x.cells[j]?=some c->VR w M c (f j)):AR (.rE a ks x off) (.pointer (some ⟨b,o+off,none⟩))
 | fn (f : Nat) (cs : List AV) (vs : Array Value) (hn : vs.size = cs.length)
     (hc:∀ (i:Nat) (c:AV),cs[i]?=some c->AR c (vs.getD i undef)):AR (.fn f cs) (.func (.func f) #[] vs)
 | agg (cs : List AV) (vs : Array Value) (hn : vs.size = cs.length) (hl : ∀ c ∈ cs,c.leaf = true)
     (hc:∀ (i:Nat) (c:AV),cs[i]?=some c->AR c (vs.getD i undef)):AR (.agg cs) (.agg vs)
 | vM (cs : List AV) (vs : Array Value) (hn : vs.size = cs.length)
     (hc:∀ (i:Nat) (c:AV),cs[i]?=some c->AR c (vs.getD i undef)):AR (.vM cs) (.tuple vs)
 | yL (l:Nat):AR .yL (.func (.yield l) #[] #[])
inductive BR (s:Nat):bZ->Prop
 | box (cs : List AV) (b o : Nat) (C : Array Value) (e : TypeId) (fr : Nat × Nat) (hb : β s = some (b,o)) (hw : w.heap[b]? = some (.cells C e fr)) (hn : o + cs.length <= C.size)
     (ho:Open C fr) (hl:∀ c∈cs,c.leaf=true) (hc:∀ (j:Nat) (c:AV),cs[j]?=some c->AR w M β h c (C.getD (o+j) undef)):BR s (.box cs)
 | lU (a:Bool) (ks:List Kd):BR s (.arr a ks [])
 | arr (a : Bool) (ks : List Kd) (xs : List PV) (b o : Nat) (C : Array Value) (e : TypeId) (fr : Nat × Nat) (hb : β s = some (b,o)) (hw : w.heap[b]? = some (.cells C e fr))
     (hn:o+xs.length*ks.length<=C.size) (ho:Open C fr) (hs:∀ x∈xs,bY a ks x=true)
     (hc:∀ (i:Nat) (x:PV) (j:Nat) (c:PV),xs[i]?=some x->x.cells[j]?=some c->VR w M c (C.getD (o+i*ks.length+j) undef)):BR s (.arr a ks xs)
 | log (on:Bool) (xs:List PV):BR s (.log on xs)
end
def Like:bZ->bZ->Prop
 | .box cs,.box ds=>cs.length=ds.length
 | .arr a ks xs,.arr b ls ys=>a=b/\ks=ls/\xs.length<=ys.length
 | .log a _,.log b _=>a=b
 | _,_=>False
theorem Like.refl(x:bZ):Like x x:=by cases x<;>simp[Like]
def ap4:bZ->Nat->Prop
 | .box _,_=>False
 | _,_=>True
theorem AR.amO(Q:∀ b,M b->M' b/\w'.heap[b]?=w.heap[b]?)
    {v:AV}{c:Value}(L:AR w M β h v c)
    (E:∀ s blk,AV.refers [s] v=true->h s=some blk->∃ blk',h' s=some blk'/\Like blk blk'/\β' s=β s/\(∀ b o n,β s=some (b,o)->ap4 blk n->Room w b n->Room w' b n)):AR w' M' β' h' v c:=by
  have any:∀(s:Nat) (cs:List AV) (i:Nat) (c:AV),cs[i]?=some c->AV.refers [s] c=true->AV.kY [s] cs=true:=by
   intro s cs;induction cs with
   | nil=>intro i c hi;simp at hi
   | cons x r I=>grind[AV.kY]
  have H:∀ s:Nat,l7 s [s]=true:=λs=>by simp[l7]
  induction L with
  | undef c=>exact .undef c
  | p v c L=>exact .p v c (L.mono Q)
  | slice s off len a ks xs b o cap m O B A G =>
   obtain⟨blk',D,g,F,J⟩:=E s _ (by simp[AV.refers,H]) m;cases blk' with
   | box cs=>exact g.elim
   | log _ _=>exact g.elim
   | arr a' K z =>obtain⟨rfl,rfl,S⟩:=g;exact .slice s off len a ks z b o cap D (by omega) (F▸B) A (J _ _ _ B trivial G)
  | sliceE s off a ks xs base m O =>
   obtain⟨blk',D,g,F,J⟩:=E s _ (by simp[AV.refers,H]) m;cases blk' with
   | box cs=>exact g.elim
   | log _ _=>exact g.elim
   | arr a' K z =>obtain⟨rfl,rfl,S⟩:=g;exact .sliceE s off a ks z base D (by omega)
  | bslice s off len cs b o cap m O B A =>
   obtain⟨blk',D,g,F,J⟩:=E s _ (by simp[AV.refers,H]) m;cases blk' with
   | box q=>exact .bslice s off len q b o cap D (by have:cs.length=q.length:=g;omega) (F▸B) A
   | arr _ _ _=>exact g.elim
   | log _ _=>exact g.elim
  | bsliceE s off cs base m O =>
   obtain⟨blk',D,g,F,J⟩:=E s _ (by simp[AV.refers,H]) m;cases blk' with
   | box q=>exact .bsliceE s off q base D (by have:cs.length=q.length:=g;omega)
   | arr _ _ _=>exact g.elim
   | log _ _=>exact g.elim
  | ptrB s off cs b o m B =>
   obtain⟨blk',D,g,F,J⟩:=E s _ (by simp[AV.refers,H]) m;cases blk' with
   | box q=>exact .ptrB s off q b o D (F▸B)
   | arr _ _ _=>exact g.elim
   | log _ _=>exact g.elim
  | ptrA s R off a ks xs b o m hi B =>
   obtain⟨blk',D,g,F,J⟩:=E s _ (by simp[AV.refers,H]) m;cases blk' with
   | box cs=>exact g.elim
   | log _ _=>exact g.elim
   | arr a' K z =>obtain⟨rfl,rfl,S⟩:=g;exact .ptrA s R off a ks z b o D (by omega) (F▸B)
  | rE a ks x off b o f B U V L =>exact .rE a ks x off b o f (Q b B).1 U (λj c m=>by rw[cell_of_heap (Q b B).2];exact V j c m) (λj c m=>(L j c m).mono Q)
  | fn f cs vs N _ I=>exact .fn f cs vs N λi c hi=>I i c hi λs blk G=>E s blk (by simp only[AV.refers];exact any s cs i c hi G)
  | agg cs vs N O _ I=>exact .agg cs vs N O λi c hi=>I i c hi λs blk G=>E s blk (by simp only[AV.refers];exact any s cs i c hi G)
  | vM cs vs N _ I=>exact .vM cs vs N λi c hi=>I i c hi λs blk G=>E s blk (by simp only[AV.refers];exact any s cs i c hi G)
  | yL l=>exact .yL l
theorem AR.mono(p:∀ b,M b->M' b/\w'.heap[b]?=w.heap[b]?)
    {v:AV}{c:Value}(g:AR w M β h v c)
    (j:∀ s blk,AV.refers [s] v=true->h s=some blk->∃ blk',h' s=some blk'/\Like blk blk'/\β' s=β s/\(∀ b o n,β s=some (b,o)->Room w b n->Room w' b n)):AR w' M' β' h' v c:=
  g.amO p λs blk r q=>let ⟨blk',e1,e2,e3,e4⟩:=j s blk r q;⟨blk',e1,e2,e3,λb o n h _ m=>e4 b o n h m⟩
structure Base where
 wd:World
 n0:Nat
 le:n0<=wd.heap.size
 gl:Option (List (Nat × Obj))
abbrev Base.heap(b:Base):=b.wd.heap
abbrev Base.os(b:Base):=b.wd.os
abbrev Base.tape(b:Base):=b.wd.tape
abbrev Base.output(b:Base):=b.wd.output
abbrev Base.drawn(b:Base):=b.wd.drawn
theorem Base.le'(b:Base):b.n0<=b.heap.size:=b.le
structure Rel (w0:Base) (Pr M0:Nat->Prop) (M:Nat->Prop) (β:Nat->Option (Nat × Nat)) (st:St) (a:Act) (w:World):Prop where
 qK:st.env.length<=a.tmps.size
 env:∀ (t:Nat) (v:AV),st.env[t]?=some v->AR w M β (look st.heap) v (a.tmps.getD t undef)
 heap:∀ s blk,look st.heap s=some blk->BR w M β (look st.heap) s blk
 own:∀ s b o,(look st.heap s).isSome=true->β s=some (b,o)->¬ M b/\b<w.heap.size/\((w0.heap.size<=b\/Pr b)/\(w0.n0<=b\/ah<=s))
 inj:∀ s s' b o o',(look st.heap s).isSome=true->(look st.heap s').isSome=true->β s=some (b,o)->β s'=some (b,o')->s=s'
 iU:∀ b,M b->b<w.heap.size
 oD:∀ b,M b->M0 b\/(w0.n0<=b/\(w0.heap.size<=b\/Pr b))
 vW:∀ b,M0 b->M b
 keep:∀ b,b<w0.heap.size->¬ Pr b->w.heap[b]?=w0.heap[b]?
 room:∀ b n,b<w0.n0->Pr b->Room w0.wd b n->Room w b n
 size:w0.heap.size<=w.heap.size
 os:w.os=w0.os
 tape:w.tape=w0.tape
 output:w.output=w0.output
 glob:∀ p∈w0.gl.getD [],M p.1/\w.heap[p.1]?=some p.2
end
section
theorem oV{x:Nat}:∀{l:List Nat},l7 x l=true↔x∈l
 |[]=>by simp[l7]
 | y::r=>by simp[l7,List.mem_cons,oV]
theorem iV{x:Nat}{l:List Nat}:l7 x l=false↔x ∉ l:=by grind[oV]
theorem eH(hp:Heap)(s:Nat)(b:bZ)(x:Nat):look (put hp s b) x=if x=s then some b else look hp x:=by
 induction hp with
 | nil =>
  by_cases h:x=s
  . subst h;simp[put,look]
  . have h':(s==x)=false:=by simpa using λe=>h e.symm
    simp[put,look,h,h']
 | cons p r q =>
  obtain⟨k,c⟩:=p;by_cases z:k=s
  . subst z;by_cases h:x=k
    . subst h;simp[put,look]
    . have h':(k==x)=false:=by simpa using λe=>h e.symm
      simp[put,look,h,h']
  . have g:(k==s)=false:=by simpa using z
    by_cases h:x=s
    . subst h;have m:(k==x)=false:=g;simp only[put,g,qCf,look,q,if_true]
    . by_cases m:k=x
      . subst m;simp[put,g,look,h]
      . have j:(k==x)=false:=by simpa using m
        simp only[put,g,qCf,look,j,q,h,if_false]
theorem aeK(hp:Heap)(s x:Nat):look (drop1 hp s) x=if x=s then none else look hp x:=by
 induction hp with
 | nil=>simp[drop1,look]
 | cons p r g=>grind[drop1,look]
theorem yI(x:Nat):∀(ss:List Nat) (hp:Heap),look (sG hp ss) x=if x∈ss then none else look hp x
 |[],hp=>by simp[sG]
 | s::r,hp=>by simp only[sG,yI x r,aeK,List.mem_cons];grind
theorem jO(ss:List Nat)(x:Nat):∀(hp:Heap),look (jL ss hp) x=(look hp x).map (bZ.kill ss)
 |[]=>rfl
 |(k,b)::r=>by
  by_cases h:(k==x)=true
  . simp[jL,look,h]
  . have h':(k==x)=false:=by simpa using h
    simp[jL,look,h',jO ss x r]
theorem l9(ss:List Nat):∀(env:List AV) (t:Nat),(jQ ss env)[t]?=(env[t]?).map (AV.kill ss)
 |[],t=>by simp[jQ]
 | v::r,0=>by simp[jQ]
 | v::r,t+1=>by simp[jQ,l9 ss r t]
theorem uo(ss:List Nat):∀(env:List AV),(jQ ss env).length=env.length
 |[]=>rfl
 | v::r=>by simp[jQ,uo ss r]
theorem bZ.Du(ss:List Nat)(b:bZ):Like b (b.kill ss):=by
 cases b with
 | box cs=>simp[bZ.kill,Like,uo]
 | arr a ks xs=>exact Like.refl _
 | log on xs=>exact Like.refl _
mutual
theorem WJ{s:Nat}{ss:List Nat}(g:s∈ss):∀(v:AV),AV.refers ss v=false->AV.refers [s] v=false
 | .undef,_=>rfl
 | .p _,_=>rfl
 | .rE _ _ _ _,_=>rfl
 | .fresh _ _ _,_=>rfl
 | .yL,_=>rfl
 | .slice x _ _ _,h=>by simp only[AV.refers]at *;rw[iV]at *;simp;rintro rfl;exact h g
 | .bslice x _ _,h=>by simp only[AV.refers]at *;rw[iV]at *;simp;rintro rfl;exact h g
 | .ptr x _ _,h=>by simp only[AV.refers]at *;rw[iV]at *;simp;rintro rfl;exact h g
 | .fn _ cs,h=>by simp only[AV.refers]at *;exact zU g cs h
 | .agg cs,h=>by simp only[AV.refers]at *;exact zU g cs h
 | .vM cs,h=>by simp only[AV.refers]at *;exact zU g cs h
theorem zU{s:Nat}{ss:List Nat}(g:s∈ss):∀(cs:List AV),AV.kY ss cs=false->AV.kY [s] cs=false
 |[],_=>rfl
 | v::r,h=>by simp only[AV.kY,Bool.or_eq_false_iff]at *;exact⟨WJ g v h.1,zU g r h.2⟩
end
section
variable {w0:Base} {Pr M0 M:Nat->Prop} {β:Nat->Option (Nat × Nat)} {st:St} {a:Act} {w:World}
theorem Rel.congr(r:Rel w0 Pr M0 M β st a w){hp:Heap}(h:∀ s,look hp s=look st.heap s):Rel w0 Pr M0 M β {st with heap:=hp} a w:=by have e:look hp=look st.heap:=funext h;exact⟨r.qK,by rw[e];exact r.env,by rw[e];exact r.heap,by rw[e];exact r.own,by rw[e];exact r.inj,r.iU,r.oD,r.vW,r.keep,r.room,r.size,r.os,r.tape,r.output,r.glob⟩
theorem Rel.kill(r:Rel w0 Pr M0 M β st a w)(ss:List Nat):Rel w0 Pr M0 M β (st.kill ss) a w:=by
 cases ss with
 | nil=>exact r
 | cons q p =>
  have A:∀ x,look (jL (q::p) st.heap) x=(look st.heap x).map (bZ.kill (q::p)):=λx=>jO _ _ _;have F:∀(v:AV) (c:Value),AR w M β (look st.heap) v c->AR w M β (look (jL (q::p) st.heap)) (AV.kill (q::p) v) c:=by
   intro v c h;unfold AV.kill;cases R:AV.refers (q::p) v with
   | true=>exact .undef c
   | false =>refine h.mono (λb g=>⟨g,rfl⟩) λs blk _ E=>⟨blk.kill (q::p),?_,bZ.Du _ _,rfl,λ_ _ _ _ h=>h⟩;grind
  refine⟨by simp only[St.kill,uo];exact r.qK,?_,?_,?_,?_,r.iU,r.oD,r.vW,r.keep,r.room,r.size,r.os,r.tape,r.output,r.glob⟩
  . intro t v D;simp only[St.kill,l9]at D;cases B:st.env[t]? with
    | none=>rw[B]at D;simp at D
    | some L=>rw[B]at D;simp at D;subst D;exact F _ _ (r.env t L B)
  . intro s blk g;simp only[St.kill,A]at g;cases B:look st.heap s with
    | none=>rw[B]at g;simp at g
    | some Q =>
     rw[B]at g;simp at g;subst g;cases r.heap s Q B with
     | box cs b o C e fr I H K h4 h5 J =>
      refine .box _ b o C e fr I H (by rw[uo];exact K) h4 ?_ ?_
      . intro c m;obtain⟨i,hi⟩:=List.mem_iff_getElem?.1 m;rw[l9]at hi;cases z:cs[i]? with
        | none=>rw[z]at hi;simp at hi
        | some x =>
         rw[z]at hi;simp at hi;subst hi;unfold AV.kill;cases AV.refers (q::p) x with
         | true=>rfl
         | false=>exact h5 x (qLe z)
      . intro j c m;rw[l9]at m;cases z:cs[j]? with
        | none=>rw[z]at m;simp at m
        | some x=>rw[z]at m;simp at m;subst m;exact F _ _ (J j x z)
     | lU a ks=>exact .lU a ks
     | log on ys=>exact .log on ys
     | arr a ks xs b o C e fr I H K h4 h5 J=>exact .arr a ks xs b o C e fr I H K h4 h5 J
  . intro s b o E g;simp only[St.kill,A,Option.isSome_map]at E;exact r.own s b o E g
  . intro s N b o O E G I H;simp only[St.kill,A,Option.isSome_map]at E G;exact r.inj s N b o O E G I H
theorem J7{s:Nat}{ss:List Nat}(g:s∈ss)(v:AV):AV.refers [s] (AV.kill ss v)=false:=by
 unfold AV.kill;cases h:AV.refers ss v with
 | true=>rfl
 | false=>exact WJ g v h
theorem Rel.strike(r:Rel w0 Pr M0 M β st a w)(ss:List Nat){M':Nat->Prop}(U:∀ b,M b->M' b)
    (W:∀ b,M' b->M b\/(w0.n0<=b/\∃ s o,s∈ss/\(look st.heap s).isSome=true/\β s=some (b,o))):Rel w0 Pr M0 M' β (st.strike ss) a w:=by
  have O:∀ b,M' b->b<w.heap.size:=λb m=>by
   rcases W b m with h |⟨_,s,o,_,h,h'⟩
   . exact r.iU b h
   . exact(r.own s b o h h').2.1
  have R:∀ b,M' b->M0 b\/(w0.n0<=b/\(w0.heap.size<=b\/Pr b)):=λb m=>by
   rcases W b m with h |⟨h,s,o,_,J,I⟩
   . exact r.oD b h
   . exact .inr ⟨h,(r.own s b o J I).2.2.1⟩
  cases ss with
  | nil =>have e:M'=M:=funext λb=>propext ⟨λm=>(W b m).elim id λ⟨_,_,_,h,_⟩=>by simp at h,U b⟩;rw[e];exact r
  | cons z q =>
   have X:=r.kill (z::q);have D:∀ x,look (sG (jL (z::q) st.heap) (z::q)) x=if x∈z::q then none else look (jL (z::q) st.heap) x:=λx=>yI x _ _
   have K:∀ x,(look (jL (z::q) st.heap) x).isSome=(look st.heap x).isSome:=λx=>by rw[jO];simp
   have N:∀(v:AV) (c:Value),(∀ s,s∈z::q->AV.refers [s] v=false)->AR w M β (look (jL (z::q) st.heap)) v c ->
       AR w M' β (look (sG (jL (z::q) st.heap) (z::q))) v c:=by
     intro v c hr h;refine h.mono (λb m=>⟨U b m,rfl⟩) λs blk Q B=>⟨blk,?_,Like.refl _,rfl,λ_ _ _ _ h=>h⟩;rw[D,if_neg (λE=>by rw[hr s E]at Q;cases Q)];exact B
   refine⟨X.qK,?_,?_,?_,?_,O,R,λb m=>U b (r.vW b m),r.keep,r.room,r.size,r.os,r.tape,r.output,λp hp=>⟨U _ (r.glob p hp).1,(r.glob p hp).2⟩⟩
   . intro t v F;refine N v _ ?_ (X.env t v F);intro s hs;simp only[St.strike,l9]at F;cases S:st.env[t]? with
     | none=>rw[S]at F;simp at F
     | some v'=>rw[S]at F;simp at F;subst F;exact J7 hs v'
   . intro s blk m;simp only[St.strike,D]at m;by_cases E:s∈z::q
     . grind
     . rw[if_neg E]at m;have g:=m;rw[jO]at g;cases S:look st.heap s with
       | none=>rw[S]at g;simp at g
       | some b' =>
        rw[S]at g;simp at g;cases X.heap s blk m with
        | box cs b o C e fr J I V g4 g5 g6 =>
         refine .box _ b o C e fr J I V g4 g5 λj c H=>N c _ ?_ (g6 j c H);intro L G;cases b' with
         | arr a ks xs=>simp[bZ.kill]at g
         | log on xs=>simp[bZ.kill]at g
         | box ds =>
          simp only[bZ.kill,bZ.box.injEq]at g;rw[<- g,l9]at H;cases hx:ds[j]? with
          | none=>rw[hx]at H;simp at H
          | some x=>rw[hx]at H;simp at H;subst H;exact J7 G x
        | lU a ks=>exact .lU a ks
        | log on ys=>exact .log on ys
        | arr a ks xs b o C e fr J I V g4 g5 g6=>exact .arr a ks xs b o C e fr J I V g4 g5 λi x j c hi hj=>(g6 i x j c hi hj).mono λb m=>⟨U b m,rfl⟩
   . intro s b o B m;simp only[St.strike,D]at B;by_cases E:s∈z::q
     . grind
     . rw[if_neg E,K]at B;obtain⟨J,I,V⟩:=r.own s b o B m;refine⟨λhM=>?_,I,V⟩;rcases W b hM with h |⟨_,L,Y,G,A,g⟩
       . exact J h
       . exact E (by rw[r.inj s L b o Y B A m g];exact G)
   . intro s L b o Y B A h3 h4;simp only[St.strike,D]at B A;by_cases E:s∈z::q
     . grind
     . by_cases Z:L∈z::q
       . grind
       . rw[if_neg E,K]at B;rw[if_neg Z,K]at A;exact r.inj s L b o Y B A h3 h4
theorem Rel.setEnv(r:Rel w0 Pr M0 M β st a w)(d:Option Nat){v:AV}{c:Value}(h:AR w M β (look st.heap) v c) :
    Rel w0 Pr M0 M β {st with env:=Skm.setEnv st.env d v} (a.put d c) w:=by
  cases d with
  | none=>exact r
  | some d =>
   refine⟨by simp only[Skm.setEnv,Act.put,List.length_set,Array.size_setIfInBounds];exact r.qK,?_,r.heap,r.own,r.inj,r.iU,r.oD,r.vW,r.keep,r.room,r.size,r.os,r.tape,r.output,r.glob⟩;intro t u g;have m:t<st.env.length:=by grind[Skm.setEnv]
   have j:t<a.tmps.size:=by have:=r.qK;omega
   by_cases hd:d=t
   . simp_all[Skm.setEnv,Act.put]
   . simp only[Skm.setEnv,List.getElem?_set_ne hd]at g;simpa[Act.put,hd,qAe hd] using r.env t u g
theorem Rel.agf(r:Rel w0 Pr M0 M β st a w){env:List AV}(j:env.length=st.env.length)(h:∀(t:Nat) (v:AV),env[t]?=some v->v=.undef\/st.env[t]?=some v) :
    Rel w0 Pr M0 M β {st with env:=env} a w:=
  ⟨by simpa[j] using r.qK,λt v g=>(h t v g).elim (λe=>e▸.undef _) (r.env t v),r.heap,r.own,r.inj,r.iU,r.oD,r.vW,r.keep,r.room,r.size,r.os,r.tape,r.output,r.glob⟩
end
end
section
variable {P:Program}{w w':World}{v:Value}{b n o s:Nat}{blk blk':bZ}{C C':Array Value}{e:TypeId}{fr:Nat × Nat}{M:Nat -> Prop}{x:PV}
theorem TY{g k:Addr}{u:TypeId}{j:Bool}{l:List Addr}(h:w.viewStore P g u k v j=.ok (w',l)):w'.drawn=w.drawn:=by
 unfold World.viewStore at h;simp only[bind,Except.bind,pure,Except.pure]at h
 repeat' (split at h<;>try (cases h;done))
 grind
theorem Ru{α:Type}:∀(a:Ask α) (w:World),w.drawn<=(w.ask a).2.drawn
 | .done a,w=>qNr _
 | .ask what range k,w=>by
  unfold World.ask;simp only;split
  . exact Ru _ w
  . exact Nat.le_trans (Nat.le_succ _) (Ru _ {w with drawn:=w.drawn+1})
theorem ahu{α:Type}:∀(s:Sem α) {w w':World} {a:α},s.run P w=.ok a w'->w.drawn<=w'.drawn:=by
 intro s;induction s with
 | pure a=>intro w w' b h;simp only[Sem.run]at h;cases h;exact qNr _
 | load m a k g=>grind[Sem.run]
 | store m a v k g =>
  intro w w' b h;have j:(match w.cell? a with
   | some _ => if w.frozen? a then .halt (.unsupported (.unsafePointer "a write to bytes that a string shares")) w else k.run P (w.setCell a v)
   | none=>match w.farStore P a v (m==.atomic)with
    | .ok (w,_)=>k.run P w
    | .error h=>.halt h w)=Result.ok b w':=by
   cases v<;>first | exact h |(simp only[Sem.run]at h;cases h)
  split at j
  . split at j
    . cases j
    . exact g (w:=w.setCell a v) j
  . split at j
    . rename_i z l p;have:z.drawn=w.drawn:=by
       unfold World.farStore at p;split at p
       . split at p
         . rename_i r A;cases p;exact TY A
         . cases p
       . cases p
      grind
    . cases j
 | new o k g=>intro w w' b h;simp only[Sem.run]at h;exact g _ (w:={w with heap:=w.heap.push o}) h
 | shape r k g=>intro w w' b h;simp only[Sem.run]at h;exact g _ h
 | freeze a n k g=>grind[Sem.run,World.freeze]
 | frozen a k g=>intro w w' b h;simp only[Sem.run]at h;exact g _ h
 | getObj r k g=>grind[Sem.run]
 | setObj r o k g=>grind[Sem.run]
 | choose q k g=>grind[Sem.run]
 | sys c k g =>intro w w' b h;simp only[Sem.run]at h;refine Nat.le_trans ?_ (g _ h);unfold World.sys;have:=Ru (Kernel.perform c w.os) w;grind
 | program k g=>intro w w' b h;simp only[Sem.run]at h;exact g _ h
 | mark m k g=>intro w w' b h;simp only[Sem.run]at h;exact g h
 | halt B=>intro w w' b h;simp only[Sem.run]at h;cases h
section
variable {w0:Base} {Pr M0 M:Nat->Prop} {β:Nat->Option (Nat × Nat)} {st:St} {a:Act} {w:World}
theorem Room.of_block{w:World}(h:w'.heap[b]?=w.heap[b]?)(g:Room w b n):Room w' b n:=by obtain⟨C,e,fr,p,m,j⟩:=g;exact⟨C,e,fr,by rw[h];exact p,m,j⟩
theorem Room.mono{w:World}{m:Nat}(g:Room w b (2*n))(h:m<=n):Room w b (2*m):=by obtain⟨C,e,fr,p,q,j⟩:=g.get;exact Room.mk p (by omega) j
theorem Rel.world(r:Rel w0 Pr M0 M β st a w){M':Nat->Prop}(U:w.heap.size<=w'.heap.size)(G:w'.os=w.os)(E:w'.tape=w.tape)(H:w'.output=w.output)
    (J:∀ b,b<w.heap.size->(M b\/(∃ s o,(look st.heap s).isSome=true/\β s=some (b,o))\/(b<w0.heap.size/\¬ Pr b))->w'.heap[b]?=w.heap[b]?)
    (F:∀ b n,b<w0.n0->b<w.heap.size->Pr b->Room w b n->Room w' b n)(R:∀ b,M b->M' b)(Q:∀ b,M' b->M b\/(w.heap.size<=b/\b<w'.heap.size)):Rel w0 Pr M0 M' β st a w':=by
  have A:∀ b,M b->M' b/\w'.heap[b]?=w.heap[b]?:=λb h=>⟨R b h,J b (r.iU b h) (.inl h)⟩;have K:∀ s b o,(look st.heap s).isSome=true->β s=some (b,o)->w'.heap[b]?=w.heap[b]?:=λs b o g h4=>J b (r.own s b o g h4).2.1 (.inr (.inl ⟨s,o,g,h4⟩));have z:∀(v:AV) (c:Value),AR w M β (look st.heap) v c->AR w' M' β (look st.heap) v c:=λv c h =>h.mono A λs blk _ m=>⟨blk,m,Like.refl _,rfl,λb o n g V=>V.of_block (K s b o (by rw[m];rfl) g)⟩;refine⟨r.qK,λt v h=>z _ _ (r.env t v h),?_,?_,r.inj,?_,?_,λb h=>R b (r.vW b h),?_,λb n g h4 h5=>F b n g (by have:=r.size;have:=w0.le';omega) h4 (r.room b n g h4 h5),by have:=r.size;omega,G.trans r.os,E.trans r.tape,H.trans r.output,λp hp=>⟨(A _ (r.glob p hp).1).1,(A _ (r.glob p hp).1).2.trans (r.glob p hp).2⟩⟩
  . intro s blk m;have hi:(look st.heap s).isSome=true:=by rw[m];rfl
    cases r.heap s blk m with
    | box cs b o C e fr q D B O N L=>exact .box _ b o C e fr q (by rw[K s b o hi q];exact D) B O N λj c I=>z _ _ (L j c I)
    | lU a ks=>exact .lU a ks
    | log on ys=>exact .log on ys
    | arr a ks xs b o C e fr q D B O N L=>exact .arr a ks xs b o C e fr q (by rw[K s b o hi q];exact D) B O N λi x j c S I=>(L i x j c S I).mono A
  . intro s b o m g;obtain⟨q,D,B⟩:=r.own s b o m g;grind
  . intro b h;rcases Q b h with h | h
    . have:=r.iU b h;omega
    . omega
  . intro b h;rcases Q b h with h | h
    . exact r.oD b h
    . right;have:=r.size;have:=w0.le';exact⟨by omega,.inl (by omega)⟩
  . intro b g h4;rw[J b (by have:=r.size;omega) (.inr (.inr ⟨g,h4⟩)),r.keep b g h4]
theorem Rel.lay(r:Rel w0 Pr M0 M β st a w)(R:look st.heap s=none){p:Option (Nat × Nat)}
    (hp:∀ b o,p=some (b,o)->¬ M b/\b<w.heap.size/\((w0.heap.size<=b\/Pr b)/\(w0.n0<=b\/ah<=s))/\(∀ m G,(look st.heap m).isSome=true->β m≠some (b,G)))
    (O:BR w M (λx=>if x=s then p else β x) (λx=>if x=s then some blk else look st.heap x) s blk) :
    Rel w0 Pr M0 M (λx=>if x=s then p else β x) {st with heap:=put st.heap s blk} a w:=by
  have z:look (put st.heap s blk)=λx=>if x=s then some blk else look st.heap x:=funext λx=>eH _ _ _ _
  have D:∀(v:AV) (c:Value),AR w M β (look st.heap) v c->AR w M (λx=>if x=s then p else β x) (look (put st.heap s blk)) v c:=by
   intro v c h;refine h.mono (λb O=>⟨O,rfl⟩) λm blk' _ q=>?_;have g:m≠s:=by rintro rfl;rw[R]at q;cases q
   exact⟨blk',by rw[z];simp only[if_neg g];exact q,Like.refl _,by simp only[if_neg g],λ_ _ _ _ h=>h⟩
  refine⟨r.qK,λt v h=>D _ _ (r.env t v h),?_,?_,?_,r.iU,r.oD,r.vW,r.keep,r.room,r.size,r.os,r.tape,r.output,r.glob⟩
  . intro m U q;by_cases g:m=s
    . grind
    . simp only[z,if_neg g]at q;cases r.heap m U q with
      | box cs b o C e fr N L K J I H=>exact .box _ b o C e fr (by simp only[if_neg g];exact N) L K J I λj c S=>D _ _ (H j c S)
      | lU a ks=>exact .lU a ks
      | log on ys=>exact .log on ys
      | arr a ks xs b o C e fr N L K J I H=>exact .arr a ks xs b o C e fr (by simp only[if_neg g];exact N) L K J I H
  . intro m b o q F;by_cases g:m=s
    . grind
    . simp only[z,if_neg g]at q F;exact r.own m b o q F
  . intro m B b o G q E F Q;by_cases g:m=s
    . grind
    . by_cases A:B=s
      . grind
      . simp only[if_neg g,if_neg A]at F Q;simp only[z,if_neg g]at q;simp only[z,if_neg A]at E;exact r.inj m B b o G q E F Q
theorem Rel.anR(r:Rel w0 Pr M0 M β st a w){D:Nat × Nat}
    (hs:look st.heap s=some blk)(hl:Like blk blk')(hb:β s=some (b,o))(hw:w.heap[b]?=some (.cells C e fr))(H:w'.heap=w.heap.setIfInBounds b (.cells C' e D))(Y:Open C fr->Open C' D)
    (hC:C'.size=C.size)(W:w'.os=w.os)(V:w'.tape=w.tape)(X:w'.output=w.output)
    (hB:(∀(v:AV) (c:Value),AR w M β (look st.heap) v c->AR w' M β (λx=>if x=s then some blk' else look st.heap x) v c)->(∀(v:PV) (c:Value),VR w M v c->VR w' M v c) ->
      w'.heap[b]?=some (.cells C' e D)->BR w' M β (λx=>if x=s then some blk' else look st.heap x) s blk') :
    Rel w0 Pr M0 M β {st with heap:=put st.heap s blk'} a w':=by
  have hi:(look st.heap s).isSome=true:=by rw[hs];rfl
  obtain⟨F,U,o3⟩:=r.own s b o hi hb;have A:look (put st.heap s blk')=λx=>if x=s then some blk' else look st.heap x:=funext λx=>eH _ _ _ _
  have I:w'.heap.size=w.heap.size:=by rw[H];simp
  have B:∀ g,g≠b->w'.heap[g]?=w.heap[g]?:=λg h=>by rw[H,qAe (λe=>h e.symm)]
  have hself:w'.heap[b]?=some (.cells C' e D):=by rw[H];simp[U]
  have L:∀ g,M g->M g/\w'.heap[g]?=w.heap[g]?:=λg h=>⟨h,B g λe=>F (e▸h)⟩;have hroom:∀ g n,Room w g n->Room w' g n:=by
   intro g n Q;by_cases h:g=b
   . subst h;obtain⟨C1,R,E,m,q,J⟩:=Q;rw[hw]at m;cases m;exact⟨C',e,D,hself,by omega,λh=>Y (J h)⟩
   . exact Q.of_block (B g h)
  have G:∀(v:AV) (c:Value),AR w M β (look st.heap) v c->AR w' M β (λx=>if x=s then some blk' else look st.heap x) v c:=by
   intro v c h;refine h.mono L λz g _ m=>?_;by_cases q:z=s
   . grind
   . exact⟨g,by simp only[if_neg q];exact m,Like.refl _,rfl,λb o n _ Q=>hroom b n Q⟩
  refine⟨r.qK,λt v h=>by rw[A];exact G _ _ (r.env t v h),?_,?_,?_,λg h=>by rw[I];exact r.iU g h,r.oD,r.vW,?_,λg n m q J=>hroom g n (r.room g n m q J),by rw[I];exact r.size,W.trans r.os,V.trans r.tape,X.trans r.output,λp hp=>⟨(L _ (r.glob p hp).1).1,(L _ (r.glob p hp).1).2.trans (r.glob p hp).2⟩⟩
  . intro z g m;show BR w' M β (look (put st.heap s blk')) z g;by_cases q:z=s
    . subst q;simp only[A,if_true,qOa]at m;subst m;rw[A];exact hB G (λv c h=>h.mono L) hself
    . simp only[A,if_neg q]at m;have K:(look st.heap z).isSome=true:=by rw[m];rfl
      rw[A];cases r.heap z g m with
      | box cs b1 F C1 R E N g2 g3 g4 g5 g6 =>exact .box _ b1 F C1 R E N (by rw[B b1 λe=>q (r.inj z s b _ _ K hi (e▸N) hb)];exact g2) g3 g4 g5 λj c Z=>G _ _ (g6 j c Z)
      | lU a ks=>exact .lU a ks
      | log on ys=>exact .log on ys
      | arr a ks xs b1 F C1 R E N g2 g3 g4 g5 g6 =>exact .arr a ks xs b1 F C1 R E N (by rw[B b1 λe=>q (r.inj z s b _ _ K hi (e▸N) hb)];exact g2) g3 g4 g5 λi x j c O Z=>(g6 i x j c O Z).mono L
  . intro z g o' m q;rw[I];by_cases J:z=s
    . grind
    . simp only[A,if_neg J]at m;exact r.own z g o' m q
  . intro z S g F U m q J h4;have O:∀ x,(look (put st.heap s blk') x).isSome=true->(look st.heap x).isSome=true:=by grind
    exact r.inj z S g F U (O _ m) (O _ q) J h4
  . intro g m q;rw[B g ?_,r.keep g m q];grind
theorem Rel.write(r:Rel w0 Pr M0 M β st a w) 
    (A:look st.heap s=some blk)(B:Like blk blk')(D:β s=some (b,o))(z:w.heap[b]?=some (.cells C e fr))(g:w'.heap=w.heap.setIfInBounds b (.cells C' e fr))
    (q:C'.size=C.size)(m:w'.os=w.os)(j:w'.tape=w.tape)(p:w'.output=w.output)
    (E:(∀(v:AV) (c:Value),AR w M β (look st.heap) v c->AR w' M β (λx=>if x=s then some blk' else look st.heap x) v c)->(∀(v:PV) (c:Value),VR w M v c->VR w' M v c) ->
      w'.heap[b]?=some (.cells C' e fr)->BR w' M β (λx=>if x=s then some blk' else look st.heap x) s blk') :
    Rel w0 Pr M0 M β {st with heap:=put st.heap s blk'} a w':=
  r.anR A B D z g (λh=>h.size q) q m j p E
end
theorem YU(h:aav v=some x):VR w M x v/\x.leaf=true:=by unfold aav at h;split at h<;>first |(cases h;refine⟨?_,rfl⟩;constructor) | cases h
theorem SX{w:World}{M:Nat->Prop}:∀{l:List Value} {xs:List PV},GZ l=some xs->xs.length=l.length/\(∀ x∈xs,x.leaf=true)/\∀(i:Nat) (x:PV),xs[i]?=some x->∃ v,l[i]?=some v/\VR w M x v
 |[],xs,h=>by simp[GZ]at h;subst h;simp
 | v::r,xs,h=>by
  simp only[GZ]at h;split at h
  . rename_i x ys j g;cases h;obtain⟨A,z,q⟩:=SX (w:=w) (M:=M) g;obtain⟨p,m⟩:=YU (w:=w) (M:=M) j;grind
  . cases h
theorem NY(h:ofValue v=some x):VR w M x v:=by
 unfold ofValue at h;split at h
 . rename_i cs;cases g:GZ cs.toList with
   | none=>rw[g]at h;cases h
   | some ys =>rw[g]at h;cases h;obtain⟨p,m,j⟩:=SX (w:=w) (M:=M) g;refine .agg ys cs (by simpa using p.symm) m λi c hi=>?_;obtain⟨v,h4,h5⟩:=j i c hi;simp_all
 . exact(YU h).1
section
variable {w0:Base} {Pr M0 M:Nat->Prop} {β:Nat->Option (Nat × Nat)} {st:St} {a:Act} {w:World}
theorem al0{env:List AV}{t:Nat}:env.getD t .undef=.undef\/env[t]?=some (env.getD t .undef):=by grind
theorem Rel.slot(r:Rel w0 Pr M0 M β st a w)(t:Nat):AR w M β (look st.heap) (st.env.getD t .undef) (a.tmps.getD t undef):=by
 rcases al0 (env:=st.env) (t:=t)with h | h
 . rw[h];exact .undef _
 . exact r.env t _ h
theorem Rel.dP(r:Rel w0 Pr M0 M β st a w)(x:Operand):AR w M β (look st.heap) (Skm.dP st.env x) (a.eval x):=by
 cases x with
 | tmp t=>exact r.slot t
 | const v =>
  simp only[Skm.dP,Act.eval];split
  . rename_i x h;exact .p _ _ (NY h)
  . exact .undef _
 | global g=>exact .undef _
 | func f=>exact .p _ _ (.fn f [] #[] rfl λi c h=>by simp at h)
end
end
section
variable {t:TypeId}{i:TypeInfo}{P:Program}{c d:Value}{x y:AV}{b:Bool}{op:BinOp}{v:PV}
def amP(P:Program)(f:FuncId):Prim->Prop
 | .none=>True
 | .carry s=>∀(w:World) (x y c:Nat),c<=1->(callFunc f #[.int .u64 x,.int .u64 y,.int .u64 c]).run P w=.ok (.value (.tuple #[.int .u64 (nS s x y c),.int .u64 (pq s x y c)])) w
structure fB (P:Program) (T:Tab):Prop where
 types:∀ t i,dZ T.types t=some i->alW P t=some i
 funcs : ∀ f fi, dZ T.funcs f = some fi -> P.funcs[f]? = some fi.fn /\ (fi.fn.name == "runtime.NumGoroutine") = false /\ (∀ c, fi.fn.body = some c -> gy T fi.hides c = true) /\
  (fi.cfg.D9=false->fi.cfg.shares=false->vS T fi.cfg.rets fi.fn.resultTypes.toList=true)
 mixed:P.follows .mixedOrders=true
 nvars:∀ f fi,dZ T.funcs f=some fi->fi.cfg.nvars<=100000
 ait:∀ f fi,dZ T.funcs f=some fi->amP P f fi.cfg.Nr
section
variable {P:Program} {T:Tab} (ok:fB P T)
include ok
theorem fB.ti{i:TI}(h:dZ T.types t=some i):∃ d j,P.underlying t=some d/\P.info? t=some j /\
    i={desc:=d,size:=j.size,bytes:=j.bytes,agg:=EF P t,sh:=dO P 8 t,zero:=j.zero.bind ofValue,plain:=aaw P t}:=by
  have:=ok.types t i h;unfold alW at this;split at this
  . grind
  . cases this
theorem fB.und{t:TypeId}{d:TypeDesc}(h:Skm.und T t=some d):P.underlying t=some d:=by
 unfold Skm.und at h;cases g:dZ T.types t with
 | none=>rw[g]at h;cases h
 | some i =>obtain⟨p,j,m,_,h4⟩:=ok.ti g;grind
theorem fB.size{t:TypeId}{n:Nat}(h:yG T t=some n):∃ i,P.info? t=some i/\i.size=n:=by
 unfold yG at h;cases g:dZ T.types t with
 | none=>rw[g]at h;cases h
 | some i =>obtain⟨p,j,_,m,h4⟩:=ok.ti g;grind
theorem fB.bytes{t:TypeId}{n:Nat}(h:PN T t=some n):∃ i,P.info? t=some i/\i.bytes=n:=by
 unfold PN at h;cases g:dZ T.types t with
 | none=>rw[g]at h;cases h
 | some i =>obtain⟨p,j,_,m,h4⟩:=ok.ti g;grind
theorem fB.zero{t:TypeId}{z:PV}(h:SN T t=some z):∃ i v,P.info? t=some i/\i.zero=some v/\ofValue v=some z:=by
 unfold SN at h;cases g:dZ T.types t with
 | none=>rw[g]at h;cases h
 | some i =>
  obtain⟨p,j,_,m,h4⟩:=ok.ti g;rw[g]at h;subst h4;simp at h;cases h5:j.zero with
  | none=>rw[h5]at h;cases h
  | some v=>rw[h5]at h;exact⟨j,v,m,h5,by simpa using h⟩
theorem fB.agg{n:Nat}(h:yG T t=some n):ajL T t=EF P t:=by
 unfold yG at h;unfold ajL;cases g:dZ T.types t with
 | none=>rw[g]at h;cases h
 | some i =>obtain⟨p,j,_,m,h4⟩:=ok.ti g;subst h4;rfl
theorem fB.plain(h:aeC T t=true):aaw P t=true:=by
 unfold aeC at h;cases g:dZ T.types t with
 | none=>rw[g]at h;cases h
 | some i =>obtain⟨p,j,_,m,h4⟩:=ok.ti g;grind
end
theorem eP{d:TypeDesc}(h:P.underlying t=some d)(w:World):(underlying t).run P w=.ok d w:=by simp[underlying,h]
theorem vX(h:P.info? t=some i)(w:World):(typeInfo t).run P w=.ok i w:=by simp[typeInfo,h]
theorem jm(h:P.info? t=some i)(w:World):(sizeOf t).run P w=.ok i.size w:=by simp[sizeOf,vX h]
theorem qF{d:TypeDesc}(h:P.underlying t=some d)(w:World):(isAgg t).run P w=.ok (EF P t) w:=by unfold isAgg EF;simp only[h,Sem.run_bind,eP h,qRa];cases d<;>rfl
structure aJ (P:Program) (w:World) (M:Nat->Prop) (β:Nat->Option (Nat × Nat)) (h:Nat->Option bZ) (D:DT) (sem:Sem Value):Prop where
 sim:∀ (α:Type) (k:Eff->Option α) (r:α),D.run k=some r->∃ v c,k { val:=v }=some r/\AR w M β h v c/\sem.run P w=.ok c w
theorem aaK{α:Type}{c:Bool}{x:DT}{k:Eff->Option α}{r:α}(h:(chk c x).run k=some r):c=true/\x.run k=some r:=by
 cases c
 . simp[chk,DT.run]at h
 . exact⟨rfl,by simpa[chk,DT.run] using h⟩
section
variable {P:Program} {T:Tab} {w:World} {M:Nat->Prop} {β:Nat->Option (Nat × Nat)} {h:Nat->Option bZ}
theorem aJ.ret{v:AV}{c:Value}{sem:Sem Value}(m:AR w M β h v c)(j:sem.run P w=.ok c w):aJ P w M β h (.ret {val:=v}) sem:=
 ⟨λ_ _ _ g=>⟨v,c,g,m,j⟩⟩
theorem aJ.fail{sem:Sem Value}:aJ P w M β h .fail sem:=⟨λ_ _ _ g=>by simp[DT.run]at g⟩
theorem aJ.chk{c:Bool}{D:DT}{sem:Sem Value}(p:c=true->aJ P w M β h D sem):aJ P w M β h (Skm.chk c D) sem:=
 ⟨λα k r g=>by obtain⟨m,j⟩:=aaK g;exact(p m).sim α k r j⟩
theorem aJ.ite{c:Bool}{D E:DT}{sem:Sem Value}(m:c=true->aJ P w M β h D sem)(j:c=false->aJ P w M β h E sem):aJ P w M β h (.ite c D E) sem:=by
 refine⟨λα k r g=>?_⟩;cases c
 . exact(j rfl).sim α k r (by simpa[DT.run] using g)
 . exact(m rfl).sim α k r (by simpa[DT.run] using g)
theorem AR.Ef{k:IntKind}{n:Int}(j:AR w M β h (.p (.int k n)) c):c=.int k n:=by cases j;rename_i g;cases g;rfl
theorem AR.IC(j:AR w M β h (.p (.bool b)) c):c=.bool b:=by cases j;rename_i g;cases g;rfl
theorem AR.WL{s:ByteArray}(j:AR w M β h (.p (.str s)) c):c=.string s:=by cases j;rename_i g;cases g;rfl
theorem AR.int(k:IntKind)(n:Int):AR w M β h (.p (.int k n)) (.int k n):=.p _ _ (.int k n)
theorem AR.bool(b:Bool):AR w M β h (.p (.bool b)) (.bool b):=.p _ _ (.bool b)
theorem AR.str(s:ByteArray):AR w M β h (.p (.str s)) (.string s):=.p _ _ (.str s)
theorem WM:∀(x y:List UInt8),Ir x y=Op.bytesLess x y
 |[],[]=>rfl
 | _::_,[]=>rfl
 |[],_::_=>rfl
 | a::x,b::y=>by simp[Ir,Op.bytesLess,WM x y]
theorem anS{op:UnOp}(g:AR w M β h x c):aJ P w M β h (Wq op x) (Op.unary op c):=by
 unfold Wq;split
 . rw[g.Ef];exact aJ.ret (.int _ _) (by simp[Op.unary,Op.intArith])
 . rw[g.IC];exact aJ.ret (.bool _) (by simp[Op.unary])
 . exact aJ.fail
theorem aeL{j:IntKind}{a b:Int}(g:aeD op j a b=some v)(t:TypeId):∃ c,VR w M v c/\(binOp op t (.int j a) (.int j b)).run P w=.ok c w:=by
 unfold aeD at g
 split at g<;>first
  |(cases g;exact⟨_,.int _ _,by simp[binOp,Op.intArith,Op.intBits]⟩)
  |(cases g;exact⟨_,.bool _,by simp[binOp,Op.intCmp]⟩)
  | cases g
theorem aeM{a b:ByteArray}(g:aeE op a b=some v)(t:TypeId):∃ c,VR w M v c/\(binOp op t (.string a) (.string b)).run P w=.ok c w:=by
 unfold aeE at g
 split at g<;>first
  |(cases g;exact⟨_,.bool _,by simp[binOp,Op.stringOp,WM]⟩)
  | cases g
theorem ahv(ok:fB P T){d:Nat}{x y:PV}{r q:Value}(g:aay (und T t) x y=some b)(m:VR w M x r)(j:VR w M y q) :
    (Op.equalIn (d+1) t r q).run P w=.ok b w:=by
  unfold aay at g;split at g
  . cases m;cases j;split at g
    . rename_i h;rename_i A B z y1 _ _;by_cases p:A=z
      . subst p;simp at g;subst g;exact run_equalIn_int w d t _ _ _ _ (ok.und h)
      grind
    . cases g
  . cases m;cases j;split at g
    . rename_i h;cases g;exact run_equalIn_bool w d t _ _ (ok.und h)
    . cases g
  . cases m;cases j;split at g
    . rename_i h;cases g;rw[run_equalIn_string w d t _ _ (ok.und h),beq_toListBytes]
    . cases g
  . cases g
theorem getD_some{vs:Array Value}{i:Nat}(h:i<vs.size):vs[i]?=some (vs.getD i undef):=by simp_all
def Rep(P:Program)(w:World)(M:Nat->Prop)(t:TypeId)(xs:List PV)(v:Value):Prop:=
 if EF P t=true then ∃ vs:Array Value,v=.agg vs/\vs.size=xs.length/\∀(i:Nat) (c:PV),xs[i]?=some c->VR w M c (vs.getD i undef)else ∃ x,xs=[x]/\VR w M x v
theorem agh(ok:fB P T){g:TypeId->List PV->List PV->Option Bool}{gp:TypeId->Bool}{d:Nat}{xs ys:Array Value}
    (X:∀ t as j b L K,gp t=true->g t as j=some b->Rep P w M t as L->Rep P w M t j K->(Op.equalIn d t L K).run P w=.ok b w)(W:∀ t,gp t=true->∃ Y,P.underlying t=some Y)
    (V:∀ t,gp t=true->EF P t=false->∀ as j b,g t as j=some b->∃ x y,as=[x]/\j=[y]) :
    ∀(D:List Field) (o:Nat) (as j:List PV) (r:Bool),Uy (λt=>(P.info? t).map (·.size)) gp o D=true ->
    (∀(i:Nat) (c:PV),as[i]?=some c->VR w M c (xs.getD (o+i) undef))->(∀(i:Nat) (c:PV),j[i]?=some c->VR w M c (ys.getD (o+i) undef)) ->
    o+as.length=xs.size->o+j.length=ys.size->ahs (yG T) g D as j=some r->(Op.eqFields d xs ys D).run P w=.ok r w
  |[],o,as,j,r,_,_,_,_,_,he=>by cases as<;>cases j<;>simp[ahs]at he;simp_all[Op.eqFields]
  | f::D,o,as,j,r,hp,ha,hb,h3,h4,he=>by
   unfold ahs at he;unfold Uy at hp;cases Q:yG T f.type with
   | none=>rw[Q]at he;simp at he
   | some n =>
   obtain⟨ti,E,F⟩:=ok.size Q;rw[Q]at he;simp only at he;cases z:(Nat.ble n as.length&&Nat.ble n j.length)with
   | false=>rw[z]at he;cases he
   | true =>
   rw[z,qCt]at he;rw[qBa,Nat.ble_eq,Nat.ble_eq]at z;obtain⟨S,R⟩:=z;simp only[E,Option.map_some,F,qBa,beq_iff_eq,bne_iff_ne,ne_eq]at hp;obtain⟨A,hname,H,hrest⟩:=hp;cases J:g f.type (as.take n) (j.take n)with
   | none=>rw[J]at he;simp at he
   | some b1 =>
   cases O:ahs (yG T) g D (as.drop n) (j.drop n)with
   | none=>rw[J,O]at he;simp at he
   | some b2 =>
   rw[J,O]at he;simp only[qOa]at he;obtain⟨Y,I⟩:=W _ H;have hpart:∀(q:Array Value) (cs:List PV),n<=cs.length->(EF P f.type=false->∃ x,cs.take n=[x])->(∀(i:Nat) (c:PV),cs[i]?=some c->VR w M c (q.getD (o+i) undef))->o+cs.length=q.size->∃ v,(part f.type q f.offset).run P w=.ok v w/\Rep P w M f.type (cs.take n) v:=by
    intro q cs hle m hc hsize;cases p:EF P f.type with
    | true =>
     refine⟨.agg (q.extract o (o+n)),?_,?_⟩
     . simp only[part,Sem.run_bind,qF I,p,qRa,if_true,jm E,F,A,Sem.run_pure]
     . unfold Rep;rw[if_pos p];refine⟨_,rfl,by simp only[Array.size_extract,List.length_take];omega,λi c hi=>?_⟩;rw[List.getElem?_take]at hi;split at hi
       . rename_i hlt;have G:=(qLa.1 hi).1;have:=hc i c hi;have e:(q.extract o (o+n)).getD i undef=q.getD (o+i) undef:=by
          have V:i<(q.extract o (o+n)).size:=by simp only[Array.size_extract];omega
          have h2:o+i<q.size:=by omega
          simp only[Array.getD,V,h2,dite_true];simp
         grind
       . cases hi
    | false =>
     obtain⟨x,hx⟩:=m p;have N:cs[0]?=some x:=by
      have:(cs.take n)[0]?=some x:=by rw[hx];rfl
      grind
     have G:=(qLa.1 N).1;refine⟨q.getD o undef,?_,?_⟩
     . simp only[part,Sem.run_bind,qF I,p,qRa,Bool.false_eq_true,if_false,A,getD_some (by omega:o<q.size),Sem.run_pure]
     . unfold Rep;grind
   have m:EF P f.type=false->(∃ x,as.take n=[x])/\∃ y,j.take n=[y]:=by grind
   obtain⟨L,pa,ra⟩:=hpart xs as S (λB=>(m B).1) ha h3;obtain⟨K,pb,Z⟩:=hpart ys j R (λB=>(m B).2) hb h4;have U:=X _ _ _ _ _ _ H J ra Z;simp only[Op.eqFields,hname,ne_eq,not_false_eq_true,if_true,Sem.run_bind,pa,pb,U,qRa,Sem.run_ite];cases b1
   . simp at he;subst he;rfl
   . simp at he;subst he;exact agh ok X W V D (o+n) (as.drop n) (j.drop n) b2 hrest (λi c hi=>by
      rw[List.getElem?_drop]at hi;have:=ha (n+i) c hi;rwa[show o+(n+i)=o+n+i by omega]at this) (λi c hi=>by
      grind) (by simp only[List.length_drop];omega) (by simp only[List.length_drop];omega) O
theorem ajR(ok:fB P T):∀(n d:Nat) (t:TypeId) (as p:List PV) (b:Bool) (r q:Value),JV P n t=true->eqT T n t as p=some b->Rep P w M t as r->Rep P w M t p q->(Op.equalIn (d+n) t r q).run P w=.ok b w
 | 0,d,t,as,p,b,r,q,hp,_,_,_=>by simp[JV]at hp
 | n+1,d,t,as,p,b,r,q,hp,he,ra,rb=>by
  unfold eqT at he;unfold JV at hp;split at he
  . rename_i F m;have m:=ok.und m;rw[m]at hp;simp only[qBa,qBb]at hp;have j:EF P t=true:=by unfold EF;rw[m]
    unfold Rep at ra rb;rw[if_pos j]at ra rb;obtain⟨vs,rfl,I,E⟩:=ra;obtain⟨J,rfl,H,D⟩:=rb;have z:P.fieldsOf t=F:=by simp[Program.fieldsOf,m]
    rw[<- Nat.add_assoc,run_equalIn_struct w (d+n) t vs J (by rw[z];exact m) hp.1,z];refine agh ok (g:=eqT T n) (gp:=JV P n) (λt as p b r q E D R h4=>ajR ok n d t as p b r q E D R h4) (λt G=>?_) (λt G Q as p b B=>?_) F.toList 0 as p b hp.2 (λi c hi=>by simpa using E i c hi) (λi c hi=>by simpa using D i c hi) (by omega) (by omega) he
    . cases n with
      | zero=>simp[JV]at G
      | succ n=>grind[JV]
    . cases n with
      | zero=>simp[eqT]at B
      | succ n =>
       unfold eqT at B;split at B
       . rename_i S A;have:=ok.und A;simp_all[this,EF]
       grind
  . rename_i N;split at he
    . rename_i x y;have j:EF P t=false:=by
       unfold EF;cases O:P.underlying t with
       | none=>rfl
       | some U =>
        rw[O]at hp
        cases U<;>first
         | rfl
         |(simp at hp;done)
         |(rename_i F
           exfalso;cases m:und T t with
           | none=>rw[m]at he;unfold aay at he;cases x<;>cases y<;>simp at he
           | some X =>have:=ok.und m;simp_all)
      unfold Rep at ra rb;rw[j,if_neg (by simp)]at ra rb;obtain⟨W,I,L⟩:=ra;obtain⟨V,H,K⟩:=rb;cases I;cases H;exact ahv ok (d:=d+n) he L K
    . cases he
theorem ajS(ok:fB P T)(N L:Operand)(H:AR w M β h x c)(G:AR w M β h y d) :
    aJ P w M β h (G5 T op t x y) (do eqGuard op t N L c d;binOp op t c d):=by
  have guard:∀(K J:Value),(∀ u v,K≠.agg u\/J≠.agg v)->(K≠.nilIface\/J≠.nilIface)->(eqGuard op t N L K J).run P w=.ok () w:=by
   intro K J q m
   cases op<;>first
    |(simp[eqGuard];done)
    |(cases K <;> first
       |(simp[eqGuard];done)
       |(cases J<;>first |(simp[eqGuard];done) |(rcases q _ _ with q | q<;>exact absurd rfl q) |(rcases m with m | m<;>exact absurd rfl m)))
  unfold G5;split
  . rename_i j a i b;rw[H.Ef,G.Ef];have g:=guard (.int j a) (.int i b) (by simp) (by simp);split
    . refine aJ.chk λF=>aJ.ret (.int _ _) ?_;have A:¬ b<0:=by simpa using F
      simp only[Sem.run_bind,g,qRa,binOp,Op.shift,if_neg A];simp
    . refine aJ.chk λF=>aJ.ret (.int _ _) ?_;have A:¬ b<0:=by simpa using F
      simp only[Sem.run_bind,g,qRa,binOp,Op.shift,if_neg A];simp
    . refine aJ.chk λW=>aJ.chk λF=>aJ.ret (.int _ _) ?_;simp_all[binOp,Op.intDiv]
    . refine aJ.chk λW=>aJ.chk λF=>aJ.ret (.int _ _) ?_;simp_all[binOp,Op.intDiv]
    . refine aJ.chk λW=>?_;have V:j=i:=by simpa using W
      subst V;split
      . rename_i v O;obtain⟨e,q,m⟩:=aeL (P:=P) (w:=w) (M:=M) O t;exact aJ.ret (.p _ _ q) (by simp only[Sem.run_bind,g,qRa];exact m)
      . exact aJ.fail
  . rename_i a b;rw[H.WL,G.WL];have g:=guard (.string a) (.string b) (by simp) (by simp);split
    . refine aJ.chk λF=>aJ.ret (.str _) ?_;have A:a.size+b.size<=4611686018427387904:=by simpa using F
      have:¬((a.size+b.size:Nat):Int) > IntKind.i64.max:=by
       have:IntKind.i64.max=9223372036854775807:=by decide
       omega
      simp_all[Sem.run_bind,qRa,binOp,Op.stringOp]
    . split
      . rename_i v O;obtain⟨e,q,m⟩:=aeM (P:=P) (w:=w) (M:=M) O t;exact aJ.ret (.p _ _ q) (by simp only[Sem.run_bind,g,qRa];exact m)
      . exact aJ.fail
  . rename_i a b;rw[H.IC,G.IC];have g:=guard (.bool a) (.bool b) (by simp) (by simp);split
    . rename_i z;exact aJ.ret (.bool _) (by simp[g,binOp,run_equal_bool w t a b (ok.und z)])
    . rename_i z;exact aJ.ret (.bool _) (by simp[g,binOp,run_equal_bool w t a b (ok.und z)])
    . exact aJ.fail
  . rename_i as X;cases H with
    | p _ _ H =>
    cases G with
    | p _ _ G =>
    cases H with
    | agg _ vs U Z q =>
    cases G with
    | agg _ E S Y m =>
    refine aJ.chk λhp=>?_;have hp:=ok.plain hp;split
    . rename_i fs z;have z:=ok.und z;have hfs:P.fieldsOf t=fs:=by simp[Program.fieldsOf,z]
      unfold aaw at hp;rw[z]at hp;simp only[qBa,qBb]at hp;obtain⟨R,Q⟩:=hp;have D:EF P t=true:=by unfold EF;rw[z]
      have g:(eqGuard op t N L (.agg vs) (.agg E)).run P w=.ok () w:=run_eqGuard_agg w op t N L vs E Q;have B:∀ r,eqT T 4 t as X=some r->(Op.equalIn 10000 t (.agg vs) (.agg E)).run P w=.ok r w:=by intro r I;exact ajR ok 4 9996 t as X r (.agg vs) (.agg E) R I (by unfold Rep;rw[if_pos D];exact⟨vs,rfl,U,q⟩) (by unfold Rep;rw[if_pos D];exact⟨E,rfl,S,m⟩)
      split
      . rename_i r I;exact aJ.ret (.bool _) (by simp only[Sem.run_bind,g,qRa,run_eql_struct w t vs E,B r I])
      . rename_i r I;exact aJ.ret (.bool _) (by simp only[Sem.run_bind,g,qRa,run_neq_struct w t vs E,B r I])
      . exact aJ.fail
    . exact aJ.fail
  . exact aJ.fail
theorem WO(ok:fB P T)(J H:Operand)(m:AR w M β h x c)(z:AR w M β h y d) :
    aJ P w M β h (LC T op t (isLit H) x y) (do eqGuard op t J H c d;binOp op t c d):=by
  have guard:∀(E D:Value),(∀ u v,E≠.agg u\/D≠.agg v)->(E≠.nilIface\/D≠.nilIface)->(eqGuard op t J H E D).run P w=.ok () w:=by
   intro E D G F
   cases op<;>first
    |(simp[eqGuard];done)
    |(cases E <;> first
       |(simp[eqGuard];done)
       |(cases D<;>first |(simp[eqGuard];done) |(rcases G _ _ with G | G<;>exact absurd rfl G) |(rcases F with F | F<;>exact absurd rfl F)))
  unfold LC;split
  . rename_i x;cases z with
    | p _ _ z =>
    cases z;cases m with
    | p _ _ m =>
    have A:=guard c .nilFunc (λ_ _=>.inr (by simp)) (.inr (by simp));have run:∀(p r:Array TypeId) (b:Bool),P.underlying t=some (.func p r b)->x.isF=true->(Op.equal t c .nilFunc).run P w=.ok x.Wp w:=by
     intro p r b g j;have q:∀ d,(Op.equalIn (d+1) t c .nilFunc).run P w=.ok x.Wp w:=λd=>by cases m<;>first |(simp[PV.isF]at j;done) | simp[Op.equalIn,eP g,PV.Wp]
     exact q 9999
    have B:∀ o,(o=.eql\/o=.neq)->binOp o t c .nilFunc=(match o with | .eql=>(do pure (.bool (<- Op.equal t c .nilFunc)):Sem Value) | _=>(do pure (.bool (!(<- Op.equal t c .nilFunc))):Sem Value)):=by intro o I;rcases I with rfl | rfl<;>(cases m<;>rfl)
    split
    . rename_i g;refine aJ.chk λj=>aJ.ret (.p _ _ (.bool _)) ?_;simp only[Sem.run_bind,A,qRa,B .eql (.inl rfl),run _ _ _ (ok.und g) j,Sem.run_pure]
    . rename_i g;refine aJ.chk λj=>aJ.ret (.p _ _ (.bool _)) ?_;simp only[Sem.run_bind,A,qRa,B .neq (.inr rfl),run _ _ _ (ok.und g) j,Sem.run_pure]
    . exact aJ.fail
  . rename_i a ks xs;cases z with
    | p _ _ z =>
    cases z;cases m with
    | p _ _ m =>
    have A:=guard c (.slice none 0 0) (λ_ _=>.inr (by simp)) (.inr (by simp));have run:∀ e,P.underlying t=some (.slice e)->0<xs.length->(Op.equal t c (.slice none 0 0)).run P w=.ok false w:=by
     intro e g K;have q:∀ d,(Op.equalIn (d+1) t c (.slice none 0 0)).run P w=.ok false w:=λd=>by
      cases m with
      | list=>simp[Op.equalIn,eP g]
      | wW=>simp at K
     exact q 9999
    have B:∀ o,(o=.eql\/o=.neq)->binOp o t c (.slice none 0 0)=(match o with | .eql=>(do pure (.bool (<- Op.equal t c (.slice none 0 0))):Sem Value) | _=>(do pure (.bool (!(<- Op.equal t c (.slice none 0 0)))):Sem Value)):=by intro o I;rcases I with rfl | rfl<;>(cases m<;>rfl)
    split
    . rename_i g;refine aJ.chk λj=>aJ.ret (.p _ _ (.bool _)) ?_;simp only[Sem.run_bind,A,qRa,B .eql (.inl rfl),run _ (ok.und g) (Nat.le_of_ble_eq_true j),Sem.run_pure]
    . rename_i g;refine aJ.chk λj=>aJ.ret (.p _ _ (.bool _)) ?_;simp only[Sem.run_bind,A,qRa,B .neq (.inr rfl),run _ (ok.und g) (Nat.le_of_ble_eq_true j),Sem.run_pure];rfl
    . exact aJ.fail
  . exact aJ.fail
theorem al2(ok:fB P T)(j g:Operand)(p:AR w M β h x c)(m:AR w M β h y d) :
    aJ P w M β h (PU T op t (isLit g) x y) (do eqGuard op t j g c d;binOp op t c d):=by
  unfold PU;split
  . exact WO ok j g p m
  . exact WO ok j g p m
  . exact ajS ok j g p m
end
end
section
variable {c:Value}{v x:AV}{t:TypeId}{f n off:Nat}{cs:List AV}
theorem SY:∀{cs:List AV},AV.Lu cs=true->∀ c∈cs,c≠.undef/\(∀ x,c≠.vM x)/\(∀ x,c≠.agg x)
 |[],_,c,g=>by simp at g
 | v::r,h,c,g=>by
  rcases List.mem_cons.1 g with rfl | g
  . grind[AV.Lu]
  . refine SY (cs:=r) ?_ c g;cases v<;>simp[AV.Lu]at h<;>exact h
section
variable {P:Program} {T:Tab} {w:World} {M:Nat->Prop} {β:Nat->Option (Nat × Nat)} {h:Nat->Option bZ}
theorem AR.cells{v:AV}{c:Value}(A:AR w M β h v c)(ok:v.ok=true):c.cells.size=v.cells.length /\
    ∀(j:Nat) (x:AV),v.cells[j]?=some x->AR w M β h x (c.cells.getD j Go.undef)/\x.leaf=true/\(c.cells.getD j Go.undef).oneCell'=true:=by
  have single:∀(z:AV) (r:Value),AR w M β h z r->z.cells=[z]->r.cells=#[r]->z.leaf=true->r.oneCell'=true ->
      r.cells.size=z.cells.length/\∀(j:Nat) (x:AV),z.cells[j]?=some x->AR w M β h x (r.cells.getD j Go.undef)/\x.leaf=true/\(r.cells.getD j Go.undef).oneCell'=true:=by
    intro z r J I H h4 h5;rw[I,H];refine⟨rfl,λj x g=>?_⟩;cases j with
    | zero=>simp at g;subst g;simpa using ⟨J,h4,h5⟩
    | succ j=>simp at g
  cases A with
  | undef c=>simp[AV.ok]at ok
  | p v c A =>
   cases A with
   | agg cs vs E F B =>
    simp only[AV.cells,Value.cells,qLm,List.getElem?_map];refine⟨E,λj x g=>?_⟩;cases q:cs[j]? with
    | none=>rw[q]at g;simp at g
    | some y =>rw[q]at g;simp at g;subst g;have m:=F y (qLe q);exact⟨.p _ _ (B j y q),m,(B j y q).one m⟩
   | _=>exact single _ _ (.p _ _ (by constructor<;>assumption)) rfl rfl rfl rfl
  | agg cs vs E F B =>
   simp only[AV.cells,Value.cells];refine⟨E,λj x g=>?_⟩;have G:=qLe g;have q:=SY (by simpa[AV.ok] using ok) x G;have m:=F x G;have D:=B j x g;refine⟨D,m,?_⟩;generalize vs.getD j Go.undef=cj at D;cases D with
   | undef=>exact absurd rfl q.1
   | p v c A=>exact A.one m
   | agg=>exact absurd rfl (q.2.2 _)
   | vM=>exact absurd rfl (q.2.1 _)
   | _=>rfl
  | vM=>simp[AV.ok]at ok
  | _=>exact single _ _ (by constructor<;>assumption) rfl rfl rfl rfl
theorem AQ:∀{cs:List AV} {vs:List PV},JW cs=some vs->cs=vs.map .p
 |[],vs,h=>by simp[JW]at h;subst h;rfl
 | v::r,vs,h=>by
  cases v<;>simp only[JW]at h<;>first | cases h | skip
  split at h
  . rename_i ys g;cases h;simp[AQ g]
  . cases h
theorem AR.IW{cs:List AV}{vs:Array Value}(j:vs.size=cs.length)(m:∀ c∈cs,c.leaf=true)(g:∀(i:Nat) (c:AV),cs[i]?=some c->AR w M β h c (vs.getD i Go.undef)) :
    AR w M β h (Skm.IW cs) (.agg vs):=by
  unfold Skm.IW;split
  . rename_i xs q;have e:=AQ q;subst e;refine .p _ _ (.agg xs vs (by simpa using j) (λc g=>by simpa[AV.leaf] using m (.p c) (by simpa using g)) λi c hi=>?_);have:=g i (.p c) (by simp[hi]);cases this;assumption
  . exact .agg cs vs j m g
theorem ajT{c a b:AV}{x y z:Value}(m:AR w M β h c x)(j:AR w M β h a y)(g:AR w M β h b z) :
    aJ P w M β h (Ws c a b) (do pure (if <- asBool x then y else z)):=by
  unfold Ws;split
  . rename_i q;rw[m.IC];split
    . rename_i u v;rw[j.IC,g.IC];exact aJ.ret (.bool _) (by cases q<;>simp[asBool])
    . refine aJ.ite (λe=>aJ.ret j ?_) (λe=>aJ.ret g ?_)<;>simp[asBool,e]
  . exact aJ.fail
theorem acO{i:Nat}(m:AR w M β h x c):aJ P w M β h (J3 x i) (Instr.extract c i):=by
 unfold J3;split
 . rename_i vs;cases m with
   | vM _ j p q =>
   split
   . rename_i v g;refine aJ.ret (q i v g) ?_;have hi:i<j.size:=by rw[p];exact(qLa.1 g).1
     simp_all[Instr.extract,Sem.run_pure]
   . exact aJ.fail
 . exact aJ.fail
theorem NZ:∀{cs:List PV},(∀ c∈cs,c.leaf=true)->bY true (cs.map aax) (.agg cs)=true
 |[],_=>rfl
 | c::cs,h=>by have g:=NZ (cs:=cs) λx j=>h x (by simp[j]);have m:=h c (by simp);simp only[bY,List.map_cons,gV,qBa]at g ⊢;refine⟨?_,g⟩;cases c<;>simp[aax,kindOk,PV.leaf]at m ⊢
theorem X4(ok:fB P T)(F:AR w M β h x c):aJ P w M β h (Fz T t x f) (Instr.fieldAt t c f):=by
 unfold Fz;split
 . rename_i Q r;have r:=ok.und r;split
   . rename_i m B;split
     . rename_i n N;obtain⟨i,hi,J⟩:=ok.size N;have place:∀(b o:Nat),(fieldPlace ⟨b,o,none⟩ m).run P w=.ok ⟨b,o+m.offset,none⟩ w:=by intro b o;simp only[fieldPlace,Sem.run_bind,jm hi,qRa,J];simp[Sem.run_pure,Addr.add]
       split
       . rename_i s z off;cases F with
         | ptrB s off cs b o E D =>
          refine aJ.ret (c:=.pointer (some ⟨b,o+off+m.offset,none⟩)) ?_ ?_
          . rw[Nat.add_assoc];exact .ptrB s _ cs b o E D
          . simp[Instr.fieldAt,eP r,B,Instr.sureAddr,place]
         | ptrA s z off a ks xs b o E D K =>
          refine aJ.ret (c:=.pointer (some ⟨b,o+z*ks.length+off+m.offset,none⟩)) ?_ ?_
          . rw[Nat.add_assoc];exact .ptrA s z _ a ks xs b o E D K
          . simp[Instr.fieldAt,eP r,B,Instr.sureAddr,place]
       . cases F with
         | rE _ _ _ _ b o g E D K h4 =>
          rename_i off;refine aJ.ret (c:=.pointer (some ⟨b,o+off+m.offset,none⟩)) ?_ ?_
          . rw[Nat.add_assoc];exact .rE _ _ _ _ b o g E D K h4
          . simp[Instr.fieldAt,eP r,B,Instr.sureAddr,place]
       . rename_i c;cases F with
         | p _ _ q =>
          cases q with
          | ref _ b o g I G H q L =>
           split
           . rename_i O;refine aJ.ret (c:=.pointer (some ⟨b,o+m.offset,none⟩)) ?_ ?_
             . rw[O];exact .p _ _ (.ref _ b o g I G H q L)
             . simp[Instr.fieldAt,eP r,B,Instr.sureAddr,place]
           . refine aJ.ret (c:=.pointer (some ⟨b,o+m.offset,none⟩)) ?_ ?_
             . exact .rE true [aax c] (.agg [c]) m.offset b o g I (NZ G) (λj c A=>H j c A) (λj c A=>q j c A)
             . simp[Instr.fieldAt,eP r,B,Instr.sureAddr,place]
       . rename_i cs _;cases F with
         | p _ _ q =>
          cases q with
          | ref _ b o g I G H q _ =>
           refine aJ.ret (c:=.pointer (some ⟨b,o+m.offset,none⟩)) ?_ ?_
           . exact .rE true (cs.map aax) (.agg cs) m.offset b o g I (NZ G) (λj c A=>H j c A) (λj c A=>q j c A)
           . simp[Instr.fieldAt,eP r,B,Instr.sureAddr,place]
       . exact aJ.fail
     . exact aJ.fail
   . exact aJ.fail
 . exact aJ.fail
theorem N7(ok:fB P T)(q:yG T t=some n)(g:zT T t n cs off=some v) :
    off+n<=cs.length/\((EF P t=true/\v=Skm.IW ((cs.drop off).take n))\/(EF P t=false/\n=1/\v=cs.getD off .undef)):=by
  unfold zT at g;cases m:Nat.ble (off+n) cs.length with
  | false=>rw[m]at g;cases g
  | true =>
   rw[m]at g;simp only[qCt]at g;refine⟨Nat.le_of_ble_eq_true m,?_⟩;rw[ok.agg q]at g;cases p:EF P t with
   | true=>rw[p]at g;left;exact⟨rfl,by simpa using g.symm⟩
   | false =>
    rw[p]at g;right;cases j:Nat.beq n 1 with
    | false=>rw[j]at g;simp at g
    | true=>rw[j]at g;exact⟨rfl,Nat.eq_of_beq_eq_true j,by simpa using g.symm⟩
theorem WQ{vs:Array Value}(ok:fB P T)(q:yG T t=some n)(B:zT T t n cs off=some v)(r:vs.size=cs.length)
    (E:∀ c∈cs,c.leaf=true)(A:∀(i:Nat) (c:AV),cs[i]?=some c->AR w M β h c (vs.getD i undef))(hd:∃ d,P.underlying t=some d) :
    ∃ c,AR w M β h v c/\(part t vs off).run P w=.ok c w:=by
  obtain⟨i,hi,m⟩:=ok.size q;obtain⟨d,hd⟩:=hd;obtain⟨F,g⟩:=N7 ok q B;rcases g with⟨g,rfl⟩ |⟨g,rfl,rfl⟩
  . refine⟨.agg (vs.extract off (off+n)),AR.IW ?_ ?_ ?_,?_⟩
    . simp;omega
    . grind
    . intro j c z;have p:j<n:=by grind
      rw[List.getElem?_take,if_pos p,List.getElem?_drop]at z;have:=A _ _ z;have e:(vs.extract off (off+n)).getD j undef=vs.getD (off+j) undef:=by simp only[qAb,Array.getElem?_extract];grind
      grind
    . simp[part,qF hd,g,jm hi,m]
  . have D:off<cs.length:=by omega
    refine⟨vs.getD off undef,A off _ (by simp[D]),?_⟩;simp only[part,Sem.run_bind,qF hd,g,qRa,Bool.false_eq_true,if_false,getD_some (by omega:off<vs.size),Sem.run_pure]
theorem fB.ahw(ok:fB P T)(h:yG T t=some n):∃ d,P.underlying t=some d:=by
 unfold yG at h;cases g:dZ T.types t with
 | none=>rw[g]at h;cases h
 | some i=>obtain⟨p,j,m,_,h4⟩:=ok.ti g;exact⟨p,m⟩
theorem ahx(ok:fB P T)(q:AR w M β h x c):aJ P w M β h (Rj T t x f) (Instr.field t c f):=by
 unfold Rj;split
 . rename_i H r;have r:=ok.und r;split
   . rename_i I G;split
     . rename_i n cs m;cases q with
       | p _ _ q=>cases q with
       | agg _ vs g A D =>
       split
       . rename_i v z;obtain⟨c,F,E⟩:=WQ (w:=w) (M:=M) (β:=β) (h:=h) ok m z (by simpa using g) (λc B=>by
          obtain⟨y,j,rfl⟩:=List.mem_map.1 B;exact A y j) (λi c hi=>by
          rw[List.getElem?_map]at hi;cases j:cs[i]? with
          | none=>rw[j]at hi;simp at hi
          | some y=>rw[j]at hi;simp at hi;subst hi;exact .p _ _ (D i y j)) (ok.ahw m)
         exact aJ.ret F (by simp[Instr.field,eP r,G,asAgg,E])
       . exact aJ.fail
     . rename_i n cs m;cases q with
       | agg _ vs g A D =>
       split
       . rename_i v z;obtain⟨c,F,E⟩:=WQ (w:=w) (M:=M) (β:=β) (h:=h) ok m z g A D (ok.ahw m);exact aJ.ret F (by simp[Instr.field,eP r,G,asAgg,E])
       . exact aJ.fail
     . exact aJ.fail
   . exact aJ.fail
 . exact aJ.fail
end
end
section
section
variable {P:Program} {T:Tab} {w:World} {M:Nat->Prop} {β:Nat->Option (Nat × Nat)} {h:Nat->Option bZ}
theorem MX{α β:Type}(g:α->Sem β)(j:α->β):∀(l:List α),(∀ x∈l,(g x).run P w=.ok (j x) w)->(l.mapM g).run P w=.ok (l.map j) w
 |[],_=>by simp
 | x::r,hx=>by simp only[List.mapM_cons,Sem.run_bind,hx x (by simp),qRa,MX g j r (λy m=>hx y (by simp[m])),Sem.run_pure,List.map_cons]
theorem ajU{α β:Type}(g:α->Sem β)(j:α->β)(l:Array α)(m:∀ x∈l.toList,(g x).run P w=.ok (j x) w):(l.mapM g).run P w=.ok (l.map j) w:=by rw[Array.mapM_eq_mapM_toList,Sem.run_map,MX g j l.toList m];simp only[qRa];congr 1;grind
def aaL(w:World)(M:Nat->Prop)(β:Nat->Option (Nat × Nat))(h:Nat->Option bZ)(cs:List AV)(vs:Array Value):Prop:=
 vs.size=cs.length/\(∀ c∈cs,c.leaf=true)/\∀(i:Nat) (c:AV),cs[i]?=some c->AR w M β h c (vs.getD i undef)
theorem foldl_set(vs:List Value)(off:Nat):∀(start:Nat) (acc:Array Value),off+start+vs.length<=acc.size ->
    ((vs.zipIdx start).foldl (λcs (j:Value × Nat)=>cs.setIfInBounds (off+j.2) j.1) acc).size=acc.size /\
    ∀ i,((vs.zipIdx start).foldl (λcs (j:Value × Nat)=>cs.setIfInBounds (off+j.2) j.1) acc).getD i undef =
     if off+start<=i/\i<off+start+vs.length then(vs.toArray).getD (i-off-start) undef else acc.getD i undef:=by
  induction vs with
  | nil=>intro start acc _;refine⟨by simp,λi=>?_⟩;rw[if_neg (by simp only[List.length_nil];omega)];simp
  | cons v r p =>
   intro start acc g;simp only[qLl]at g;simp only[List.zipIdx_cons,List.foldl_cons];obtain⟨z,q⟩:=p (start+1) (acc.setIfInBounds (off+start) v) (by simp;omega);refine⟨by rw[z];simp,λi=>?_⟩;rw[q i];by_cases hi:off+start=i
   . subst hi;rw[if_neg (by omega),if_pos (by simp)];have:off+start<acc.size:=by omega
     simp[this]
   . by_cases m:off+(start+1)<=i/\i<off+(start+1)+r.length
     . rw[if_pos m,if_pos (by simp;omega)];have e:i-off-start=(i-off-(start+1))+1:=by omega
       rw[e];simp
     . rw[if_neg m,if_neg (by simp;omega)];simp_all
theorem xI{β:Type}(cs:List β)(off:Nat)(vs:List β)(g:off+vs.length<=cs.length)(i:Nat) :
    (patch cs off vs)[i]?=if off<=i/\i<off+vs.length then vs[i-off]? else cs[i]?:=by
  unfold patch;by_cases j:i<off
  . grind
  . grind
theorem lV{β:Type}(cs:List β)(off:Nat)(vs:List β)(g:off+vs.length<=cs.length):(patch cs off vs).length=cs.length:=by grind[patch]
theorem WR{place:Nat->Option (Nat × Nat)}:∀(parts:List (Nat × AV)) (D:List (Nat × Value)) (cs:List AV) (vs:Array Value) (g:List AV),
    aaL w M β h cs vs->parts.length=D.length->(∀(i:Nat) (p:Nat × AV) (q:Nat × Value),parts[i]?=some p->D[i]?=some q->p.1=q.1/\AR w M β h p.2 q.2) ->
    MW place cs parts=some g->∃ z,Instr.fill place vs D=some z/\aaL w M β h g z
  |[],D,cs,vs,g,hc,hn,_,hf=>by
   have:D=[]:=by simpa using hn.symm
   subst this;simp[MW]at hf;subst hf;exact⟨vs,rfl,hc⟩
  |(i,v)::r,[],cs,vs,g,hc,hn,_,hf=>by simp at hn
  |(i,v)::r,(j,c)::cr,cs,vs,g,hc,hn,hp,hf=>by
   have hp0:=hp 0 (i,v) (j,c) (by simp) (by simp);simp only at hp0;obtain⟨rfl,J⟩:=hp0;simp only[MW]at hf;cases A:place i with
   | none=>rw[A]at hf;cases hf
   | some p =>
    obtain⟨off,size⟩:=p;rw[A]at hf;simp only at hf;cases E:(v.cells.length==size&&Nat.ble (off+size) cs.length&&v.ok)with
    | false=>rw[E]at hf;cases hf
    | true =>
     rw[E]at hf;simp only[qCt]at hf;simp only[qBa,beq_iff_eq]at E;obtain⟨⟨K,B⟩,G⟩:=E;have B:=Nat.le_of_ble_eq_true B;obtain⟨V,U⟩:=J.cells G;obtain⟨c1,c2,c3⟩:=hc;obtain⟨Q,O⟩:=foldl_set c.cells.toList off 0 vs (by simp;omega);have m:off+v.cells.length<=cs.length:=by omega
     have F:aaL w M β h (patch cs off v.cells) ((c.cells.toList.zipIdx 0).foldl (λcs (H:Value × Nat)=>cs.setIfInBounds (off+H.2) H.1) vs):=by
      refine⟨by rw[Q,lV _ _ _ m];exact c1,?_,?_⟩
      . intro x I;obtain⟨i,hi⟩:=List.mem_iff_getElem?.1 I;rw[xI _ _ _ m]at hi;grind
      . intro i x hi;rw[xI _ _ _ m]at hi;rw[O i];simp only[Nat.add_zero,Array.length_toList,Nat.sub_zero,Array.toArray_toList]at *;grind
     obtain⟨z,S,R⟩:=WR r cr (patch cs off v.cells) _ g F (by simpa using hn) (λi p q N L=>hp (i+1) p q (by simpa using N) (by simpa using L)) hf;grind[Instr.fill,Array.toList_zipIdx]
theorem BD(ok:fB P T):∀(m:List Field) (i:Nat) (p:Nat × Nat),((jY T m)[i]?).bind id=some p ->
    ∃ f j,m[i]?=some f/\P.info? f.type=some j/\p=(f.offset,j.size)
  |[],i,p,h=>by simp[jY]at h
  | f::r,0,p,h=>by simp[jY]at h;obtain⟨n,g,z⟩:=h;obtain⟨j,q,h4⟩:=ok.size g;grind
  | f::r,i+1,p,h=>by simp[jY]at h;obtain⟨A,j,g,z,q⟩:=BD ok r i p (by simpa using h);grind
end
end
section
variable {t:TypeId}{v:Value}
section
variable {P:Program} {T:Tab} {w:World} {M:Nat->Prop} {β:Nat->Option (Nat × Nat)} {h:Nat->Option bZ}
def WT(w:World)(M:Nat->Prop)(β:Nat->Option (Nat × Nat))(h:Nat->Option bZ)(ps:List (Nat × AV))(cs:List (Nat × Value)):Prop:=
 ps.length=cs.length/\∀(i:Nat) (p:Nat × AV) (q:Nat × Value),ps[i]?=some p->cs[i]?=some q->p.1=q.1/\AR w M β h p.2 q.2
theorem vK{i:TypeInfo}(j:P.info? t=some i)(g:i.zero=some v):(zeroValue t).run P w=.ok v w:=by simp[zeroValue,vX j,g]
theorem WU{j:List PV}(q:ofValue v=some (.agg j)):aaL w M β h (j.map .p) v.cells:=by
 have:=NY (w:=w) (M:=M) q;cases this with
 | agg _ vs r z A =>
  refine⟨by simpa[Value.cells] using r,λc m=>?_,λi c hi=>?_⟩
  . obtain⟨y,g,rfl⟩:=List.mem_map.1 m;exact z y g
  . rw[List.getElem?_map]at hi;cases g:j[i]? with
    | none=>rw[g]at hi;simp at hi
    | some y=>rw[g]at hi;simp at hi;subst hi;exact .p _ _ (A i y g)
theorem ahy(ok:fB P T){J:List (Nat × AV)}{cs:Array (Nat × Value)}(hp:WT w M β h J cs.toList) :
    aJ P w M β h (Rh T t J) (Instr.build t cs):=by
  unfold Rh;split
  . rename_i Y g O A;obtain⟨i,v,W,V,U⟩:=ok.zero O;have A:=ok.und A;refine aJ.chk λG=>?_;split
    . rename_i B F;have Z:∀(n:Nat) (p:Nat × Nat),((jY T g.toList)[n]?).bind id=some p->(g.map λf=>(f.offset,((P.info? f.type).map (·.size)).getD 0))[n]?=some p:=by intro n p hp;obtain⟨f,j,I,H,g3⟩:=BD ok g.toList n p hp;grind
      have S:∀(parts:List (Nat × AV)) (x:List AV) (y:List AV),MW (λi=>((jY T g.toList)[i]?).bind id) x parts=some y ->
          MW (λn=>(g.map λf=>(f.offset,((P.info? f.type).map (·.size)).getD 0))[n]?) x parts=some y:=by
        intro parts;induction parts with
        | nil=>intro x y z;simpa[MW] using z
        | cons p r X =>intro x y z;obtain⟨n,v⟩:=p;simp only[MW]at z ⊢;grind
      obtain⟨L,N,m⟩:=WR J cs.toList _ _ B (WU U) hp.1 hp.2 (S _ _ _ F);refine aJ.ret (AR.IW m.1 m.2.1 m.2.2) ?_;have Q:∀ f∈g.toList,(do pure (f.offset,<- sizeOf f.type):Sem (Nat × Nat)).run P w=.ok (f.offset,((P.info? f.type).map (·.size)).getD 0) w:=by
       intro f F;obtain⟨n,K⟩:=List.mem_iff_getElem?.1 F;have R:∃ q,((jY T g.toList)[n]?).bind id=some q:=by
        have E:∀(l:List Field),(jY T l).length=l.length:=by
         intro l;induction l with
         | nil=>rfl
         | cons x r X=>simp[jY,X]
        have D:n<(jY T g.toList).length:=by rw[E];exact(qLa.1 K).1
        have:=(List.all_eq_true.1 G) _ (List.getElem_mem D);rw[qLd D];exact Option.isSome_iff_exists.1 this
       obtain⟨q,R⟩:=R;obtain⟨f',j,I,H,g3⟩:=BD ok g.toList n q R;rw[K]at I;cases I;simp[jm H,H]
      simp only[Instr.build,Sem.run_bind,vK W V,eP A,qRa,ajU _ _ g Q,N,Sem.run_pure]
    . exact aJ.fail
  . rename_i Y len e O A;obtain⟨i,v,W,V,U⟩:=ok.zero O;have A:=ok.und A;split
    . rename_i n K;obtain⟨j,I,H⟩:=ok.size K;split
      . rename_i B F;obtain⟨L,N,m⟩:=WR J cs.toList _ _ B (WU U) hp.1 hp.2 F;refine aJ.ret (AR.IW m.1 m.2.1 m.2.2) ?_;simp[Instr.build,vK W V,eP A,jm I,H,N]
      . exact aJ.fail
    . exact aJ.fail
  . exact aJ.fail
theorem addr_add(b o n:Nat):(⟨b,o,none⟩:Addr).add n=⟨b,o+n,none⟩:=by simp[Addr.add]
theorem IE{f:Nat->AV}{i:Int}{sem:Sem Value}(g:∀ j:Nat,i=(j:Int)->aJ P w M β h (.ret {val:=f j}) sem):∀ m j,aJ P w M β h (aaB f i m j) sem
 | 0,_=>aJ.fail
 | m+1,j=>aJ.ite (λh=>g j (by simpa using h)) λ_=>IE g m (j+1)
theorem X5(ok:fB P T){x i:AV}{c d:Value}(E:AR w M β h x c)(hi:AR w M β h i d):aJ P w M β h (FB T t x i) (Instr.indexAt t c d):=by
 unfold FB;split
 . rename_i k n;rw[hi.Ef];split
   . rename_i e G;have G:=ok.und G;split
     . exact aJ.fail
     . rename_i m O;obtain⟨j,N,L⟩:=ok.size O;have R:∀(b o len cap:Nat),0<=n->n<(len:Int)->(Instr.indexAt t (.slice (some ⟨b,o,none⟩) len cap) (.int k n)).run P w=.ok (.pointer (some ⟨b,o+n.toNat*m,none⟩)) w:=by intro b o len cap V U;simp[Instr.indexAt,asIntOf,eP G,V,U,jm N,L,addr_add]
       split
       . rename_i s z off len;refine aJ.chk λD=>aJ.chk λg=>?_;simp only[beq_iff_eq]at D;subst D;simp only[qBa,qDa]at g;cases E with
         | slice s off len a ks xs b o cap A H B I Q =>refine aJ.ret (c:=.pointer (some ⟨b,o+off*ks.length+n.toNat*ks.length,none⟩)) ?_ (R _ _ _ _ g.1 g.2);have:=AR.ptrA (w:=w) (M:=M) (β:=β) (h:=h) s (off+n.toNat) 0 a ks xs b o A (by omega) B;grind
         | sliceE=>omega
       . rename_i s off len;refine aJ.chk λD=>aJ.chk λg=>?_;simp only[beq_iff_eq]at D;subst D;simp only[qBa,qDa]at g;cases E with
         | bslice s off len cs b o cap A H B I =>refine aJ.ret (c:=.pointer (some ⟨b,o+off+n.toNat*1,none⟩)) ?_ (R _ _ _ _ g.1 g.2);have:=AR.ptrB (w:=w) (M:=M) (β:=β) (h:=h) s (off+n.toNat) cs b o A B;grind
         | bsliceE=>omega
       . rename_i a ks xs;refine aJ.chk λD=>aJ.chk λg=>?_;simp only[beq_iff_eq]at D;subst D;simp only[qBa,qDa]at g;cases E with
         | p _ _ E =>
         cases E with
         | list _ _ _ b o cap f A H B I Q =>
          have J:n.toNat<xs.length:=by omega
          have r:xs[n.toNat]?=some (xs.getD n.toNat .nil):=by simp[J]
          refine aJ.ret (c:=.pointer (some ⟨b,o+n.toNat*ks.length,none⟩)) ?_ (R _ _ _ _ g.1 g.2);exact .rE a ks _ 0 b (o+n.toNat*ks.length) (f n.toNat) A (Q _ (qLe r)) (λj c K=>B _ _ j c r K) (λj c K=>I _ _ j c r K)
         | wW=>simp at g;omega
       . rename_i a ks xs;refine aJ.chk λD=>aJ.chk λg=>?_;simp only[beq_iff_eq]at D;subst D;simp only[qBa,qDa]at g;cases E with
         | p _ _ E =>
         cases E with
         | full _ _ _ b o f A B I Q =>
          have J:n.toNat<xs.length:=by omega
          have r:xs[n.toNat]?=some (xs.getD n.toNat .nil):=by simp[J]
          refine aJ.ret (c:=.pointer (some ⟨b,o+n.toNat*ks.length,none⟩)) ?_ (R _ _ _ _ g.1 g.2);exact .rE a ks _ 0 b (o+n.toNat*ks.length) (f n.toNat) A (Q _ (qLe r)) (λj c K=>B _ _ j c r K) (λj c K=>I _ _ j c r K)
         | SV=>simp at g;omega
       . exact aJ.fail
   . rename_i len e G;have G:=ok.und G;split
     . rename_i s F off m O;obtain⟨j,N,L⟩:=ok.size O;refine aJ.chk λg=>?_;simp only[qBa,qDa]at g;cases E with
       | ptrB _ _ cs b o A H =>
        have one:∀ q:Nat,n=(q:Int)->aJ P w M β h (.ret {val:=.ptr s 0 (off+q*m)}) (Instr.indexAt t (.pointer (some ⟨b,o+off,none⟩)) (.int k n)):=by
         intro q S;subst S;refine aJ.ret (c:=.pointer (some ⟨b,o+off+q*m,none⟩)) ?_ ?_
         . rw[Nat.add_assoc];exact .ptrB s _ cs b o A H
         . simp[Instr.indexAt,asIntOf,eP G,g,Instr.sureAddr,jm N,L,addr_add];omega
        cases Nat.ble len 8 with
        | true=>exact IE one _ _
        | false=>exact one n.toNat (by omega)
       | ptrA _ _ _ a ks xs b o A H B =>
        have one:∀ q:Nat,n=(q:Int)->aJ P w M β h (.ret {val:=.ptr s F (off+q*m)}) (Instr.indexAt t (.pointer (some ⟨b,o+F*ks.length+off,none⟩)) (.int k n)):=by
         intro q S;subst S;refine aJ.ret (c:=.pointer (some ⟨b,o+F*ks.length+off+q*m,none⟩)) ?_ ?_
         . rw[Nat.add_assoc];exact .ptrA s F _ a ks xs b o A H B
         . simp[Instr.indexAt,asIntOf,eP G,g,Instr.sureAddr,jm N,L,addr_add];omega
        cases Nat.ble len 8 with
        | true=>exact IE one _ _
        | false=>exact one n.toNat (by omega)
     . rename_i a ks y off m O;obtain⟨j,N,L⟩:=ok.size O;refine aJ.chk λg=>?_;simp only[qBa,qDa]at g;cases E with
       | rE _ _ _ _ b o f A H B I =>
        refine aJ.ret (c:=.pointer (some ⟨b,o+off+n.toNat*m,none⟩)) ?_ ?_
        . rw[Nat.add_assoc];exact .rE a ks y _ b o f A H B I
        . simp[Instr.indexAt,asIntOf,eP G,g,Instr.sureAddr,jm N,L,addr_add]
     . exact aJ.fail
   . exact aJ.fail
 . exact aJ.fail
end
end
section
variable {c:Value}{b cap l len o u:Nat}{hi lo:Option AV}{chi clo:Option Value}{xs:List PV}{a:Bool}{ks:List Kd}{f:Nat -> Nat -> Value}
section
variable {P:Program} {T:Tab} {w:World} {M:Nat->Prop} {β:Nat->Option (Nat × Nat)} {h:Nat->Option bZ}
def WV(w:World)(M:Nat->Prop)(β:Nat->Option (Nat × Nat))(h:Nat->Option bZ):Option AV->Option Value->Prop
 | none,none=>True
 | some v,some c=>AR w M β h v c
 | _,_=>False
theorem zy{d:Int}{v:AV}{n:Int}(j:AR w M β h v c)(g:bound d (some v)=some n):∃ k,c=.int k n:=by
 unfold bound at g;split at g
 . grind
 . rename_i k m e;cases e;cases g;exact⟨k,j.Ef⟩
 . cases g
theorem N8(b:Bool){l u:Int}(g:WV w M β h lo clo)(m:WV w M β h hi chi)
    (j:bound 0 lo=some l)(p:bound len hi=some u)(q:0<=l)(r:l<=u)(B:u<=(len:Int))(A:len<=cap) :
    (Instr.sliceBounds b len cap clo chi none).run P w=.ok (l.toNat,u.toNat,cap) w:=by
  cases hi with
  | none =>
   cases chi with
   | some c=>exact m.elim
   | none =>
    simp[bound]at p;subst p;cases lo with
    | none =>
     cases clo with
     | some c=>exact g.elim
     | none=>simp[bound]at j;subst j;simp[Instr.sliceBounds]
    | some v =>
     cases clo with
     | none=>exact g.elim
     | some c =>obtain⟨k,rfl⟩:=zy g j;simp only[Instr.sliceBounds,Sem.run_bind,Sem.run_pure,qRa,run_sliceBound w k l len _ q (by omega)];simp
  | some v =>
   cases chi with
   | none=>exact m.elim
   | some c =>
    obtain⟨k,rfl⟩:=zy m p;cases lo with
    | none =>
     cases clo with
     | some c=>exact g.elim
     | none =>simp[bound]at j;subst j;simp only[Instr.sliceBounds,Sem.run_bind,Sem.run_pure,qRa,run_sliceBound w k u cap _ r (by omega)];simp
    | some v =>
     cases clo with
     | none=>exact g.elim
     | some c =>obtain⟨z,rfl⟩:=zy g j;simp only[Instr.sliceBounds,Sem.run_bind,Sem.run_pure,qRa,run_sliceBound w k u cap _ (by omega) (by omega),run_sliceBound w z l u.toNat _ q (by omega)]
theorem acP{q:AV}{g:Value}{l u m:Int}(j:WV w M β h lo clo)(z:WV w M β h hi chi)(F:AR w M β h q g)
    (p:bound 0 lo=some l)(H:bound len hi=some u)(E:hi.isSome=true)(G:bound len (some q)=some m)(B:0<=l)(A:l<=u)(K:u<=m)(J:m<=(len:Int))(I:len<=cap) :
    (Instr.sliceBounds true len cap clo chi (some g)).run P w=.ok (l.toNat,u.toNat,m.toNat) w:=by
  obtain⟨k,rfl⟩:=zy F G;cases hi with
  | none=>cases E
  | some v =>
   cases chi with
   | none=>exact z.elim
   | some c =>
    obtain⟨r,rfl⟩:=zy z H;cases lo with
    | none =>
     cases clo with
     | some c=>exact j.elim
     | none =>simp[bound]at p;subst p;simp only[Instr.sliceBounds,Sem.run_bind,Sem.run_pure,qRa,run_sliceBound w k m cap _ (by omega) (by omega),run_sliceBound w r u m.toNat _ A (by omega)];simp
    | some v =>
     cases clo with
     | none=>exact j.elim
     | some c =>obtain⟨D,rfl⟩:=zy j p;simp only[Instr.sliceBounds,Sem.run_bind,Sem.run_pure,qRa,run_sliceBound w k m cap _ (by omega) (by omega),run_sliceBound w r u m.toNat _ (by omega) (by omega),run_sliceBound w D l u.toNat _ B (by omega)]
theorem WW{_a:Bool}{_ks:List Kd}(j:l<=u)(g:u<=xs.length):((xs.drop l).take (u-l)).length=u-l:=by simp;omega
theorem C9{n i:Nat}{x:PV}(h:((xs.drop l).take n)[i]?=some x):xs[l+i]?=some x:=by grind
theorem VR.sub{_cap cap':Nat}(D:M b)
    (B:∀(i:Nat) (x:PV) (j:Nat) (c:PV),xs[i]?=some x->x.cells[j]?=some c->w.cell? ⟨b,o+i*ks.length+j,none⟩=some (f i j))
    (z:∀(i:Nat) (x:PV) (j:Nat) (c:PV),xs[i]?=some x->x.cells[j]?=some c->VR w M c (f i j))(A:∀ x∈xs,bY a ks x=true)
    (r:l<=u)(q:u<=xs.length)(m:u-l<=cap'):VR w M (.list a ks ((xs.drop l).take (u-l))) (.slice (some ⟨b,o+l*ks.length,none⟩) (u-l) cap'):=by
  have:=VR.list (w:=w) (M:=M) a ks ((xs.drop l).take (u-l)) b (o+l*ks.length) cap' (λi j=>f (l+i) j) D (by rw[WW (_a:=a) (_ks:=ks) r q];exact m)
   (λi x j c g p=>by have:=B (l+i) x j c (C9 g) p;rw[Nat.add_mul]at this;rw[<- this];congr 2;omega)
   (λi x j c g p=>z (l+i) x j c (C9 g) p) (λx g=>A x (List.mem_of_mem_drop (List.mem_of_mem_take g)))
  rwa[WW (_a:=a) (_ks:=ks) r q]at this
theorem VR.avV(z:M b)
    (r:∀(i:Nat) (x:PV) (j:Nat) (c:PV),xs[i]?=some x->x.cells[j]?=some c->w.cell? ⟨b,o+i*ks.length+j,none⟩=some (f i j))
    (p:∀(i:Nat) (x:PV) (j:Nat) (c:PV),xs[i]?=some x->x.cells[j]?=some c->VR w M c (f i j))(q:∀ x∈xs,bY a ks x=true)
    (B:l<=u)(A:u<=xs.length):VR w M (.full a ks ((xs.drop l).take (u-l))) (.slice (some ⟨b,o+l*ks.length,none⟩) (u-l) (u-l)):=by
  have:=VR.full (w:=w) (M:=M) a ks ((xs.drop l).take (u-l)) b (o+l*ks.length) (λi j=>f (l+i) j) z
   (λi x j c g m=>by have:=r (l+i) x j c (C9 g) m;rw[Nat.add_mul]at this;rw[<- this];congr 2;omega)
   (λi x j c g m=>p (l+i) x j c (C9 g) m) (λx g=>q x (List.mem_of_mem_drop (List.mem_of_mem_take g)))
  rwa[WW (_a:=a) (_ks:=ks) B A]at this
theorem ahz(ok:fB P T){t:TypeId}{x:AV}{U:Option AV}{r:Option Value}(Q:AR w M β h x c)(X:WV w M β h lo clo)(Y:WV w M β h hi chi)
    (R:WV w M β h U r)(hmh:U.isSome=true->hi.isSome=true):aJ P w M β h (Rl T t x lo hi U) (Instr.sliceAt t c clo chi r):=by
  unfold Rl;split
  . rename_i W;have W:=ok.und W;split
    . rename_i s;rw[Q.WL];have:r=none:=by cases r with | none=>rfl | some v=>exact R.elim
      subst this;split
      . rename_i l u D B;refine aJ.chk λA=>aJ.ret (.str _) ?_;simp only[qBa,qDa]at A;have:=N8 (P:=P) false (len:=s.size) (cap:=s.size) X Y D B A.1 A.2.1 A.2.2 (qNr _);simp[Instr.sliceAt,Instr.slice,eP W,this]
      . exact aJ.fail
    . exact aJ.fail
  . rename_i e W;have W:=ok.und W;split
    . exact aJ.fail
    . rename_i n hn;obtain⟨j,g1,g2⟩:=ok.size hn
      have go:∀(base:Option Addr) (len cap l u m:Nat),(Instr.sliceBounds true len cap clo chi r).run P w=.ok (l,u,m) w ->
          (Instr.sliceAt t (.slice base len cap) clo chi r).run P w=.ok (.slice (if m=l then base else base.map (·.add (l*n))) (u-l) (m-l)) w:=by
        intro base len cap l u m A;simp[Instr.sliceAt,Instr.slice,eP W,A,jm g1,g2]
      have E:∀(len cap:Nat) (l u m:Int),bound 0 lo=some l->bound len hi=some u->bound len U=some m->0<=l->l<=u->u<=m->m<=(len:Int)->len<=cap ->
          ∃ g:Nat,(Instr.sliceBounds true len cap clo chi r).run P w=.ok (l.toNat,u.toNat,g) w/\((U=none/\g=cap)\/(U.isSome=true/\g=m.toNat)):=by
        intro len cap l u m D B H L K N J q5;cases U with
        | none =>
         have:r=none:=by cases r with | none=>rfl | some v=>exact R.elim
         subst this;simp[bound]at H;exact⟨cap,N8 true X Y D B L K (by omega) q5,.inl ⟨rfl,rfl⟩⟩
        | some v =>
         cases r with
         | none=>exact R.elim
         | some c=>exact⟨m.toNat,acP X Y R D B (hmh rfl) H L K N J q5,.inr ⟨rfl,rfl⟩⟩
      split
      . rename_i s z off len;split
        . rename_i l u m D B H;refine aJ.chk λV=>aJ.chk λA=>?_;simp only[beq_iff_eq]at V;subst V;simp only[qBa,qDa]at A;obtain⟨L,K,N,J⟩:=A;cases Q with
          | slice _ _ _ a ks xs b o cap I p2 p3 Z p5 =>
           obtain⟨g,O,F⟩:=E len cap l u m D B H L K N J Z;have G:u.toNat<=g/\g<=cap:=by rcases F with⟨_,rfl⟩ |⟨_,rfl⟩<;>omega
           have S:(u-l).toNat=u.toNat-l.toNat:=by omega
           rw[S];refine aJ.ret ?_ (go _ _ _ _ _ _ O);by_cases q:g=l.toNat
           . rw[if_pos q,show u.toNat-l.toNat=0 from by omega,show g-l.toNat=0 from by omega];exact .sliceE s _ a ks xs _ I (by omega)
           . rw[if_neg q];simp only[Option.map_some,addr_add];have:=AR.slice (w:=w) (M:=M) (β:=β) (h:=h) s (off+l.toNat) (u.toNat-l.toNat) a ks xs b o (g-l.toNat) I (by omega) p3 (by omega) (p5.mono (by refine Nat.add_le_add_left (Nat.mul_le_mul_right _ ?_) _;omega));grind
          | sliceE _ _ a ks xs base I p2 =>
           obtain⟨g,O,F⟩:=E 0 0 l u m D B H L K N J (qNr _);have G:u.toNat<=g/\g<=0:=by rcases F with⟨_,rfl⟩ |⟨_,rfl⟩<;>omega
           have S:(u-l).toNat=0:=by omega
           rw[S];have e5:g=l.toNat:=by omega
           refine aJ.ret (AR.sliceE s (off+l.toNat) a ks xs base I (by omega)) ?_;grind
        . exact aJ.fail
      . rename_i s off len;split
        . rename_i l u m D B H;refine aJ.chk λV=>aJ.chk λA=>?_;simp only[beq_iff_eq]at V;subst V;simp only[qBa,qDa]at A;obtain⟨L,K,N,J⟩:=A;cases Q with
          | bslice _ _ _ cs b o cap I p2 p3 Z =>
           obtain⟨g,O,F⟩:=E len cap l u m D B H L K N J Z;have G:u.toNat<=g/\g<=cap:=by rcases F with⟨_,rfl⟩ |⟨_,rfl⟩<;>omega
           have S:(u-l).toNat=u.toNat-l.toNat:=by omega
           rw[S];refine aJ.ret ?_ (go _ _ _ _ _ _ O);by_cases q:g=l.toNat
           . rw[if_pos q,show u.toNat-l.toNat=0 from by omega,show g-l.toNat=0 from by omega];exact .bsliceE s _ cs _ I (by omega)
           . rw[if_neg q];simp only[Option.map_some,addr_add,Nat.mul_one];have:=AR.bslice (w:=w) (M:=M) (β:=β) (h:=h) s (off+l.toNat) (u.toNat-l.toNat) cs b o (g-l.toNat) I (by omega) p3 (by omega);grind
          | bsliceE _ _ cs base I p2 =>
           obtain⟨g,O,F⟩:=E 0 0 l u m D B H L K N J (qNr _);have G:u.toNat<=g/\g<=0:=by rcases F with⟨_,rfl⟩ |⟨_,rfl⟩<;>omega
           have S:(u-l).toNat=0:=by omega
           rw[S];have e5:g=l.toNat:=by omega
           refine aJ.ret (AR.bsliceE s (off+l.toNat) cs base I (by omega)) ?_;grind
        . exact aJ.fail
      . rename_i a ks xs;split
        . rename_i l u m D B H;refine aJ.chk λV=>aJ.chk λA=>?_;simp only[beq_iff_eq]at V;subst V;simp only[qBa,qDa]at A;obtain⟨L,K,N,J⟩:=A;have S:(u-l).toNat=u.toNat-l.toNat:=by omega
          rw[S];cases Q with
          | p _ _ Q =>
          have lst:∃ c',AR w M β h (.p (.list a ks ((xs.drop l.toNat).take (u.toNat-l.toNat)))) c'/\(Instr.sliceAt t c clo chi r).run P w=.ok c' w /\
              (U.isSome=true->u=m->AR w M β h (.p (.full a ks ((xs.drop l.toNat).take (u.toNat-l.toNat)))) c'):=by
            cases Q with
            | list _ _ _ b o cap f I p2 p3 Z p5 =>
             obtain⟨g,O,F⟩:=E xs.length cap l u m D B H L K N J p2;have G:u.toNat<=g/\g<=cap:=by rcases F with⟨_,rfl⟩ |⟨_,rfl⟩<;>omega
             refine⟨_,?_,go _ _ _ _ _ _ O,?_⟩
             . by_cases q:g=l.toNat
               . have e0:u.toNat-l.toNat=0:=by omega
                 rw[if_pos q,e0];simp only[List.take_zero];exact .p _ _ (.wW a ks _ _)
               . rw[if_neg q];simp only[Option.map_some,addr_add];exact .p _ _ (VR.sub (_cap:=cap) I p3 Z p5 (by omega) (by omega) (by omega))
             . intro hs hum;have e6:g=u.toNat:=by grind
               by_cases q:g=l.toNat
               . have e0:u.toNat-l.toNat=0:=by omega
                 rw[if_pos q,e0,show g-l.toNat=0 from by omega];simp only[List.take_zero];exact .p _ _ (.SV a ks _)
               . rw[if_neg q,e6];simp only[Option.map_some,addr_add];exact .p _ _ (VR.avV I p3 Z p5 (by omega) (by omega))
            | wW _ _ base cap =>
             obtain⟨g,O,F⟩:=E 0 cap l u m D B H L K N J (Nat.zero_le _);have z:l=0/\u=0/\m=0:=by simp at J;omega
             obtain⟨rfl,rfl,rfl⟩:=z;refine⟨_,?_,go _ _ _ _ _ _ O,?_⟩
             . simpa using AR.p _ _ (.wW a ks _ _)
             . intro hs _;rcases F with⟨h0,_⟩ |⟨_,h0⟩
               . grind
               . subst h0;simpa using AR.p _ _ (.SV a ks _)
          obtain⟨c',r1,r2,r3⟩:=lst;split
          . exact aJ.ret r1 r2
          . rename_i v;exact aJ.ite (λhum=>aJ.ret (r3 rfl (by simpa using hum)) r2) (λ_=>aJ.ret r1 r2)
        . exact aJ.fail
      . split
        . rename_i l u m D B H;refine aJ.chk λA=>?_;simp only[qBa,qDa]at A;obtain⟨rfl,rfl,rfl⟩:=A;cases Q with
          | p _ _ Q=>cases Q with
          | nil =>
           obtain⟨g,O,F⟩:=E 0 0 0 0 0 D B H (by omega) (by omega) (by omega) (by omega) (by omega);have G:g=0:=by rcases F with⟨_,rfl⟩ |⟨_,rfl⟩<;>rfl
           subst G;refine aJ.ret (.p _ _ .nil) ?_;grind
        . exact aJ.fail
      . exact aJ.fail
  . exact aJ.fail
end
end
end Go.Skm
