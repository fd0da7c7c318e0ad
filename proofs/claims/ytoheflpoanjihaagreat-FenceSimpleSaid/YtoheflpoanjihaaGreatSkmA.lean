import Derived.Orders
import Derived.WalkKit
namespace Go.Skm
theorem qLa.{u} {α:Type u}{i:Nat}{a:α}{l:List α}:l[i]?=some a↔∃h:i<l.length,l[i]=a:=List.getElem?_eq_some_iff 
theorem qAa.{u} {α:Type u}{i:Nat}{b:α}{xs:Array α}:xs[i]?=some b↔∃h:i<xs.size,xs[i]=b:=Array.getElem?_eq_some_iff 
theorem qBa (a b:Bool):((a&&b)=true)=(a=true∧b=true):=Bool.and_eq_true a b
theorem qLb.{u} {α:Type u}{l:List α}{i:Nat}{a:α}:l.getD i a=l[i]?.getD a:=List.getD_eq_getElem?_getD 
theorem qAb.{u} {α:Type u}{xs:Array α}{i:Nat}{d:α}:xs.getD i d=xs[i]?.getD d:=Array.getD_eq_getD_getElem? 
theorem qLd.{u} {α:Type u}{l:List α}{i:Nat}(h:i<l.length):l[i]?=some l[i]:=List.getElem?_eq_getElem h
theorem qRa {α β:Type}(a:α)(w:Go.World)(f:α→Go.World→Go.Result β):(Go.Result.ok a w).andThen f=f a w:=Go.Result.andThen_ok a w f
theorem qOa.{u} {α:Type u}(a b:α):(some a=some b)=(a=b):=Option.some.injEq a b
theorem qAd.{u} {α:Type u}{xs:Array α}{i:Nat}(h:i<xs.size):xs[i]?=some xs[i]:=Array.getElem?_eq_getElem h
theorem qAe.{u} {α:Type u}{xs:Array α}{i j:Nat}(h:i≠j){a:α}:(xs.setIfInBounds i a)[j]?=xs[j]?:=Array.getElem?_setIfInBounds_ne h
theorem qLe.{u} {α:Type u}{l:List α}{i:Nat}{a:α}(h:l[i]?=some a):a∈l:=List.mem_of_getElem? h
theorem qBb (b:Bool):((!b)=true)=(b=false):=Bool.not_eq_true' b
theorem qDa {p:Prop}[Decidable p]:(decide p=true)=p:=decide_eq_true_eq 
inductive Kd where
 | int (k:IntKind)
 | bool
 | str
 | slice (a:Bool) (ks:List Kd)
 | other
 deriving Inhabited
mutual
def Kd.beq:Kd→Kd→Bool
 | .int j,.int k=>j==k
 | .bool,.bool=>true
 | .str,.str=>true
 | .slice a ks,.slice b ls=>a==b&&Kd.BQ ks ls
 | .other,.other=>true
 | _,_=>false
def Kd.BQ:List Kd→List Kd→Bool
 | [],[]=>true
 | k::ks,l::ls=>Kd.beq k l&&Kd.BQ ks ls
 | _,_=>false
end
inductive PV where
 | bool (b:Bool)
 | int (k:IntKind) (n:Int)
 | str (s:ByteArray)
 | agg (cs:List PV)
 | list (a:Bool) (ks:List Kd) (xs:List PV)
 | full (a:Bool) (ks:List Kd) (xs:List PV)
 | nil
 | fn (f:Nat) (caps:List PV)
 | ref (cs:List PV)
 | VG
 | pX
 deriving Inhabited
def PV.cells:PV→List PV
 | .agg cs=>cs
 | v=>[v]
def PV.cell:PV→Nat→PV
 | .agg cs,j=>cs.getD j .nil
 | v,_=>v
def PV.toInt:PV→Int
 | .int _ n=>n
 | _=>0
def PV.toBool:PV→Bool
 | .bool b=>b
 | _=>false
def PV.toStr:PV→ByteArray
 | .str s=>s
 | _=>ByteArray.empty
def PV.toList:PV→List PV
 | .list _ _ xs=>xs
 | .full _ _ xs=>xs
 | _=>[]
def PV.cap:PV→Nat→PV
 | .fn _ cs,j=>cs.getD j .nil
 | _,_=>.nil
def PV.iq:PV→Nat→PV
 | .ref cs,j=>cs.getD j .nil
 | v,_=>v
def PV.isF:PV→Bool
 | .fn _ _=>true
 | .pX=>true
 | _=>false
def PV.Qu:PV→Bool
 | .pX=>true
 | _=>false
def eta:Kd→PV→PV
 | .int k,v=>.int k v.toInt
 | .bool,v=>.bool v.toBool
 | .str,v=>.str v.toStr
 | .slice a ks,v=>.list a ks v.toList
 | .other,v=>v
def jB:List Kd→PV→Nat→List PV
 | [],_,_=>[]
 | k::ks,x,j=>eta k (x.cell j)::jB ks x (j+1)
def kindOk:Kd→PV→Bool
 | .int j,.int k _=>j==k
 | .bool,.bool _=>true
 | .str,.str _=>true
 | .slice a ks,.list b ls _=>a==b&&Kd.BQ ks ls
 | .slice _ _,.nil=>true
 | .other,.agg _=>false
 | .other,_=>true
 | _,_=>false
def gQ:List Kd→List PV→Bool
 | [],[]=>true
 | k::ks,v::vs=>kindOk k v&&gQ ks vs
 | _,_=>false
def Ci:List Kd→PV→Nat→List PV
 | [],_,_=>[]
 | k::ks,x,j=>eta k (x.iq j)::Ci ks x (j+1)
def Zz:Bool × List Kd→PV→PV
 | (true,ks),v=>.ref (Ci ks v 0)
 | (false,[k]),v=>eta k v
 | _,v=>v
def zu:List (Bool × List Kd)→PV→Nat→List PV
 | [],_,_=>[]
 | s::r,x,j=>Zz s (x.cap j)::zu r x (j+1)
def XV:Bool × List Kd→PV→Bool
 | (true,ks),.ref cs=>gQ ks cs
 | (false,[k]),v=>kindOk k v
 | _,_=>false
def F7:List (Bool × List Kd)→List PV→Bool
 | [],[]=>true
 | s::r,v::vs=>XV s v&&F7 r vs
 | _,_=>false
def bZ:Bool→List Kd→PV→Bool
 | true,ks,.agg cs=>gQ ks cs
 | true,_,_=>false
 | false,[k],v=>kindOk k v
 | false,_,_=>false
inductive AV where
 | undef
 | p (v:PV)
 | slice (s z off len:Nat)
 | bslice (s off len:Nat)
 | ptr (s idx off:Nat)
 | pq (a:Bool) (ks:List Kd) (x:PV) (off:Nat)
 | fn (f:Nat) (caps:List AV)
 | agg (cs:List AV)
 | qY (vs:List AV)
 | fresh (a:Bool) (ks:List Kd) (xs:List PV)
 | vN
 deriving Inhabited
inductive cu where
 | box (cs:List AV)
 | arr (a:Bool) (ks:List Kd) (xs:List PV)
 | log (on:Bool) (xs:List PV)
 deriving Inhabited
abbrev Heap:=List (Nat × cu)
structure St where
 env:List AV
 heap:Heap
inductive Ex where
 | normal
 | exit (id:Nat)
 | ret
structure Eff where
 val:AV
 qI:List (Nat × cu):=[]
 new:List Nat:=[]
 cut:List Nat:=[]
 Ed:List Nat:=[]
def look:Heap→Nat→Option cu
 | [],_=>none
 | (k,b)::h,s=>bif k==s then some b else look h s
def put:Heap→Nat→cu→Heap
 | [],s,b=>[(s,b)]
 | (k,c)::h,s,b=>bif k==s then(s,b)::h else(k,c)::put h s b
def drop1:Heap→Nat→Heap
 | [],_=>[]
 | (k,c)::h,s=>bif k==s then drop1 h s else(k,c)::drop1 h s
def fC:Heap→List (Nat × cu)→Heap
 | h,[]=>h
 | h,(s,b)::r=>fC (put h s b) r
def pY:Heap→List Nat→Heap
 | h,[]=>h
 | h,s::r=>pY (drop1 h s) r
def jC:Nat→List Nat→Bool
 | _,[]=>false
 | x,y::r=>bif x==y then true else jC x r
mutual
def AV.refers (ss:List Nat):AV→Bool
 | .slice s _ _ _=>jC s ss
 | .bslice s _ _=>jC s ss
 | .ptr s _ _=>jC s ss
 | .fn _ cs=>AV.jh ss cs
 | .agg cs=>AV.jh ss cs
 | .qY cs=>AV.jh ss cs
 | _=>false
def AV.jh (ss:List Nat):List AV→Bool
 | []=>false
 | v::r=>AV.refers ss v||AV.jh ss r
end
def AV.kill (ss:List Nat) (v:AV):AV:=bif AV.refers ss v then .undef else v
def jd (ss:List Nat):List AV→List AV
 | []=>[]
 | v::r=>AV.kill ss v::jd ss r
def cu.kill (ss:List Nat):cu→cu
 | .box cs=>.box (jd ss cs)
 | b=>b
def iV (ss:List Nat):Heap→Heap
 | []=>[]
 | (k,b)::h=>(k,b.kill ss)::iV ss h
def St.kill (ss:List Nat) (st:St):St :=
 match ss with
 | []=>st
 | _=>{ env:=jd ss st.env,heap:=iV ss st.heap }
def setEnv (env:List AV) (d:Option Nat) (v:AV):List AV :=
 match d with
 | some d=>env.set d v
 | none=>env
def St.strike (ss:List Nat) (st:St):St :=
 match ss with
 | []=>st
 | ss=>{ env:=jd ss st.env,heap:=pY (iV ss st.heap) ss }
def present (h:Heap):List Nat→List Nat
 | []=>[]
 | s::r=>match look h s with
  | some _=>s::present h r
  | none=>present h r
def St.apply (st:St) (d:Option Nat) (e:Eff):St :=
 let st1:=(st.strike (present st.heap e.new++e.Ed)).kill e.cut
 { env:=setEnv st1.env d e.val,heap:=fC st1.heap e.qI }
def DL (s d x:Nat):Nat:=bif x==s then d else x
mutual
def AV.ren (s d:Nat):AV→AV
 | .slice x z o l=>.slice (DL s d x) z o l
 | .bslice x o l=>.bslice (DL s d x) o l
 | .ptr x i o=>.ptr (DL s d x) i o
 | .fn f cs=>.fn f (AV.IV s d cs)
 | .agg cs=>.agg (AV.IV s d cs)
 | .qY cs=>.qY (AV.IV s d cs)
 | v=>v
def AV.IV (s d:Nat):List AV→List AV
 | []=>[]
 | v::r=>AV.ren s d v::AV.IV s d r
end
def cu.ren (s d:Nat):cu→cu
 | .box cs=>.box (AV.IV s d cs)
 | b=>b
def tK (s d:Nat):Heap→Heap
 | []=>[]
 | (k,b)::h=>(DL s d k,b.ren s d)::tK s d h
def St.MG (st:St) (s d:Nat):St :=
 let st1:=st.strike [d]
 { env:=AV.IV s d st1.env,heap:=tK s d st1.heap }
def xq (live:List Nat):Nat→List AV→List AV
 | _,[]=>[]
 | i,v::r=>(bif jC i live then v else .undef)::xq live (i+1) r
def MH (sites:List Nat):Heap→List Nat
 | []=>[]
 | (k,_)::h=>bif jC k sites then MH sites h else k::MH sites h
def St.forget (st:St) (live sites:List Nat):St :=
 let st1:St:={ st with env:=xq live 0 st.env }
 st1.strike (MH sites st1.heap)
inductive lq where
 | deep
 | fresh
 | alias (j:Nat)
 | func (g:Nat) (ss:List (Bool × List Kd))
 deriving Inhabited
inductive Prim where
 | none
 | carry (sub:Bool)
 deriving Inhabited
def lU (sub:Bool) (x y c:Nat):Nat:=cond sub ((x+18446744073709551616-y-c)%18446744073709551616) ((x+y+c)%18446744073709551616)
def ni (sub:Bool) (x y c:Nat):Nat:=cond sub (if x<y+c then 1 else 0) ((x+y+c) / 18446744073709551616)
def Prim.is:Prim→Bool
 | .none=>false
 | _=>true
structure Fp where
 vY:Bool:=false
 shares:Bool:=false
 rets:List lq:=[]
 nvars:Nat:=0
 yk:List (Bool × List Kd):=[]
 ys:List Nat:=[]
 cuts:List (Nat × List Nat × List Nat):=[]
 frzs:List Nat:=[]
 Jg:Prim:=.none
 quiet:Bool:=false
 vcall:Bool:=false
 vkeep:Bool:=false
 aef:TypeId:=0
 gext:Bool:=false
 take:Bool:=false
 deriving Inhabited
structure TI where
 desc:TypeDesc
 size:Nat
 bytes:Nat
 agg:Bool
 sh:Bool × List Kd
 zero:Option PV
 plain:Bool
structure FI where
 fn:Func
 cfg:Fp
 hides:List (Nat × List (List Nat)):=[]
structure Tab where
 types:List (Nat × TI)
 funcs:List (Nat × FI)
 strict:Bool:=false
 owns:List (Nat × Nat):=[]
 calcs:List Nat:=[]
 glob:Bool→World→Prop:=fun _ _=>True
def dN {β:Type}:List (Nat × β)→Nat→Option β
 | [],_=>none
 | (k,x)::r,s=>bif k==s then some x else dN r s
def VH:Value→Option PV
 | .bool b=>some (.bool b)
 | .int k n=>some (.int k n)
 | .string s=>some (.str s)
 | .slice none 0 0=>some .nil
 | .pointer none=>some .VG
 | .nilFunc=>some .pX
 | _=>none
def DN:List Value→Option (List PV)
 | []=>some []
 | v::r=>match VH v,DN r with
  | some x,some xs=>some (x::xs)
  | _,_=>none
def ofValue:Value→Option PV
 | .agg cs=>(DN cs.toList).map .agg
 | v=>VH v
section
variable (P:Program)
def Bc (t:TypeId):Bool :=
 match P.underlying t with
 | some (.struct _)=>true
 | some (.array _ _)=>true
 | _=>false
def dL:Nat→TypeId→Bool × List Kd
 | 0,_=>(false,[.other])
 | n+1,t =>
  match P.underlying t with
  | some (.int k)=>(false,[.int k])
  | some .bool=>(false,[.bool])
  | some .string=>(false,[.str])
  | some (.slice e)=>(false,[.slice (dL n e).1 (dL n e).2])
  | some (.struct fs)=>(true,fs.toList.flatMap fun f=>(dL n f.type).2)
  | some (.array len e)=>(true,(List.replicate len (dL n e).2).flatten)
  | _=>(false,[.other])
def OV (sz:TypeId→Option Nat) (g:TypeId→Bool):Nat→List Field→Bool
 | _,[]=>true
 | o,f::r=>match sz f.type with
  | some n => f.offset == o && (f.name != "_" && (g f.type && OV sz g (o + n) r))
  | none=>false
def F8:Nat→TypeId→Bool
 | 0,_=>false
 | n+1,t=>match P.underlying t with
  | some (.int _)=>true
  | some .bool=>true
  | some .string=>true
  | some (.struct fs)=>!(P.stoodInHeld t)&&OV (fun t=>(P.info? t).map (·.size)) (F8 n) 0 fs.toList
  | _=>false
def VI (t:TypeId):Bool :=
 match P.underlying t with
 | some (.struct _)=>F8 P 4 t&&!(P.eqGuardType P.depth t)
 | _=>false
def afU (t:TypeId):Option TI :=
 match P.underlying t,P.info? t with
 | some d,some i=>some { desc:=d,size:=i.size,bytes:=i.bytes,agg:=Bc P t,sh:=dL P 8 t,zero:=i.zero.bind ofValue,plain:=VI P t }
 | _,_=>none
end
section
variable (T:Tab)
def und (t:TypeId):Option TypeDesc:=(dN T.types t).map (·.desc)
def vG (t:TypeId):Option Nat:=(dN T.types t).map (·.size)
def KD (t:TypeId):Option Nat:=(dN T.types t).map (·.bytes)
def aeg (t:TypeId):Bool:=match dN T.types t with | some i=>i.agg | none=>false
def bY (t:TypeId):Bool × List Kd:=match dN T.types t with | some i=>i.sh | none=>(false,[])
def NP (t:TypeId):Option PV:=(dN T.types t).bind (·.zero)
def ZA (t:TypeId):Bool:=match dN T.types t with | some i=>i.plain | none=>false
def jo (f:Nat):Fp:=match dN T.funcs f with | some i=>i.cfg | none=>{}
def dJ (env:List AV):Operand→AV
 | .tmp t=>env.getD t .undef
 | .const v=>match ofValue v with
  | some x=>.p x
  | none=>.undef
 | .func f=>.p (.fn f [])
 | .global _=>.undef
def l7 (env:List AV):List Operand→List AV
 | []=>[]
 | x::r=>dJ env x::l7 env r
def F9:List AV→Option (List PV)
 | []=>some []
 | .p v::r=>match F9 r with
  | some vs=>some (v::vs)
  | none=>none
 | _=>none
def EZ (cs:List AV):AV :=
 match F9 cs with
 | some vs=>.p (.agg vs)
 | none=>.agg cs
def AV.H9:List AV→Bool
 | []=>true
 | .undef::_=>false
 | .vN::_=>false
 | .qY _::_=>false
 | .fresh _ _ _::_=>false
 | .agg _::_=>false
 | _::r=>AV.H9 r
def AV.ok:AV→Bool
 | .undef=>false
 | .vN=>false
 | .qY _=>false
 | .fresh _ _ _=>false
 | .agg cs=>AV.H9 cs
 | _=>true
def AV.cells:AV→List AV
 | .p (.agg cs)=>cs.map .p
 | .agg cs=>cs
 | v=>[v]
def VJ:PV→Kd
 | .int j _=>.int j
 | .bool _=>.bool
 | .str _=>.str
 | _=>.other
def KE (cs:List AV):Option (Kd × List PV) :=
 match F9 cs with
 | some (v::vs)=>bif (v::vs).all (kindOk (VJ v)) then some (VJ v,v::vs) else none
 | _=>none
def NQ (h:Nat→Option cu):AV→Option (PV × List Nat)
 | .p v=>some (v,[])
 | .slice s _ off len=>match h s with
  | some (.arr a ks xs)=>some (.list a ks ((xs.drop off).take len),[s])
  | _=>none
 | .bslice s off len=>match h s with
  | some (.box cs)=>match KE cs with
   | some (kd,vs)=>some (.list false [kd] ((vs.drop off).take len),[s])
   | none=>none
  | _=>none
 | _=>none
def Ap (h:Nat→Option cu):List AV→Option (List PV × List Nat)
 | []=>some ([],[])
 | v::r=>match NQ h v,Ap h r with
  | some (x,s),some (xs,ss)=>some (x::xs,s++ss)
  | _,_=>none
def KF (h:Nat→Option cu):AV→Option (PV × List Nat)
 | .ptr s 0 0=>match h s with
  | some (.box cs)=>match Ap h cs with
   | some (vs,ss)=>some (.ref vs,s::ss)
   | none=>none
  | _=>none
 | v=>NQ h v
def Gf (h:Nat→Option cu):List AV→Option (List PV × List Nat)
 | []=>some ([],[])
 | v::r=>match KF h v,Gf h r with
  | some (x,s),some (xs,ss)=>some (x::xs,s++ss)
  | _,_=>none
def deep (h:Nat→Option cu):AV→Option (PV × List Nat)
 | .agg cs=>match Ap h cs with
  | some (vs,ss)=>some (.agg vs,ss)
  | none=>none
 | .fn f cs=>match Gf h cs with
  | some (vs,ss)=>some (.fn f vs,ss)
  | none=>none
 | v=>KF h v
def Gg (h:Nat→Option cu):List AV→Option (List PV × List Nat)
 | []=>some ([],[])
 | v::r=>match deep h v,Gg h r with
  | some (x,s),some (xs,ss)=>some (x::xs,s++ss)
  | _,_=>none
def Uh (h:Nat→Option cu):AV→Option (Option (Bool × List Kd) × Nat × List PV)
 | .slice s _ off len=>match h s with
  | some (.arr a ks xs)=>some (some (a,ks),len,(xs.drop off).take len)
  | _=>none
 | .bslice s off len=>match h s with
  | some (.box cs)=>match KE cs with
   | some (kd,vs)=>some (some (false,[kd]),len,(vs.drop off).take len)
   | none=>none
  | _=>none
 | .p (.list a ks xs)=>some (some (a,ks),xs.length,xs)
 | .p (.full a ks xs)=>some (some (a,ks),xs.length,xs)
 | .p .nil=>some (none,0,[])
 | .p (.str s)=>some (some (false,[.int .u8]),s.size,s.data.toList.map fun b=>.int .u8 b.toNat)
 | _=>none
def ED (o:Option (Bool × List Kd)) (a:Bool) (ks:List Kd):Bool :=
 match o with
 | none=>true
 | some (b,ls)=>a==b&&Kd.BQ ks ls
def ZB (op:BinOp) (k:IntKind) (x y:Int):Option PV :=
 match op with
 | .add=>some (.int k (k.wrap (x+y)))
 | .sub=>some (.int k (k.wrap (x-y)))
 | .mul=>some (.int k (k.wrap (x*y)))
 | .and=>some (.int k (k.wrap (BitVec.ofInt k.bits x &&& BitVec.ofInt k.bits y).toNat))
 | .or=>some (.int k (k.wrap (BitVec.ofInt k.bits x ||| BitVec.ofInt k.bits y).toNat))
 | .xor=>some (.int k (k.wrap (BitVec.ofInt k.bits x ^^^ BitVec.ofInt k.bits y).toNat))
 | .andNot=>some (.int k (k.wrap (BitVec.ofInt k.bits x &&& ~~~(BitVec.ofInt k.bits y)).toNat))
 | .eql=>some (.bool (x==y))
 | .neq=>some (.bool (x != y))
 | .lss=>some (.bool (decide (x<y)))
 | .leq=>some (.bool (decide (x≤y)))
 | .gtr=>some (.bool (decide (x > y)))
 | .geq=>some (.bool (decide (x ≥ y)))
 | _=>none
def EF:List UInt8→List UInt8→Bool
 | _,[]=>false
 | [],_::_=>true
 | a::x,b::y=>decide (a<b)||(a==b&&EF x y)
def ZC (op:BinOp) (x y:ByteArray):Option PV :=
 match op with
 | .eql=>some (.bool (x.toList==y.toList))
 | .neq=>some (.bool !(x.toList==y.toList))
 | .lss=>some (.bool (EF x.toList y.toList))
 | .leq=>some (.bool (EF x.toList y.toList||x.toList==y.toList))
 | .gtr=>some (.bool !(EF x.toList y.toList||x.toList==y.toList))
 | .geq=>some (.bool !(EF x.toList y.toList))
 | _=>none
def VK (d:Option TypeDesc):PV→PV→Option Bool
 | .int j x,.int k y=>match d with
  | some (.int _)=>bif j==k then some (x==y) else none
  | _=>none
 | .bool x,.bool y=>match d with
  | some .bool=>some (x==y)
  | _=>none
 | .str x,.str y=>match d with
  | some .string=>some (x==y)
  | _=>none
 | _,_=>none
def acr (sz:TypeId→Option Nat) (g:TypeId→List PV→List PV→Option Bool):List Field→List PV→List PV→Option Bool
 | [],[],[]=>some true
 | f::fs,xs,ys=>match sz f.type with
  | some n=>bif Nat.ble n xs.length&&Nat.ble n ys.length then(match g f.type (xs.take n) (ys.take n),acr sz g fs (xs.drop n) (ys.drop n) with
   | some a,some b=>some (a&&b)
   | _,_=>none) else none
  | none=>none
 | _,_,_=>none
def eqT:Nat→TypeId→List PV→List PV→Option Bool
 | 0,_,_,_=>none
 | n+1,t,xs,ys=>match und T t with
  | some (.struct fs)=>acr (vG T) (eqT n) fs.toList xs ys
  | d=>match xs,ys with
   | [x],[y]=>VK d x y
   | _,_=>none
inductive DT where
 | fail
 | ret (e:Eff)
 | ite (c:Bool) (x y:DT)
 | call (o:Option (List AV × List cu)) (f:List AV × List cu→DT)
def DT.run {α:Type} (k:Eff→Option α):DT→Option α
 | .fail=>none
 | .ret e=>k e
 | .ite c x y=>cond c (DT.run k x) (DT.run k y)
 | .call o f=>match o with
  | some r=>DT.run k (f r)
  | none=>none
abbrev dG (a b:Int):Bool:=decide (a<b)
abbrev leI (a b:Int):Bool:=decide (a≤b)
abbrev kX (a b:Int):Bool:=decide (a > b)
abbrev yH (a b:Int):Bool:=decide (a ≥ b)
abbrev FK (a b:Int):Bool:=decide (a=b)
abbrev Fe (a b:Nat):Bool:=decide (a≤b)
def chk (c:Bool) (x:DT):DT:=.ite c x .fail
def isLit:Operand→Bool
 | .const _=>true
 | _=>false
def DR (op:BinOp) (t:TypeId) (x y:AV):DT :=
 match x,y with
 | .p (.int j a),.p (.int i b) =>
  match op with
  | .shl=>chk (!(decide (b<0)))<|.ret { val:=.p (.int j (j.wrap (a*2 ^ (min b.toNat j.bits)))) }
  | .shr=>chk (!(decide (b<0)))<|.ret { val:=.p (.int j (a.fdiv (2 ^ (min b.toNat j.bits)))) }
  | .quo=>chk (j==i)<|chk (!(decide (b=0)))<|.ret { val:=.p (.int j (j.wrap (a.tdiv b))) }
  | .rem=>chk (j==i)<|chk (!(decide (b=0)))<|.ret { val:=.p (.int j (a.tmod b)) }
  | op=>chk (j==i)<|match ZB op j a b with
   | some v=>.ret { val:=.p v }
   | none=>.fail
 | .p (.str a),.p (.str b) =>
  match op with
  | .add=>chk (decide (a.size+b.size≤4611686018427387904))<|.ret { val:=.p (.str (a++b)) }
  | op=>match ZC op a b with
   | some v=>.ret { val:=.p v }
   | none=>.fail
 | .p (.bool a),.p (.bool b) =>
  match op,und T t with
  | .eql,some .bool=>.ret { val:=.p (.bool (a==b)) }
  | .neq,some .bool=>.ret { val:=.p (.bool (!(a==b))) }
  | _,_=>.fail
 | .p (.agg a),.p (.agg b) =>
  chk (ZA T t) <|
   match und T t with
   | some (.struct _) =>
    match op,eqT T 4 t a b with
    | .eql,some r=>.ret { val:=.p (.bool r) }
    | .neq,some r=>.ret { val:=.p (.bool (!r)) }
    | _,_=>.fail
   | _=>.fail
 | _,_=>.fail
def Ia (op:BinOp) (t:TypeId) (kc:Bool) (x y:AV):DT :=
 match y,x with
 | .p .pX,.p x =>
  match op,und T t with
  | .eql,some (.func _ _ _)=>chk x.isF<|.ret { val:=.p (.bool x.Qu) }
  | .neq,some (.func _ _ _)=>chk x.isF<|.ret { val:=.p (.bool (!x.Qu)) }
  | _,_=>.fail
 | .p .nil,.p (.list _ _ xs) =>
  match op,und T t with
  | .eql,some (.slice _)=>chk (Nat.blt 0 xs.length)<|.ret { val:=.p (.bool false) }
  | .neq,some (.slice _)=>chk (Nat.blt 0 xs.length)<|.ret { val:=.p (.bool true) }
  | _,_=>.fail
 | _,_=>.fail
def KG (op:BinOp) (t:TypeId) (kc:Bool) (x y:AV):DT :=
 match y with
 | .p .pX=>Ia T op t kc x y
 | .p .nil=>Ia T op t kc x y
 | _=>DR T op t x y
def Qv (op:UnOp) (x:AV):DT :=
 match op,x with
 | .neg,.p (.int j n)=>.ret { val:=.p (.int j (j.wrap (0-n))) }
 | .not,.p (.bool b)=>.ret { val:=.p (.bool (!b)) }
 | _,_=>.fail
def Qw (c a b:AV):DT :=
 match c with
 | .p (.bool c) =>
  match a,b with
  | .p (.bool x),.p (.bool y)=>.ret { val:=.p (.bool (cond c x y)) }
  | a,b=>.ite c (.ret { val:=a }) (.ret { val:=b })
 | _=>.fail
def MI (d:Option Nat) (t:TypeId):DT :=
 match d,NP T t with
 | some d,some z=>.ret { val:=.ptr d 0 0,qI:=[(d,.box (AV.p z).cells)],new:=[d] }
 | _,_=>.fail
def VL (d:Option Nat) (v:AV):DT :=
 match d with
 | some d=>chk (v.ok&&!(AV.refers [d] v))<|.ret { val:=.ptr d 0 0,qI:=[(d,.box v.cells)],new:=[d] }
 | none=>.fail
def patch {β:Type} (cs:List β) (off:Nat) (vs:List β):List β:=cs.take off++vs++cs.drop (off+vs.length)
def I4 (place:Nat→Option (Nat × Nat)):List AV→List (Nat × AV)→Option (List AV)
 | cs,[]=>some cs
 | cs,(i,v)::r=>match place i with
  | none=>none
  | some (off,size) =>
   bif v.cells.length==size&&Nat.ble (off+size) cs.length&&v.ok then I4 place (patch cs off v.cells) r else none
def iJ:List Field→List (Option (Nat × Nat))
 | []=>[]
 | f::r=>((vG T f.type).map fun n=>(f.offset,n))::iJ r
def MJ (t:TypeId) (parts:List (Nat × AV)):DT :=
 match NP T t,und T t with
 | some (.agg zs),some (.struct fs) =>
  chk ((iJ T fs.toList).all Option.isSome) <|
  match I4 (fun i=>((iJ T fs.toList)[i]?).bind id) (zs.map .p) parts with
  | some cs=>.ret { val:=EZ cs }
  | none=>.fail
 | some (.agg zs),some (.array _ e) =>
  match vG T e with
  | some n=>match I4 (fun i=>some (i*n,n)) (zs.map .p) parts with
   | some cs=>.ret { val:=EZ cs }
   | none=>.fail
  | none=>.fail
 | _,_=>.fail
def XW (h:Nat→Option cu) (a:Bool) (ks:List Kd):List PV→List Nat→List (Nat × AV)→Option (List PV × List Nat)
 | xs,ss,[]=>some (xs,ss)
 | xs,ss,(i,v)::r=>match deep h v with
  | some (x,s)=>bif bZ a ks x&&Nat.blt i xs.length then XW h a ks (xs.set i x) (ss++s) r else none
  | none=>none
def Aq (h:Nat→Option cu) (d:Option Nat) (t:TypeId) (len:Nat) (parts:List (Nat × AV)):DT :=
 match d,und T t with
 | some d,some (.slice e) =>
  match NP T e,vG T e with
  | some z,some n =>
   let sh:=bY T e
   chk (n==sh.2.length&&bZ sh.1 sh.2 z&&Nat.ble (len*n) 16777216) <|
    match XW h sh.1 sh.2 (List.replicate len z) [] parts with
    | some (xs,ss)=>.ret { val:=.slice d n 0 len,qI:=[(d,.arr sh.1 sh.2 xs)],new:=[d],Ed:=ss }
    | none=>.fail
  | _,_=>.fail
 | _,_=>.fail
def VN (t:TypeId) (n:Nat) (a:Bool) (ks:List Kd) (x:PV) (off:Nat):Option PV :=
 bif Nat.ble (off+n) ks.length then
  bif aeg T t then(bif a then some (.agg (jB ((ks.drop off).take n) x off)) else none)
  else bif Nat.beq n 1 then(match (ks.drop off).head? with
   | some kd=>some (eta kd (x.cell off))
   | none=>none) else none
 else none
def xu (t:TypeId) (n:Nat) (cs:List AV) (off:Nat):Option AV :=
 bif Nat.ble (off+n) cs.length then
  bif aeg T t then some (EZ ((cs.drop off).take n)) else(bif Nat.beq n 1 then some (cs.getD off .undef) else none)
 else none
def Gh (h:Nat→Option cu) (t:TypeId) (ptr:AV):DT :=
 match vG T t with
 | none=>.fail
 | some n =>
  match ptr with
  | .ptr s idx off=>match h s with
   | some (.box cs)=>match xu T t n cs off with
    | some v=>.ret { val:=v }
    | none=>.fail
   | some (.arr a ks xs)=>match VN T t n a ks (xs.getD idx .nil) off with
    | some v=>.ret { val:=.p v }
    | _=>.fail
   | _=>.fail
  | .pq a ks x off=>match VN T t n a ks x off with
   | some v=>.ret { val:=.p v }
   | none=>.fail
  | .p (.ref cs)=>match xu T t n (cs.map .p) 0 with
   | some v=>.ret { val:=v }
   | none=>.fail
  | _=>.fail
def MK (h:Nat→Option cu) (t:TypeId) (ptr v:AV):DT :=
 match vG T t with
 | none=>.fail
 | some n =>
  chk (v.cells.length==n) <|
   match ptr with
   | .ptr s idx off=>match h s with
    | some (.box cs) =>
     chk (v.ok&&(Nat.beq idx 0&&Nat.ble (off+n) cs.length))<|.ret { val:=.undef,qI:=[(s,.box (patch cs off v.cells))] }
    | some (.arr a ks xs) =>
     match deep h v with
     | some (x,ss) =>
      match a with
      | true =>
       chk (gQ ((ks.drop off).take n) x.cells&&(Nat.ble (off+n) ks.length&&!(jC s ss))) <|
        .ret { val:=.undef,qI:=[(s,.arr a ks (xs.set idx (.agg (patch (jB ks (xs.getD idx .nil) 0) off x.cells))))],Ed:=ss }
      | false =>
       chk (bZ a ks x&&(Nat.beq off 0&&(Nat.beq n 1&&!(jC s ss))))<|.ret { val:=.undef,qI:=[(s,.arr a ks (xs.set idx x))],Ed:=ss }
     | none=>.fail
    | _=>.fail
   | .p (.ref [.int k b])=>match v with
    | .p (.int j a)=>chk (j==k&&FK a b)<|.ret { val:=.undef }
    | _=>.fail
   | _=>.fail
def Cj (t:TypeId) (ptr:AV) (f:Nat):DT :=
 match und T t with
 | some (.struct fs) =>
  match fs[f]? with
  | some fd =>
   match vG T fd.type with
   | some (_+1) =>
    match ptr with
    | .ptr s idx off=>.ret { val:=.ptr s idx (off+fd.offset) }
    | .pq a ks x off=>.ret { val:=.pq a ks x (off+fd.offset) }
    | .p (.ref [c])=>match fd.offset with
     | 0=>.ret { val:=.p (.ref [c]) }
     | o=>.ret { val:=.pq true [VJ c] (.agg [c]) o }
    | .p (.ref cs)=>.ret { val:=.pq true (cs.map VJ) (.agg cs) fd.offset }
    | _=>.fail
   | _=>.fail
  | none=>.fail
 | _=>.fail
def ML (t:TypeId) (x:AV) (f:Nat):DT :=
 match und T t with
 | some (.struct fs) =>
  match fs[f]? with
  | some fd =>
   match vG T fd.type,x with
   | some n,.p (.agg cs)=>match xu T fd.type n (cs.map .p) fd.offset with
    | some v=>.ret { val:=v }
    | none=>.fail
   | some n,.agg cs=>match xu T fd.type n cs fd.offset with
    | some v=>.ret { val:=v }
    | none=>.fail
   | _,_=>.fail
  | none=>.fail
 | _=>.fail
def VO (f:Nat→AV) (i:Int):Nat→Nat→DT
 | 0,_=>.fail
 | m+1,j=>.ite (decide (i=(j:Int))) (.ret { val:=f j }) (VO f i m (j+1))
def Cm (t:TypeId) (x:AV) (i:AV):DT :=
 match i with
 | .p (.int _ i) =>
  match und T t with
  | some (.slice e) =>
   match vG T e with
   | none=>.fail
   | some n =>
   match x with
   | .slice s z off len=>chk (z==n)<|chk (decide (0≤i)&&decide (i<(len:Int)))<|.ret { val:=.ptr s (off+i.toNat) 0 }
   | .bslice s off len=>chk (n==1)<|chk (decide (0≤i)&&decide (i<(len:Int)))<|.ret { val:=.ptr s 0 (off+i.toNat) }
   | .p (.list a ks xs)=>chk (ks.length==n)<|chk (decide (0≤i)&&decide (i<(xs.length:Int)))<|.ret { val:=.pq a ks (xs.getD i.toNat .nil) 0 }
   | .p (.full a ks xs)=>chk (ks.length==n)<|chk (decide (0≤i)&&decide (i<(xs.length:Int)))<|.ret { val:=.pq a ks (xs.getD i.toNat .nil) 0 }
   | _=>.fail
  | some (.array n e) =>
   match x,vG T e with
   | .ptr s idx off,some m=>chk (decide (0≤i)&&decide (i<(n:Int)))<|bif Nat.ble n 8 then VO (fun j=>.ptr s idx (off+j*m)) i n 0 else .ret { val:=.ptr s idx (off+i.toNat*m) }
   | .pq a ks y off,some m=>chk (decide (0≤i)&&decide (i<(n:Int)))<|.ret { val:=.pq a ks y (off+i.toNat*m) }
   | _,_=>.fail
  | _=>.fail
 | _=>.fail
def MN (t:TypeId) (x:AV) (i:AV):DT :=
 match i with
 | .p (.int _ i) =>
  match und T t,x with
  | some .string,.p (.str s)=>chk (decide (0≤i)&&decide (i<(s.size:Int)))<|.ret { val:=.p (.int .u8 ((s.data.getD i.toNat 0).toNat:Int)) }
  | some (.array n e),.p (.agg cs) =>
   match (bY T e).2,vG T e with
   | [kd],some 1 =>
    chk (cs.all (kindOk kd)&&Nat.beq cs.length n&&!(aeg T e)) <|
     chk (decide (0≤i)&&decide (i<(n:Int)))<|.ret { val:=.p (eta kd (cs.getD i.toNat .nil)) }
   | _,some m =>
    chk (Nat.ble n 8&&((List.range n).all (fun j=>(xu T e m (cs.map .p) (j*m)).isSome))) <|
     chk (decide (0≤i)&&decide (i<(n:Int)))<|VO (fun j=>(xu T e m (cs.map .p) (j*m)).getD .undef) i n 0
   | _,_=>.fail
  | _,_=>.fail
 | _=>.fail
def CG (d:Option Nat) (t:TypeId) (len cap:AV):DT :=
 match d,und T t,len,cap with
 | some d,some (.slice e),.p (.int _ l),.p (.int _ c) =>
  match NP T e,vG T e,KD T e with
  | some z,some n,some Ea =>
   let sh:=bY T e
   chk (n==sh.2.length&&bZ sh.1 sh.2 z&&Nat.ble Ea 16384) <|
    chk (decide (0≤l)&&(decide (l≤c)&&decide (c≤2147483648))) <|
     .ret { val:=.slice d n 0 l.toNat,qI:=[(d,.arr sh.1 sh.2 (List.replicate l.toNat z))],new:=[d] }
  | _,_,_=>.fail
 | _,_,_,_=>.fail
def bound (dflt:Int):Option AV→Option Int
 | none=>some dflt
 | some (.p (.int _ n))=>some n
 | _=>none
def MO (t:TypeId) (x:AV) (lo hi mx:Option AV):DT :=
 match und T t with
 | some .string =>
  match x,mx with
  | .p (.str s),none =>
   match bound 0 lo,bound s.size hi with
   | some l,some u=>chk (decide (0≤l)&&(decide (l≤u)&&decide (u≤(s.size:Int))))<|.ret { val:=.p (.str (s.extract l.toNat u.toNat)) }
   | _,_=>.fail
  | _,_=>.fail
 | some (.slice e) =>
  match vG T e with
  | none=>.fail
  | some n =>
  match x with
  | .slice s z off len =>
   match bound 0 lo,bound len hi,bound len mx with
   | some l,some u,some m =>
    chk (z==n)<|chk (decide (0≤l)&&(decide (l≤u)&&(decide (u≤m)&&decide (m≤(len:Int)))))<|.ret { val:=.slice s z (off+l.toNat) (u-l).toNat }
   | _,_,_=>.fail
  | .bslice s off len =>
   match bound 0 lo,bound len hi,bound len mx with
   | some l,some u,some m =>
    chk (n==1)<|chk (decide (0≤l)&&(decide (l≤u)&&(decide (u≤m)&&decide (m≤(len:Int)))))<|.ret { val:=.bslice s (off+l.toNat) (u-l).toNat }
   | _,_,_=>.fail
  | .p (.list a ks xs) =>
   match bound 0 lo,bound xs.length hi,bound xs.length mx with
   | some l,some u,some m =>
    chk (ks.length==n)<|chk (decide (0≤l)&&(decide (l≤u)&&(decide (u≤m)&&decide (m≤(xs.length:Int))))) <|
     match mx with
     | none=>.ret { val:=.p (.list a ks ((xs.drop l.toNat).take (u-l).toNat)) }
     | some _=>.ite (decide (u=m)) (.ret { val:=.p (.full a ks ((xs.drop l.toNat).take (u-l).toNat)) })
      (.ret { val:=.p (.list a ks ((xs.drop l.toNat).take (u-l).toNat)) })
   | _,_,_=>.fail
  | .p .nil =>
   match bound 0 lo,bound 0 hi,bound 0 mx with
   | some l,some u,some m=>chk (decide (l=0)&&(decide (u=0)&&decide (m=0)))<|.ret { val:=.p .nil }
   | _,_,_=>.fail
  | _=>.fail
 | _=>.fail
def EG (h:Nat→Option cu) (n:Nat) (e:TypeId) (x:AV) (lo hi mx:Option AV):DT :=
 match x,mx,vG T e with
 | .ptr s 0 off,none,some 1 =>
  match h s with
  | some (.box cs) =>
   match bound 0 lo,bound n hi with
   | some l,some u =>
    chk (Nat.ble (off+n) cs.length)<|chk (decide (0≤l)&&(decide (l≤u)&&decide (u≤(n:Int))))<|.ret { val:=.bslice s (off+l.toNat) (u-l).toNat }
   | _,_=>.fail
  | _=>.fail
 | _,_,_=>.fail
def KH (x:AV):DT :=
 match x with
 | .ptr s i o=>.ret { val:=.ptr s i o }
 | .pq a ks y o=>.ret { val:=.pq a ks y o }
 | .p (.ref cs)=>.ret { val:=.p (.ref cs) }
 | .p (.fn f cs)=>.ret { val:=.p (.fn f cs) }
 | .fn f cs=>.ret { val:=.fn f cs }
 | _=>.fail
def Gi (x:AV) (i:Nat):DT :=
 match x with
 | .qY vs=>match vs[i]? with
  | some v=>.ret { val:=v }
  | none=>.fail
 | _=>.fail
def ahy:AV→Bool
 | .slice _ _ _ _=>true
 | .p (.list _ _ _)=>true
 | _=>false
def bytesOf (xs:List PV):ByteArray:=⟨(xs.map fun x=>UInt8.ofNat x.toInt.toNat).toArray⟩
def Gj (h:Nat→Option cu) (d:Option Nat) (src dst:TypeId) (x:AV):DT :=
 match x with
 | .p (.int _ n)=>match und T src,und T dst with
  | some _,some (.int j)=>.ret { val:=.p (.int j (j.wrap n)) }
  | _,_=>.fail
 | .p (.str s)=>match und T src,und T dst with
  | some _,some .string=>.ret { val:=.p (.str s) }
  | some .string,some (.slice e) =>
   match und T e,d with
   | some (.int .u8),some d=>.ret { val:=.slice d 1 0 s.size,qI:=[(d,.arr false [.int .u8] (s.data.toList.map fun b=>.int .u8 b.toNat))],new:=[d] }
   | _,_=>.fail
  | _,_=>.fail
 | x=>match und T src,und T dst with
  | some (.slice e),some .string=>match und T e,Uh h x with
   | some (.int .u8),some (s2,_,ys)=>chk (ED s2 false [.int .u8]&&ahy x)<|.ret { val:=.p (.str (bytesOf ys)) }
   | _,_=>.fail
  | _,_=>.fail
def EH (fn:Fn) (first:List AV) (caps:List AV):DT :=
 match fn,first with
 | .func f,[]=>match F9 caps with
  | some vs=>.ret { val:=.p (.fn f vs) }
  | none=>chk (AV.H9 caps)<|.ret { val:=.fn f caps }
 | _,_=>.fail
def VP (t:TypeId) (x:AV):DT :=
 match und T t,x with
 | some .string,.p (.str s)=>.ret { val:=.p (.int .i64 s.size) }
 | some (.slice _),.slice _ _ _ len=>.ret { val:=.p (.int .i64 len) }
 | some (.slice _),.bslice _ _ len=>.ret { val:=.p (.int .i64 len) }
 | some (.slice _),.p (.list _ _ xs)=>.ret { val:=.p (.int .i64 xs.length) }
 | some (.slice _),.p (.full _ _ xs)=>.ret { val:=.p (.int .i64 xs.length) }
 | some (.slice _),.p .nil=>.ret { val:=.p (.int .i64 0) }
 | some (.array n _),_=>.ret { val:=.p (.int .i64 n) }
 | _,_=>.fail
def XY (f:Int→Int→Int) (j:IntKind):Int→List AV→Option Int
 | x,[]=>some x
 | x,.p (.int i y)::r=>bif i==j then XY f j (f x y) r else none
 | _,_=>none
def EI (f:Int→Int→Int) (xs:List AV):DT :=
 match xs with
 | .p (.int j x)::r=>match XY f j x r with
  | some y=>.ret { val:=.p (.int j y) }
  | none=>.fail
 | _=>.fail
def EX (x y:Int):Int:=if y<x then y else x
def Di (x y:Int):Int:=if x<y then y else x
def OW (h:Nat→Option cu) (d:Nat) (sh:Bool × List Kd) (x:AV) (s2:Option (Bool × List Kd)) (m:Nat) (ys:List PV):DT :=
 chk (ED s2 sh.1 sh.2) <|
 match x with
 | .slice s _ off len =>
  match h s with
  | some (.arr a ks xs) =>
   chk (a==sh.1&&(Kd.BQ ks sh.2&&Nat.blt s 100000)) <|
   chk (decide (len+m≤2147483648)) <|
    .ret { val:=.slice s sh.2.length 0 (len+m),qI:=[(s,.arr sh.1 sh.2 ((xs.drop off).take len++ys))],cut:=[s] }
  | _=>.fail
 | .p .nil=>chk (decide (m≤2147483648))<|.ret { val:=.slice d sh.2.length 0 m,qI:=[(d,.arr sh.1 sh.2 ys)],new:=[d] }
 | .p (.full a ks xs) =>
  chk (a==sh.1&&Kd.BQ ks sh.2)<|chk (decide (0<m∨xs.length=0)&&decide (xs.length+m≤2147483648)) <|
   .ret { val:=.slice d sh.2.length 0 (xs.length+m),qI:=[(d,.arr sh.1 sh.2 (xs++ys))],new:=[d] }
 | _=>.fail
def Jr (h:Nat→Option cu) (d:Option Nat) (t t2:TypeId) (x y:AV):DT :=
 match d,und T t with
 | some d,some (.slice e) =>
  match NP T e,vG T e,KD T e with
  | some z,some n,some Ea =>
   chk (n==(bY T e).2.length&&(bZ (bY T e).1 (bY T e).2 z&&Nat.ble Ea 16384)) <|
   match und T t2 with
   | some (.int _)=>match y with
    | .p (.int _ m)=>chk (decide (0≤m)&&decide (m≤2147483648))<|OW h d (bY T e) x none m.toNat (List.replicate m.toNat z)
    | _=>.fail
   | some _=>match Uh h y with
    | some (s2,m,ys)=>OW h d (bY T e) x s2 m ys
    | none=>.fail
   | none=>.fail
  | _,_,_=>.fail
 | _,_=>.fail
def Qx (h:Nat→Option cu) (t:TypeId) (x y:AV):DT :=
 match und T t with
 | some (.slice e) =>
  match x,vG T e with
  | .slice s _ off len,some n=>match h s,Uh h y with
   | some (.arr a ks xs),some (s2,m,ys) =>
    chk (ED s2 a ks&&n==ks.length) <|
     .ret { val:=.p (.int .i64 (Nat.min m len:Nat)),qI:=[(s,.arr a ks (patch xs off (ys.take (Nat.min m len))))] }
   | _,_=>.fail
  | _,_=>.fail
 | _=>.fail
def MP (h:Nat→Option cu) (t:TypeId) (x:AV):DT :=
 match und T t,x with
 | some (.slice e),.slice s _ off len=>match h s,NP T e with
  | some (.arr a ks xs),some z =>
   chk (bZ a ks z)<|.ret { val:=.qY [],qI:=[(s,.arr a ks (patch xs off (List.replicate len z)))] }
  | _,_=>.fail
 | _,_=>.fail
def ah:Nat:=100000
def addN (ss:List Nat) (s:Nat):List Nat:=bif jC s ss then ss else ss++[s]
mutual
def AV.sites (acc:List Nat):AV→List Nat
 | .slice s _ _ _=>addN acc s
 | .bslice s _ _=>addN acc s
 | .ptr s _ _=>addN acc s
 | .fn _ cs=>AV.yh acc cs
 | .agg cs=>AV.yh acc cs
 | .qY cs=>AV.yh acc cs
 | _=>acc
def AV.yh (acc:List Nat):List AV→List Nat
 | []=>acc
 | v::r=>AV.yh (AV.sites acc v) r
end
def idxOf (s:Nat):List Nat→Nat→Option Nat
 | [],_=>none
 | x::r,i=>bif x==s then some i else idxOf s r (i+1)
def toArg (ss:List Nat):AV→Option AV
 | .p v=>some (.p v)
 | .slice s z off len=>(idxOf s ss 0).map fun i=>.slice (ah+i) z off len
 | .ptr s idx off=>(idxOf s ss 0).map fun i=>.ptr (ah+i) idx off
 | _=>none
def MQ (ss:List Nat):List AV→Option (List AV)
 | []=>some []
 | v::r=>match toArg ss v,MQ ss r with
  | some x,some xs=>some (x::xs)
  | _,_=>none
def gI:cu→Bool
 | .box cs=>(F9 cs).isSome
 | .arr _ _ _=>true
 | _=>false
def Ib (h:Nat→Option cu):List Nat→Option (List cu)
 | []=>some []
 | s::r=>match h s,Ib h r with
  | some b,some bs=>bif gI b then some (b::bs) else none
  | _,_=>none
def AV.aU:AV→List PV
 | .fresh _ _ xs=>xs
 | _=>[]
def AV.pv:AV→PV
 | .p v=>v
 | _=>.nil
def Qy {β:Type}:List β→Option (List β × β)
 | []=>none
 | [x]=>some ([],x)
 | x::y::r=>match Qy (y::r) with
  | some (l,z)=>some (x::l,z)
  | none=>none
def AV.qV:AV→Nat
 | .slice _ _ o _=>o
 | _=>0
def AV.sLen:AV→Nat
 | .slice _ _ _ l=>l
 | _=>0
def cu.xs:cu→List PV
 | .arr _ _ xs=>xs
 | _=>[]
def cu.cs:cu→List AV
 | .box cs=>cs
 | _=>[]
def cu.ls:cu→List PV
 | .log _ xs=>xs
 | _=>[]
def Qz (d:Nat) (i:Nat) (ss:List Nat) (m:lq) (t:TypeId) (r:AV):Option (AV × List (Nat × cu)) :=
 match m with
 | .deep=>match bY T t with
  | (true,ks)=>some (.p (.agg (jB ks r.pv 0)),[])
  | (false,[k])=>some (.p (eta k r.pv),[])
  | _=>none
 | .fresh=>match und T t with
  | some (.slice e)=>some (.slice (d+1000*i) (bY T e).2.length 0 r.aU.length,[(d+1000*i,.arr (bY T e).1 (bY T e).2 r.aU)])
  | _=>none
 | .alias j=>match ss[j]?,und T t with
  | some s,some (.slice e)=>some (.slice s (bY T e).2.length r.qV r.sLen,[])
  | _,_=>none
 | .func g qs=>some (.p (.fn g (zu qs r.pv 0)),[])
def rF (d:Nat) (ss:List Nat):Nat→List lq→List TypeId→List AV→Option (List AV × List (Nat × cu))
 | _,_,[],_=>some ([],[])
 | i,ms,t::ts,rs =>
  match Qz T d i ss (ms.headD .deep) t (rs.headD .undef),rF d ss (i+1) ms.tail ts rs.tail with
  | some (v,b),some (vs,bs)=>some (v::vs,b++bs)
  | _,_=>none
def mg:List AV→AV
 | [v]=>v
 | vs=>.qY vs
def tV (b0 b1:cu):cu :=
 match b0 with
 | .arr a ks _=>.arr a ks b1.xs
 | .box cs=>.box (uM cs b1.cs 0)
 | _=>b1
where
 uM:List AV→List AV→Nat→List AV
  | [],_,_=>[]
  | .p (.int k _)::r,cs,i=>.p (.int k (cs.getD i .undef).pv.toInt)::uM r cs (i+1)
  | .p (.bool _)::r,cs,i=>.p (.bool (cs.getD i .undef).pv.toBool)::uM r cs (i+1)
  | .p (.str _)::r,cs,i=>.p (.str (cs.getD i .undef).pv.toStr)::uM r cs (i+1)
  | .p (.list a ks _)::r,cs,i=>.p (.list a ks (cs.getD i .undef).pv.toList)::uM r cs (i+1)
  | _::r,cs,i=>cs.getD i .undef::uM r cs (i+1)
def ji:List Nat→List cu→List cu→List (Nat × cu)
 | s::ss,b0::bs,cs=>(s,tV b0 (cs.headD (.box [])))::ji ss bs cs.tail
 | _,_,_=>[]
def keysOf:List (Nat × cu)→List Nat
 | []=>[]
 | (k,_)::r=>k::keysOf r
def Ic (ss:List Nat):List Nat→Bool
 | []=>true
 | x::r=>!(jC x ss)&&Ic ss r
def Kd.flat:Kd→Bool
 | .int _=>true
 | .bool=>true
 | .str=>true
 | _=>false
def KI (m:lq) (t:TypeId):Bool :=
 match m with
 | .deep=>(bY T t).2.all Kd.flat
 | .fresh=>match und T t with
  | some (.slice e)=>(bY T e).2.all Kd.flat
  | _=>false
 | _=>false
def sU:List lq→List TypeId→Bool
 | _,[]=>true
 | ms,t::ts=>KI T (ms.headD .deep) t&&sU ms.tail ts
def ZE:Bool × List Kd→PV→PV
 | (false,[.slice a ks]),.nil=>.list a ks []
 | _,v=>v
def normArgs:List TypeId→List PV→List AV
 | t::ts,v::vs=>.p (ZE (bY T t) v)::normArgs ts vs
 | [],vs=>vs.map .p
 | _::_,[]=>[]
abbrev aS:=Nat→List AV→List cu→Option (List AV × List cu)
def QA (k:Prim) (d:Option Nat) (args:List AV):DT :=
 match d,k,args with
 | some _,.carry b,[.p (.int .u64 x),.p (.int .u64 y),.p (.int .u64 c)]=>chk (decide (0≤x)&&(decide (0≤y)&&(decide (0≤c)&&decide (c≤1)))) <|
  .ret { val:=.qY [.p (.int .u64 (lU b x.toNat y.toNat c.toNat)),.p (.int .u64 (ni b x.toNat y.toNat c.toNat))] }
 | _,_,_=>.fail
def uN (C:aS) (h:Nat→Option cu) (d:Option Nat) (f:Nat) (args:List AV):DT :=
 match d,dN T.funcs f with
 | some d,some fi =>
  match fi.cfg.vY with
  | false =>
   match Gg h args with
   | some (vs,ss) =>
    .call (C f (normArgs T fi.fn.params.toList vs) []) fun r =>
     match rF T d [] 0 fi.cfg.rets fi.fn.resultTypes.toList r.1 with
     | some (xs,bs)=>.ret { val:=mg xs,qI:=bs,new:=keysOf bs,Ed:=cond fi.cfg.shares ss [] }
     | none=>.fail
   | none=>.fail
  | true =>
   let ss:=AV.yh [] args
   match MQ ss args,Ib h ss with
   | some as_,some bl =>
    .call (C f as_ bl) fun r =>
     match rF T d ss 0 fi.cfg.rets fi.fn.resultTypes.toList r.1 with
     | some (xs,bs)=>chk (Ic ss (keysOf bs))<|.ret { val:=mg xs,qI:=ji ss bl r.2++bs,new:=keysOf bs }
     | none=>.fail
   | _,_=>.fail
 | _,_=>.fail
def fA (keep:Bool):Nat:=cond keep 100001 99999
def lu (keep:Bool):List cu→Heap
 | [b0,b1]=>[(ah,b0),(fA keep,b1)]
 | _=>[]
def Xj (bl:List cu):List PV:=(bl.getD 1 (.box [])).xs
def Va (bl:List cu):AV:=(bl.headD (.box [])).cs.headD .undef
def QB (C:aS) (h:Nat→Option cu) (d f:Nat) (fi:FI) (pre:List AV) (s A:Nat) (nw:List Nat) (a:Bool) (ks:List Kd) (off len:Nat) (xs:List PV):DT :=
 match Gg h pre with
 | some (vs,ss) =>
  bif (Nat.blt s 100000&&(Nat.blt A 100000&&!(A==s)))&&(!(jC s ss)&&!(jC A ss)) then
  .call (C f (normArgs T fi.fn.params.toList vs++[.ptr ah 0 0]) [.box [.slice (fA fi.cfg.vkeep) ks.length off len],.arr a ks xs]) fun r =>
   match rF T d [] 0 fi.cfg.rets fi.fn.resultTypes.toList r.1 with
   | some (rv,[])=>.ret { val:=mg rv,qI:=[(A,.arr a ks (Xj r.2)),(s,.box [.slice A ks.length (Va r.2).qV (Va r.2).sLen])],new:=nw,cut:=cond fi.cfg.vkeep [] [A],Ed:=ss }
   | _=>.fail
  else .fail
 | none=>.fail
def OX (C:aS) (h:Nat→Option cu) (d:Option Nat) (f:Nat) (args:List AV):DT :=
 match d,dN T.funcs f,Qy args with
 | some d,some fi,some (pre,.ptr s 0 0)=>match h s with
  | some (.box [.slice A _ off len])=>match h A with
   | some (.arr a ks xs)=>QB T C h d f fi pre s A [] a ks off len xs
   | _=>.fail
  | some (.box [.p .nil])=>bif fi.cfg.vkeep then .fail else QB T C h d f fi pre s d [d] (bY T fi.cfg.aef).1 (bY T fi.cfg.aef).2 0 0 []
  | _=>.fail
 | _,_,_=>.fail
def KJ (C:aS) (h:Nat→Option cu) (d:Option Nat) (f:Nat) (args:List AV):DT :=
 match d,dN T.funcs f,args with
 | some d,some fi,.slice A _ off len::rest=>match h A with
  | some (.arr a ks xs)=>match Gg h rest with
   | some (vs,[]) =>
    .call (C f (.slice 99999 ks.length off len::vs.map .p) [.log false [],.arr a ks xs]) fun r =>
     match rF T d [] 0 fi.cfg.rets fi.fn.resultTypes.toList r.1 with
     | some (rv,bs)=>.ret { val:=mg rv,qI:=bs,new:=A::keysOf bs }
     | none=>.fail
   | _=>.fail
  | _=>.fail
 | _,_,_=>.fail
def Ar (C:aS) (h:Nat→Option cu) (d:Option Nat) (f:Nat) (args:List AV):DT :=
 bif (jo T f).Jg.is then QA (jo T f).Jg d args else
 bif (jo T f).vcall then OX T C h d f args else
 bif (jo T f).take then KJ T C h d f args else uN T C h d f args
def mD (env:List AV):Option Operand→Option AV
 | none=>none
 | some x=>some (dJ env x)
def jR (env:List AV):List (Nat × Operand)→List (Nat × AV)
 | []=>[]
 | (i,x)::r=>(i,dJ env x)::jR env r
def fG (C:aS) (env:List AV) (h:Nat→Option cu) (o:Oper):DT :=
 match o.op with
 | .move x=>.ret { val:=dJ env x }
 | .assign x =>
  match o.dst,x,und T o.type with
  | some d,.const (.slice none 0 0),some (.slice e)=>.ret { val:=.slice d (bY T e).2.length 0 0,qI:=[(d,.arr (bY T e).1 (bY T e).2 [])],new:=[d] }
  | _,x,_=>.ret { val:=dJ env x }
 | .pick c a b=>Qw (dJ env c) (dJ env a) (dJ env b)
 | .alloc t=>MI T o.dst t
 | .box _ v=>VL o.dst (dJ env v)
 | .build t parts=>MJ T t (jR env parts.toList)
 | .buildSlice t len parts=>Aq T h o.dst t len (jR env parts.toList)
 | .load t a=>Gh T h t (dJ env a)
 | .store t a v=>MK T h t (dJ env a) (dJ env v)
 | .binOp op t x y _=>KG T op t (isLit y) (dJ env x) (dJ env y)
 | .unOp op _ x=>Qv op (dJ env x)
 | .convert s t x=>Gj T h o.dst s t (dJ env x)
 | .makeFunc fn first caps=>EH fn (l7 env first.toList) (l7 env caps.toList)
 | .makeSlice t l c=>CG T o.dst t (dJ env l) (dJ env c)
 | .slice t x lo hi mx=>match und T t with
  | some (.array n e)=>EG T h n e (dJ env x) (mD env lo) (mD env hi) (mD env mx)
  | _=>match mx,hi with
   | some _,none=>.fail
   | _,_=>MO T t (dJ env x) (mD env lo) (mD env hi) (mD env mx)
 | .fieldAddr t x f=>Cj T t (dJ env x) f
 | .field t x f=>ML T t (dJ env x) f
 | .indexAddr t x i=>Cm T t (dJ env x) (dJ env i)
 | .index t x i=>MN T t (dJ env x) (dJ env i)
 | .extract x i=>Gi (dJ env x) i
 | .nilCheck x=>KH (dJ env x)
 | .call c =>
  match c.callee with
  | .builtin .len=>match c.args.toList,c.argTypes.toList with
   | [x],t::_=>VP T t (dJ env x)
   | _,_=>.fail
  | .builtin .min=>EI EX (l7 env c.args.toList)
  | .builtin .max=>EI Di (l7 env c.args.toList)
  | .builtin .append=>match c.args.toList,c.argTypes.toList with
   | [x,y],[t,t2]=>Jr T h o.dst t t2 (dJ env x) (dJ env y)
   | _,_=>.fail
  | .builtin .copy=>match c.args.toList,c.argTypes.toList with
   | [x,y],t::_=>Qx T h t (dJ env x) (dJ env y)
   | _,_=>.fail
  | .builtin .clear=>match c.args.toList,c.argTypes.toList with
   | [x],t::_=>MP T h t (dJ env x)
   | _,_=>.fail
  | .value f=>match dJ env f with
   | .p (.fn f caps)=>Ar T C h o.dst f (l7 env c.args.toList++caps.map .p)
   | .fn f caps=>Ar T C h o.dst f (l7 env c.args.toList++caps)
   | _=>.fail
  | _=>.fail
 | _=>.fail
section
variable {α:Type}
def sV (m:Nat) (k:Nat→Option α):Option α :=
 match m with
 | 0=>k 0
 | m+1=>k (m+1)
def QC (n:Int) (k:Int→Option α):Option α :=
 match n with
 | .ofNat m=>sV m fun m=>k (.ofNat m)
 | .negSucc m=>sV m fun m=>k (.negSucc m)
mutual
def o8 (b:Bool):PV→(PV→Option α)→Option α
 | .bool c,k=>bif b then cond c (k (.bool true)) (k (.bool false)) else k (.bool c)
 | .int j n,k=>bif b then QC n fun n=>k (.int j n) else k (.int j n)
 | .str s,k=>k (.str s)
 | .agg cs,k=>pz b cs fun cs=>k (.agg cs)
 | .list a ks xs,k=>bif b then pz b xs fun xs=>k (.list a ks xs) else k (.list a ks xs)
 | .full a ks xs,k=>bif b then pz b xs fun xs=>k (.full a ks xs) else k (.full a ks xs)
 | .nil,k=>k .nil
 | .fn f cs,k=>bif b then pz b cs fun cs=>k (.fn f cs) else k (.fn f cs)
 | .ref cs,k=>pz b cs fun cs=>k (.ref cs)
 | .VG,k=>k .VG
 | .pX,k=>k .pX
def pz (b:Bool):List PV→(List PV→Option α)→Option α
 | [],k=>k []
 | v::r,k=>o8 b v fun v=>pz b r fun r=>k (v::r)
end
mutual
def qc (b:Bool):AV→(AV→Option α)→Option α
 | .undef,k=>k .undef
 | .p v,k=>bif b then o8 b v fun v=>k (.p v) else k (.p v)
 | .slice s z o l,k=>bif b then sV o fun o=>sV l fun l=>k (.slice s z o l) else k (.slice s z o l)
 | .bslice s o l,k=>bif b then sV o fun o=>sV l fun l=>k (.bslice s o l) else k (.bslice s o l)
 | .ptr s i o,k=>bif b then sV i fun i=>sV o fun o=>k (.ptr s i o) else k (.ptr s i o)
 | .pq a ks x o,k=>bif b then o8 b x fun x=>sV o fun o=>k (.pq a ks x o) else k (.pq a ks x o)
 | .fn f cs,k=>ou b cs fun cs=>k (.fn f cs)
 | .agg cs,k=>ou b cs fun cs=>k (.agg cs)
 | .qY cs,k=>ou b cs fun cs=>k (.qY cs)
 | .fresh a ks xs,k=>bif b then pz b xs fun xs=>k (.fresh a ks xs) else k (.fresh a ks xs)
 | .vN,k=>k .vN
def ou (b:Bool):List AV→(List AV→Option α)→Option α
 | [],k=>k []
 | v::r,k=>qc b v fun v=>ou b r fun r=>k (v::r)
end
def spine:List AV→(List AV→Option α)→Option α
 | [],k=>k []
 | v::r,k=>spine r fun r=>k (v::r)
def DU (b:Bool):cu→(cu→Option α)→Option α
 | .box cs,k=>ou b cs fun cs=>k (.box cs)
 | .arr a ks xs,k=>bif b then pz b xs fun xs=>k (.arr a ks xs) else k (.arr a ks xs)
 | .log on xs,k=>bif b then pz b xs fun xs=>k (.log on xs) else k (.log on xs)
def wP (b:Bool):List cu→(List cu→Option α)→Option α
 | [],k=>k []
 | x::r,k=>DU b x fun x=>wP b r fun r=>k (x::r)
def KL (b:Bool):List (Nat × cu)→(List (Nat × cu)→Option α)→Option α
 | [],k=>k []
 | (s,x)::r,k=>DU b x fun x=>KL b r fun r=>k ((s,x)::r)
def VQ:Heap→(Heap→Option α)→Option α
 | [],k=>k []
 | (s,x)::r,k=>VQ r fun r=>k ((s,x)::r)
def gZ (st:St) (k:St→Option α):Option α :=
 spine st.env fun env=>VQ st.heap fun heap=>k { env,heap }
def KO (b:Bool) (st:St) (d:Option Nat) (e:Eff) (k:St→Option α):Option α :=
 qc b e.val fun v=>KL b e.qI fun c=>gZ (st.apply d { e with val:=v,qI:=c }) k
end
inductive Cls where
 | const | plain | pure | read | own (t:Nat) | store | heavy
def yj:Operand→Bool
 | .const _=>true
 | .func _=>true
 | _=>false
def ahz (t:Nat):List Oper→Option Op
 | []=>none
 | o::r=>match o.dst with
  | some d=>bif d==t then some o.op else ahz t r
  | none=>ahz t r
def rootOf (all:List Oper):Nat→Nat→Option Nat
 | 0,_=>none
 | n+1,t=>match ahz t all with
  | none=>some t
  | some (.alloc _)=>some t
  | some (.fieldAddr _ (.tmp u) _)=>rootOf all n u
  | _=>none
def QD (t:Nat):List Oper→Bool
 | []=>false
 | o::r=>(match o.op,o.dst with
  | .slice _ _ _ _ (some _),some d=>bif d==t then true else QD t r
  | _,_=>QD t r)
def KQ (xs:List Operand) (all:List Oper):Bool :=
 match xs with
 | .tmp t::_=>QD t all
 | .const (.slice none 0 0)::_=>true
 | _=>false
def aeh:Option Nat→Option Nat
 | some d=>dN T.owns d
 | none=>none
def aei (t:Nat):Operand→Nat
 | .tmp v=>1000000+(1000*t+v)
 | _=>0
def DV (all:List Oper) (t:Nat) (v:Operand):Option Nat:=match dN T.owns (aei t v) with
 | some s=>some s
 | none=>rootOf all 4 t
def aa8:Operand→Option Nat→Cls
 | .tmp u,some d=>bif jC (1000*d+u) T.calcs then .plain else .pure
 | _,_=>.pure
def dH (all:List Oper) (o:Oper):Cls :=
 match o.op with
 | .assign (.const (.slice none 0 0))=>.read
 | .assign x=>bif yj x then .const else .pure
 | .move x=>bif yj x then .const else aa8 T x o.dst
 | .binOp ..=>.plain
 | .unOp ..=>.plain
 | .pick .. | .build .. | .makeFunc .. | .fieldAddr .. | .field .. | .indexAddr .. | .index .. | .extract .. | .nilCheck ..=>.pure
 | .slice t ..=>match und T t with
  | some (.array _ _)=>.read
  | _=>.pure
 | .alloc .. | .box .. | .buildSlice .. | .load .. | .makeSlice .. | .convert ..=>.read
 | .store _ (.tmp t) v=>match DV T all t v with
  | some s=>.own s
  | none=>.store
 | .call c=>match c.callee with
  | .builtin .len | .builtin .min | .builtin .max=>.pure
  | .builtin .append=>bif KQ c.args.toList all then .read else .heavy
  | .builtin .copy=>.store
  | .value (.tmp _)=>match aeh T o.dst with
   | some s=>.own s
   | none=>.read
  | .value (.func f)=>bif (jo T f).vY||((jo T f).take||((jo T f).shares&&!(jo T f).quiet)) then .heavy else .read
  | .value _=>.read
  | _=>.heavy
 | _=>.heavy
def iK (all:List Oper) (o:Oper):List Nat :=
 match o.dst with
 | some d=>match o.op with
  | .assign (.const (.slice none 0 0))=>[d]
  | .alloc .. | .box .. | .buildSlice .. | .makeSlice .. | .convert ..=>[d]
  | .call c=>match c.callee with
   | .value _=>[d,d+1000,d+2000,d+3000]
   | .builtin .append=>bif KQ c.args.toList all then [d] else []
   | _=>[]
  | _=>[]
 | none=>[]
def aej (all:List Oper) (o:Oper):List Nat :=
 match o.op with
 | .store _ (.tmp t) v=>match DV T all t v with
  | some s=>[s]
  | none=>[]
 | .call c=>match c.callee,aeh T o.dst with
  | .value (.tmp _),some s=>[s]
  | _,_=>[]
 | _=>[]
def vH (all:List Oper):List Oper→List Nat
 | []=>[]
 | o::r=>iK all o++vH all r
def VT (ss:List Nat):List Nat→Bool
 | []=>true
 | x::r=>!(jC x ss)&&VT ss r
def QE (ss:List Nat):List (Nat × cu)→Bool
 | []=>true
 | (k,_)::r=>jC k ss&&QE ss r
def afV (ss:List Nat):List Nat→Bool
 | []=>true
 | x::r=>jC x ss&&afV ss r
def tmpsOf:List Operand→List Nat
 | []=>[]
 | .tmp t::r=>t::tmpsOf r
 | _::r=>tmpsOf r
def vI (ops:List Oper) (o:Oper):List Nat :=
 tmpsOf o.op.operands.toList++(match o.guard with
  | some (g,_)=>match (ops[g]?).bind (·.dst) with
   | some d=>[d]
   | none=>[]
  | none=>[])
def ZF (ops:List Oper) (x y:Oper):Bool :=
 (match x.dst with
  | some d=>!(jC d (vI ops y))&&!(y.dst==some d)
  | none=>true) &&
 (match y.dst with
  | some d=>!(jC d (vI ops x))
  | none=>true)
def zM (all:List Oper) (hx ho:List Nat) (x o:Oper):Bool :=
 ZF all x o&&(VT (iK all x) (iK all o)&&(match dH T all x,dH T all o with
  | .const,_=>true
  | _,.const=>true
  | .plain,_=>true
  | _,.plain=>true
  | .pure,.heavy=>false
  | .heavy,.pure=>false
  | .pure,_=>true
  | _,.pure=>true
  | .read,.read=>true
  | .read,.own t=>jC t hx&&!(jC t (iK all x))
  | .own t,.read=>jC t ho&&!(jC t (iK all o))
  | _,_=>false))
def CJ:List Nat→List Nat→List Nat
 | acc,[]=>acc
 | acc,x::r=>CJ (bif jC x acc then acc else x::acc) r
def Ie (done:List (List Nat)) (o:Oper):List Nat :=
 (o.after.toList).foldl (fun acc e=>match e.ground with
   | .textOnly _=>acc
   | .gcOnly _=>acc
   | _=>CJ (CJ acc [e.on]) (done.getD e.on [])) []
def dU:List Oper→List (List Nat)→List (List Nat)
 | [],acc=>acc
 | o::r,acc=>dU r (acc++[Ie acc o])
def QF (all:List Oper) (hd:List (List Nat)) (XZ:List Nat) (j:Nat) (o:Oper):Nat→List Oper→Bool
 | _,[]=>true
 | i,x::r=>bif Nat.ble j i then true else
  (bif jC i XZ then true else zM T all (hd.getD i []) (hd.getD j []) x o)&&QF all hd XZ j o (i+1) r
def Ig (j:Nat) (o:Oper):Bool :=
 o.after.toList.all fun e=>match e.ground with
  | .textOnly _=>true
  | .gcOnly _=>true
  | _=>Nat.blt e.on j
def CO (all:List Oper) (tab hd:List (List Nat)):Nat→List Oper→Bool
 | _,[]=>true
 | j,o::r=>Ig j o&&QF T all hd (tab.getD j []) j o 0 all&&CO all tab hd (j+1) r
def zN (all:List Oper) (tab:List (List Nat)) (j:Nat):Nat→List Oper→List Nat
 | _,[]=>[]
 | i,o::r =>
  bif i==j||jC i (tab.getD j [])||jC j (tab.getD i []) then zN all tab j (i+1) r else iK all o++(aej T all o++zN all tab j (i+1) r)
section
variable {α:Type}
def lI (U:List Nat) (h:Nat→Option cu):Nat→Option cu :=
 match U with
 | []=>h
 | U=>fun s=>bif jC s U then none else h s
def uO (all:List Oper) (g:Nat):Option Nat:=(all[g]?).bind (·.dst)
def jq:List Nat→Bool
 | []=>true
 | s::r=>Nat.blt s 100000&&jq r
def BF (h:Heap):List (Nat × cu)→Bool
 | []=>true
 | (_,.log _ _)::_=>false
 | (s,_)::r=>bif s==ah then(match look h ah with
  | some (.log _ _)=>false
  | _=>BF h r) else BF h r
def AV.Tc:AV→Bool
 | .p _=>true
 | .qY []=>true
 | _=>false
def gJ (draw:Bool) (cls:Cls) (ss:List Nat) (h:Heap) (e:Eff):Bool :=
 match draw,cls with
 | false,_=>BF h e.qI
 | true,.heavy=>true
 | true,.store=>e.cut.isEmpty&&(e.Ed.isEmpty&&e.new.isEmpty)
 | true,.own t=>e.cut.isEmpty&&(e.Ed.isEmpty&&(QE [t] e.qI&&e.new.isEmpty))
 | true,.read=>e.cut.isEmpty&&(e.Ed.isEmpty&&(QE ss e.qI&&(afV ss e.new&&(present h e.new).isEmpty)))
 | true,.plain=>e.cut.isEmpty&&(e.Ed.isEmpty&&(e.qI.isEmpty&&(e.new.isEmpty&&e.val.Tc)))
 | true,_=>e.cut.isEmpty&&(e.Ed.isEmpty&&(e.qI.isEmpty&&e.new.isEmpty))
def yieldOf (st:St) (o:Oper):Option (List PV × List PV) :=
 match o.op with
 | .call c=>match c.callee with
  | .value (.tmp t)=>match st.env.getD t .undef with
   | .vN=>match look st.heap ah,Gg (look st.heap) (l7 st.env c.args.toList) with
    | some (.log true xs),some (vs,_)=>some (xs,vs)
    | _,_=>none
   | _=>none
  | _=>none
 | _=>none
def rG (draw:Bool) (st:St) (o:Oper):Option (List PV × List PV):=match draw with | true=>none | false=>yieldOf st o
def jM (s:Nat):Heap→List Nat
 | []=>[]
 | (k,_)::h=>bif k==s then jM s h else k::jM s h
def aa9 (h:Nat→Option cu):AV→Option PV
 | .ptr s 0 0=>match h s with
  | some (.box cs)=>match F9 cs with
   | some vs=>some (.ref vs)
   | none=>none
  | _=>none
 | _=>none
def VU (h:Nat→Option cu) (ss:List Nat) (v:AV):AV:=match aa9 h v with
 | some x=>.p x
 | none=>AV.kill ss v
def CP (h:Nat→Option cu) (ss:List Nat):List AV→List AV
 | []=>[]
 | v::r=>VU h ss v::CP h ss r
def kL (st:St) (d:Option Nat) (xs vs:List PV) (b:Bool):St :=
 let st1:St:={ env:=CP (lI [ah] (look st.heap)) (jM ah st.heap) st.env,heap:=(st.strike (jM ah st.heap)).heap }
 { env:=setEnv st1.env d (.p (.bool b)),heap:=put st1.heap ah (.log b (xs++[.agg vs])) }
def fork (no yes:Option α):Option α :=
 match no with
 | some _=>yes
 | none=>none
def fP (C:aS) (draw:Bool) (hd:List (List Nat)) (all:List Oper):List Oper→Nat→St→(St→Option α)→Option α
 | [],_,st,k=>k st
 | o::rest,j,st,k =>
  let go (st:St):Option α :=
   match rG draw st o with
   | some (xs,vs)=>fork (gZ (kL st o.dst xs vs false) fun st=>fP C draw hd all rest (j+1) st k) (gZ (kL st o.dst xs vs true) fun st=>fP C draw hd all rest (j+1) st k)
   | none=>(fG T C st.env (lI (hd.getD j []) (look st.heap)) o).run fun e =>
    bif jq (e.new++e.Ed)&&gJ draw (dH T all o) (iK all o) st.heap e then KO T.strict st o.dst e fun st=>fP C draw hd all rest (j+1) st k else none
  let skip (st:St):Option α:=gZ { st with env:=setEnv st.env o.dst (.qY []) } fun st=>fP C draw hd all rest (j+1) st k
  match o.guard with
  | none=>go st
  | some (g,want) =>
   match uO all g with
   | none=>none
   | some t =>
    match st.env.getD t .undef with
    | .p (.bool b) =>
     cond b (bif want then go { st with env:=st.env.set t (.p (.bool true)) } else skip { st with env:=st.env.set t (.p (.bool true)) })
      (bif want then skip { st with env:=st.env.set t (.p (.bool false)) } else go { st with env:=st.env.set t (.p (.bool false)) })
    | .qY []=>skip st
    | _=>none
def o9 (nv:Nat):List Oper→St→St
 | [],st=>st
 | o::r,st =>
  match o.op,o.dst with
  | .assign _,some d =>
   match st.env.getD d .undef with
   | .slice s _ _ _=>bif Nat.ble nv s&&(Nat.blt d nv&&Nat.blt s 100000) then o9 nv r (st.MG s d) else o9 nv r st
   | _=>o9 nv r st
  | _,_=>o9 nv r st
def VW:List Nat→Nat→List Nat
 | [],_=>[]
 | x::r,d=>bif Nat.ble 1000000 x&&Nat.beq ((x-1000000) / 1000) d then((x-1000000)%1000)::VW r d else VW r d
def aek (ts:List Nat) (d:Nat):List Nat:=bif jC d ts then [d] else VW ts d
def rH:List Nat→St→St
 | [],st=>st
 | x::r,st=>match deep (look st.heap) (st.env.getD x .undef) with
  | some (v,ss)=>bif jq ss then rH r { (st.strike ss) with env:=(st.strike ss).env.set x (.p v) } else rH r st
  | none=>rH r st
def freezes (ts:List Nat):List Oper→St→St
 | [],st=>st
 | o::r,st =>
  match o.op,o.dst with
  | .assign _,some d=>freezes ts r (rH (aek ts d) st)
  | _,_=>freezes ts r st
def settle (F:Fp) (ops:List Oper) (st:St):St:=freezes F.frzs ops (o9 F.nvars ops st)
def yt:Code→Option Nat
 | .region id _ _=>some id
 | .seq a b=>match yt a with
  | some i=>some i
  | none=>yt b
 | .block _ c=>yt c
 | .loop c=>yt c
 | .scope c=>yt c
 | .rangeFunc _ _ a b=>match yt a with
  | some i=>some i
  | none=>yt b
 | _=>none
def cutAt:List (Nat × List Nat × List Nat)→Nat→Option (List Nat × List Nat)
 | [],_=>none
 | (i,l,s)::r,j=>bif i==j then some (l,s) else cutAt r j
def bQ (F:Fp) (c:Code) (st:St):St :=
 match yt c with
 | none=>st
 | some i=>match cutAt F.cuts i with
  | none=>st
  | some (l,s)=>st.forget l s
def qg (fg:St→St) (body:St→(Ex→St→Option α)→Option α):Nat→St→(Ex→St→Option α)→Option α
 | 0,_,_=>none
 | m+1,st,k=>body st fun ex st' =>
  match ex with
  | .normal=>gZ (fg st') fun st'=>qg fg body m st' k
  | .exit id=>k (.exit id) st'
  | .ret=>k .ret st'
def sW (b:Option cu) (st:St) (k:St→Option α):Option α :=
 match look st.heap ah with
 | some (.log _ _)=>match b with
  | some (.log on xs)=>k { st with heap:=put st.heap ah (.log on xs) }
  | _=>none
 | _=>k st
def fH:Code→Bool
 | .seq a b=>fH a&&fH b
 | .cond _ a b=>fH a&&fH b
 | .block _ c=>fH c
 | .loop c=>fH c
 | .scope c=>fH c
 | .rangeFunc _ _ _ _=>false
 | _=>true
def iW:Code→List Nat
 | .region _ ops _=>ops.toList.filterMap (·.dst)
 | .seq a b=>iW a++iW b
 | .cond _ a b=>iW a++iW b
 | .block _ c=>iW c
 | .loop c=>iW c
 | .scope c=>iW c
 | .rangeFunc _ ps a b=>ps.toList++(iW a++iW b)
 | _=>[]
def opsOf:Code→List Oper
 | .region _ ops _=>ops.toList
 | .seq a b=>opsOf a++opsOf b
 | .cond _ a b=>opsOf a++opsOf b
 | .block _ c=>opsOf c
 | .loop c=>opsOf c
 | .scope c=>opsOf c
 | .rangeFunc _ _ a b=>opsOf a++opsOf b
 | _=>[]
def yOp (ys:List Nat) (o:Oper):Bool :=
 (match o.dst with
 | some t=>bif jC t ys then(match o.op with
  | .move (.tmp s)=>jC s ys
  | .assign (.tmp s)=>jC s ys
  | _=>false) else true
 | none=>true) &&
 (match o.op with
 | .call c=>match c.callee with
  | .value (.tmp t)=>jC t ys
  | _=>true
 | _=>true)
def afX (ys:List Nat):List Oper→Bool
 | []=>true
 | o::r=>yOp ys o&&afX ys r
def VX (n:Nat):List Nat→Bool
 | []=>true
 | t::r=>(Nat.beq t 0||Nat.blt n t)&&VX n r
def kD (fi:FI) (n:Nat):Bool:=match fi.fn.body with | some c=>fi.cfg.gext||(fH c&&(VX n fi.cfg.ys&&(afX fi.cfg.ys (opsOf c)&&(!fi.cfg.vcall&&!fi.cfg.take)))) | none=>false
def oz:Code→Bool
 | .skip=>true
 | .region _ _ _=>true
 | .seq a b=>oz a&&oz b
 | _=>false
def zx (ws:List Nat):Nat→List AV→List AV
 | _,[]=>[]
 | i,v::r=>(bif jC i ws then .undef else v)::zx ws (i+1) r
def ZG:Bool × List Kd→PV→PV
 | (true,ks),v=>.agg (jB ks v 0)
 | (false,[k]),v=>eta k v
 | _,v=>v
def E5:List (Bool × List Kd)→List Nat→PV→Nat→List AV→Option (List AV)
 | [],[],v,i,env=>bif Nat.beq v.cells.length i then some env else none
 | s::ss,t::ts,v,i,env=>bif bZ s.1 s.2 (v.cell i) then E5 ss ts v (i+1) (env.set t (.p (ZG s (v.cell i)))) else none
 | _,_,_,_,_=>none
def back (ws:List Nat) (st:St):St:={ st with env:=zx ws 0 st.env }
def sZ (fg:St→St) (ws:List Nat) (L:St→Option α) (k:Ex→St→Option α):Ex→St→Option α
 | .normal,st=>gZ (fg (back ws st)) L
 | .exit id,st=>gZ (back ws st) (k (.exit id))
 | .ret,st=>gZ (back ws st) (k .ret)
def lC (fg:St→St) (ss:List (Bool × List Kd)) (ps ws:List Nat) (round:St→(Ex→St→Option α)→Option α):List PV→St→(Ex→St→Option α)→Option α
 | [],st,k=>k .normal st
 | v::xs,st,k =>
  match E5 ss ps v 0 st.env with
  | none=>none
  | some env=>gZ { st with env:=env } fun st=>round st (sZ fg ws (fun st=>lC fg ss ps ws round xs st k) k)
def pV (l:List cu):List PV:=(l.headD (.box [])).ls
def KR (l:List Nat):Nat→Bool
 | 0=>true
 | n+1=>jC n l&&KR l n
def pI (tab:List (List Nat)) (j:Nat):Nat→List Oper→Bool
 | _,[]=>true
 | i,_::r=>(Nat.blt i j||KR (tab.getD i []) i)&&pI tab j (i+1) r
def VY (ys:List Nat):Nat→List Oper→Option Nat
 | _,[]=>none
 | i,o::r=>match o.op with
  | .call c=>match c.callee with
   | .value (.tmp t)=>bif jC t ys then some i else VY ys (i+1) r
   | _=>VY ys (i+1) r
  | _=>VY ys (i+1) r
def ZH (ys:List Nat) (ops:List Oper):Option Nat:=match ys with
 | []=>none
 | _=>match VY ys 0 ops with
  | some j=>bif pI (dU ops []) j 0 ops then some j else none
  | none=>none
def bW (C:aS) (F:FI) (n:Nat):Code→St→(Ex→St→Option α)→Option α
 | .skip,st,k=>k .normal st
 | .region id ops draw,st,k =>
  match draw with
  | false=>fP T C false [] ops.toList ops.toList 0 st fun st'=>gZ (settle F.cfg ops.toList st') fun st'=>k .normal st'
  | true =>
   match dN F.hides id with
   | some hd=>gZ (st.strike (present st.heap (vH ops.toList ops.toList))) fun st =>
    match ZH F.cfg.ys ops.toList with
    | none=>fP T C true hd ops.toList ops.toList 0 st fun st'=>sW (look st.heap ah) st' fun st'=>gZ (settle F.cfg ops.toList st') fun st'=>k .normal st'
    | some j=>fP T C true hd ops.toList (ops.toList.take j) 0 st fun st'=>sW (look st.heap ah) st' fun st'=>fP T C false [] ops.toList (ops.toList.drop j) j st' fun st'=>gZ (settle F.cfg ops.toList st') fun st'=>k .normal st'
   | none=>none
 | .seq a b,st,k=>bW C F n a st fun ex st' =>
  match ex with
  | .normal=>bW C F n b (bQ F.cfg b st') k
  | .exit id=>k (.exit id) st'
  | .ret=>k .ret st'
 | .cond c x y,st,k =>
  match dJ st.env c with
  | .p (.bool b)=>cond b (bW C F n x st k) (bW C F n y st k)
  | _=>none
 | .block id c,st,k=>bW C F n c st fun ex st' =>
  match ex with
  | .normal=>k .normal st'
  | .exit i=>bif i==id then k .normal st' else k (.exit i) st'
  | .ret=>k .ret st'
 | .scope c,st,k=>bW C F n c st k
 | .loop c,st,k=>qg (bQ F.cfg c) (fun st' k'=>bW C F n c st' k') n (bQ F.cfg c st) k
 | .exit id,st,k=>k (.exit id) st
 | .ret,st,k=>k .ret st
 | .label _,st,k=>k .normal st
 | .rangeFunc f ps a b,st,k =>
  match dJ st.env f with
  | .p (.fn g caps) =>
   match dN T.funcs g,oz a with
   | some fi,true =>
    bif kD fi caps.length then
    match C g (.vN::caps.map .p) [.log true []] with
    | some r => lC (bQ F.cfg (.seq a b)) fi.cfg.yk ps.toList (ps.toList ++ (iW a ++ iW b))
        (fun st k=>bW C F n a st fun ex st' =>
          match ex with
          | .normal=>bW C F n b (bQ F.cfg b st') k
          | .exit id=>k (.exit id) st'
          | .ret=>k .ret st') (pV r.2) (bQ F.cfg (.seq a b) st) k
    | none=>none
    else none
   | _,_=>none
  | _=>none
 | _,_,_=>none
end
def QG (h:Nat→Option cu) (m:lq) (t:TypeId) (v:AV):Option (AV × List Nat) :=
 match m with
 | .deep=>match deep h v with
  | some (x,ss)=>bif bZ (bY T t).1 (bY T t).2 x&&ss.all (fun s=>Nat.blt s 100000) then some (.p x,ss) else none
  | none=>none
 | .fresh=>match und T t with
  | some (.slice e) =>
   match v with
   | .slice s _ off len=>match h s with
    | some (.arr a ks xs) =>
     bif a==(bY T e).1&&Kd.BQ ks (bY T e).2&&Nat.blt s 100000 then some (.fresh a ks ((xs.drop off).take len),[s]) else none
    | _=>none
   | .p .nil=>some (.fresh (bY T e).1 (bY T e).2 [],[])
   | _=>none
  | _=>none
 | .alias j=>match v,und T t with
  | .slice s z off len,some (.slice e)=>bif s==ah+j&&z==(bY T e).2.length then some (.slice s z off len,[]) else none
  | _,_=>none
 | .func g qs=>match deep h v with
  | some (.fn f cs,ss)=>bif (f==g&&F7 qs cs)&&ss.all (fun s=>Nat.blt s 100000) then some (.p (.fn f cs),ss) else none
  | _=>none
def zy (h:Heap):List lq→List TypeId→List AV→Option (List AV)
 | _,[],[]=>some []
 | ms,t::ts,v::vs =>
  match QG T (look h) (ms.headD .deep) t v with
  | some (x,ss)=>match zy (pY h ss) ms.tail ts vs with
   | some xs=>some (x::xs)
   | none=>none
  | none=>none
 | _,_,_=>none
def X0:AV→AV→Bool
 | .p (.int k _),.p (.int j _)=>k==j
 | .p (.int _ _),_=>false
 | .p (.bool _),.p (.bool _)=>true
 | .p (.bool _),_=>false
 | .p (.str _),.p (.str _)=>true
 | .p (.str _),_=>false
 | .p (.list a ks _),.p (.list b ls _)=>a==b&&Kd.BQ ks ls
 | .p (.list _ _ _),_=>false
 | _,_=>true
def uP:List AV→List AV→Bool
 | [],[]=>true
 | x::xs,y::ys=>X0 x y&&uP xs ys
 | _,_=>false
def backOk:cu→cu→Bool
 | .arr a ks _,.arr b ls _=>a==b&&Kd.BQ ks ls
 | .box cs,.box ds=>uP cs ds
 | .log _ _,.log _ _=>true
 | _,_=>false
def Ih:cu→Bool
 | .log _ _=>true
 | b=>gI b
def DW (h:Heap):Nat→List cu→Option (List cu)
 | _,[]=>some []
 | i,b0::r=>match look h (ah+i),DW h (i+1) r with
  | some b,some bs=>bif Ih b&&backOk b0 b then some (b::bs) else none
  | _,_=>none
def abb (env:List AV) (h:Nat→Option cu):ResultVar→Option AV
 | .tmp t=>some (env.getD t .undef)
 | .cell t ty=>match env.getD t .undef,vG T ty with
  | .ptr s 0 0,some n=>match h s with
   | some (.box cs)=>xu T ty n cs 0
   | _=>none
  | _,_=>none
def Gl (env:List AV) (h:Nat→Option cu):List ResultVar→Option (List AV)
 | []=>some []
 | r::rs=>match abb T env h r,Gl env h rs with
  | some v,some vs=>some (v::vs)
  | _,_=>none
def X3 (F:Fp) (fn:Func) (bl:List cu) (st:St):Option (List AV × List cu) :=
 match Gl T st.env (look st.heap) fn.results.toList with
 | none=>none
 | some vs =>
  match zy T st.heap F.rets fn.resultTypes.toList vs,DW st.heap 0 bl with
  | some rs,some bl=>ou T.strict rs fun rs=>wP T.strict bl fun bl=>some (rs,bl)
  | _,_=>none
def gV:Nat→List cu→Heap
 | _,[]=>[]
 | i,b::r=>(ah+i,b)::gV (i+1) r
def zA (fn:Func) (args:List AV) (bl:List cu):St :=
 { env:=args++List.replicate (fn.ntmps-args.length) .undef,heap:=gV 0 bl }
def yY (F:Fp) (bl:List cu):Bool:=match F.gext with
 | true=>false
 | false=>match F.vcall with
  | true=>match bl with
   | [.box [.slice _ _ _ _],.arr _ _ _]=>true
   | _=>false
  | false=>match F.take with
   | true=>match bl with
    | [.log false [],.arr _ _ _]=>true
    | _=>false
   | false=>true
def X4:List cu→Heap
 | [_,b]=>[(99999,b)]
 | _=>[]
def MR (F:Fp) (fn:Func) (args:List AV) (bl:List cu):St:=match F.vcall with
 | true=>{ env:=args++List.replicate (fn.ntmps-args.length) .undef,heap:=lu F.vkeep bl }
 | false=>match F.take with
  | true=>{ env:=args++List.replicate (fn.ntmps-args.length) .undef,heap:=X4 bl }
  | false=>zA fn args bl
def DX:List lq→Bool
 | []=>true
 | .deep::r=>DX r
 | _=>false
def ahA (F:Fp) (fn:Func) (bl:List cu) (st:St):Option (List AV × List cu) :=
 match Gl T st.env (look st.heap) fn.results.toList,bl with
 | some vs,[_,.arr a0 ks0 _]=>match look st.heap ah with
  | some (.box [.slice X _ off len])=>match look st.heap X with
   | some (.arr a ks xs) =>
    bif (a==a0&&Kd.BQ ks ks0)&&(DX F.rets&&(cond F.vkeep (X==100001) (Nat.blt X 100000))) then
    match zy T (pY st.heap [ah,X]) F.rets fn.resultTypes.toList vs with
    | some rs=>ou T.strict rs fun rs=>wP T.strict [.box [.slice (fA F.vkeep) ks0.length off len],.arr a0 ks0 xs] fun bl=>some (rs,bl)
    | none=>none
    else none
   | _=>none
  | _=>none
 | _,_=>none
def ahB (F:Fp) (fn:Func) (st:St):Option (List AV × List cu) :=
 match Gl T st.env (look st.heap) fn.results.toList with
 | none=>none
 | some vs =>
  match zy T st.heap F.rets fn.resultTypes.toList vs with
  | some rs=>ou T.strict rs fun rs=>some (rs,[])
  | none=>none
def ZI (F:Fp) (fn:Func) (bl:List cu) (st:St):Option (List AV × List cu):=match F.vcall with
 | true=>ahA T F fn bl st
 | false=>match F.take with
  | true=>ahB T F fn st
  | false=>X3 T F fn bl st
abbrev Ext:=Nat→Option (List AV→List cu→Option (List AV × List cu))
def lJ (X:Ext):Nat→aS
 | 0,_,_,_=>none
 | n+1,f,args,bl =>
  match dN T.funcs f with
  | none=>none
  | some fi =>
   match X f with
   | some s=>s args bl
   | none =>
   match fi.fn.body with
   | none=>none
   | some c=>bif yY fi.cfg bl then
    ou T.strict args fun args=>wP T.strict bl fun bl=>gZ (MR fi.cfg fi.fn args bl) fun st =>
    bW T (lJ X n) fi n c st fun ex st =>
     match ex with
     | .exit _=>none
     | _=>ZI T fi.cfg fi.fn bl st
    else none
def EJ (ops:List Oper):List (List Nat) :=
 let tab:=dU ops []
 (List.range ops.length).map fun j=>zN T ops tab j 0 ops
def qJ:List (List Nat)→List (List Nat)→Bool
 | [],[]=>true
 | x::xs,y::ys=>x==y&&qJ xs ys
 | _,_=>false
def eU (hides:List (Nat × List (List Nat))):Code→Bool
 | .region id ops true=>match dN hides id with
  | none=>true
  | some hd=>CO T ops.toList (dU ops.toList []) hd 0 ops.toList&&qJ hd (EJ T ops.toList)
 | .seq a b=>eU hides a&&eU hides b
 | .cond _ a b=>eU hides a&&eU hides b
 | .block _ c=>eU hides c
 | .loop c=>eU hides c
 | .scope c=>eU hides c
 | .rangeFunc _ _ a b=>eU hides a&&eU hides b
 | _=>true
end
end Go.Skm
namespace Go.Skm
def PV.leaf:PV→Bool
 | .agg _=>false
 | _=>true
def AV.leaf:AV→Bool
 | .p v=>v.leaf
 | .agg _=>false
 | .qY _=>false
 | .fresh _ _ _=>false
 | _=>true
def Open (C:Array Value) (fr:Nat × Nat):Prop:=fr.1=fr.2∨C.size≤fr.1
def Room (w:World) (b n:Nat):Prop:=∃ C e fr,w.heap[b]?=some (.cells C e fr)∧n / 2≤C.size∧(n%2=0→Open C fr)
inductive VR (w:World) (M:Nat→Prop):PV→Value→Prop
 | bool (b:Bool):VR w M (.bool b) (.bool b)
 | int (k:IntKind) (n:Int):VR w M (.int k n) (.int k n)
 | str (s:ByteArray):VR w M (.str s) (.string s)
 | agg (cs : List PV) (vs : Array Value) (hn : vs.size = cs.length) (hl : ∀ c ∈ cs,c.leaf = true)
     (h:∀ (i:Nat) (c:PV),cs[i]?=some c→VR w M c (vs.getD i undef)):VR w M (.agg cs) (.agg vs)
 | list (a : Bool) (ks : List Kd) (xs : List PV) (b o cap : Nat) (f : Nat → Nat → Value) (hM : M b) (hcap : xs.length ≤ cap)
     (hc:∀ (i:Nat) (x:PV) (j:Nat) (c:PV),xs[i]?=some x→x.cells[j]?=some c→w.cell? ⟨b,o+i*ks.length+j,none⟩=some (f i j))
     (hv:∀ (i:Nat) (x:PV) (j:Nat) (c:PV),xs[i]?=some x→x.cells[j]?=some c→VR w M c (f i j))
     (hs:∀ x∈xs,bZ a ks x=true):VR w M (.list a ks xs) (.slice (some ⟨b,o,none⟩) xs.length cap)
 | vZ (a:Bool) (ks:List Kd) (base:Option Addr) (cap:Nat):VR w M (.list a ks []) (.slice base 0 cap)
 | full (a : Bool) (ks : List Kd) (xs : List PV) (b o : Nat) (f : Nat → Nat → Value) (hM : M b)
     (hc:∀ (i:Nat) (x:PV) (j:Nat) (c:PV),xs[i]?=some x→x.cells[j]?=some c→w.cell? ⟨b,o+i*ks.length+j,none⟩=some (f i j))
     (hv:∀ (i:Nat) (x:PV) (j:Nat) (c:PV),xs[i]?=some x→x.cells[j]?=some c→VR w M c (f i j))
     (hs:∀ x∈xs,bZ a ks x=true):VR w M (.full a ks xs) (.slice (some ⟨b,o,none⟩) xs.length xs.length)
 | NR (a:Bool) (ks:List Kd) (base:Option Addr):VR w M (.full a ks []) (.slice base 0 0)
 | nil:VR w M .nil (.slice none 0 0)
 | fn (f : Nat) (cs : List PV) (vs : Array Value) (hn : vs.size = cs.length)
     (h:∀ (i:Nat) (c:PV),cs[i]?=some c→VR w M c (vs.getD i undef)):VR w M (.fn f cs) (.func (.func f) #[] vs)
 | ref (cs : List PV) (b o : Nat) (f : Nat → Value) (hM : M b) (hl : ∀ c ∈ cs,c.leaf = true)
     (hc:∀ (j:Nat) (c:PV),cs[j]?=some c→w.cell? ⟨b,o+j,none⟩=some (f j))
     (hv:∀ (j:Nat) (c:PV),cs[j]?=some c→VR w M c (f j)) (ho:Room w b (2*(o+cs.length))):VR w M (.ref cs) (.pointer (some ⟨b,o,none⟩))
 | VG:VR w M .VG (.pointer none)
 | pX:VR w M .pX .nilFunc
theorem cell_of_heap {w w':World} {b i:Nat} (h:w'.heap[b]?=w.heap[b]?):w'.cell? ⟨b,i,none⟩=w.cell? ⟨b,i,none⟩:=by simp[World.cell?,h]
theorem VR.mono {w w':World} {M M':Nat→Prop} (hM:∀ b,M b→M' b∧w'.heap[b]?=w.heap[b]?) {v:PV} {c:Value} (h:VR w M v c):VR w' M' v c:=by
 induction h with
 | bool b=>exact .bool b
 | int k n=>exact .int k n
 | str s=>exact .str s
 | agg cs vs hn hl _ ih=>exact .agg cs vs hn hl ih
 | list a ks xs b o cap f hb hcap hc _ hs ih =>exact .list a ks xs b o cap f (hM b hb).1 hcap (fun i x j c h1 h2=>by rw[cell_of_heap (hM b hb).2];exact hc i x j c h1 h2) ih hs
 | vZ a ks base cap=>exact .vZ a ks base cap
 | full a ks xs b o f hb hc _ hs ih =>exact .full a ks xs b o f (hM b hb).1 (fun i x j c h1 h2=>by rw[cell_of_heap (hM b hb).2];exact hc i x j c h1 h2) ih hs
 | NR a ks base=>exact .NR a ks base
 | nil=>exact .nil
 | fn f cs vs hn _ ih=>exact .fn f cs vs hn ih
 | ref cs b o f hb hl hc _ ho ih =>exact .ref cs b o f (hM b hb).1 hl (fun j c h1=>by rw[cell_of_heap (hM b hb).2];exact hc j c h1) ih (by obtain⟨C,e,fr,h1,h2,h3⟩:=ho;exact⟨C,e,fr,(hM b hb).2.trans h1,h2,h3⟩)
 | VG=>exact .VG
 | pX=>exact .pX
theorem VR.one {w:World} {M:Nat→Prop} {v:PV} {c:Value} (h:VR w M v c) (hl:v.leaf=true):c.oneCell'=true:=by cases h<;>first | rfl | simp[PV.leaf]at hl
theorem VR.Js {w:World} {M:Nat→Prop} {v:PV} {c:Value} (h:VR w M v c) (hl:v.leaf=true):c.cells=#[c]:=by cases h<;>first | rfl | simp[PV.leaf]at hl
mutual
theorem Kd.beq_eq:∀ (x y:Kd),Kd.beq x y=true→x=y
 | .int j,.int k,h=>by simp[Kd.beq]at h;rw[h]
 | .bool,.bool,_=>rfl
 | .str,.str,_=>rfl
 | .slice a ks,.slice b ls,h=>by simp[Kd.beq]at h;rw[h.1,Kd.rJ ks ls h.2]
 | .other,.other,_=>rfl
 | .int _,.bool,h | .int _,.str,h | .int _,.slice _ _,h | .int _,.other,h
 | .bool,.int _,h | .bool,.str,h | .bool,.slice _ _,h | .bool,.other,h
 | .str,.int _,h | .str,.bool,h | .str,.slice _ _,h | .str,.other,h
 | .slice _ _,.int _,h | .slice _ _,.bool,h | .slice _ _,.str,h | .slice _ _,.other,h
 | .other,.int _,h | .other,.bool,h | .other,.str,h | .other,.slice _ _,h=>by simp[Kd.beq]at h
theorem Kd.rJ:∀ (x y:List Kd),Kd.BQ x y=true→x=y
 | [],[],_=>rfl
 | k::ks,l::ls,h=>by simp[Kd.BQ]at h;rw[Kd.beq_eq k l h.1,Kd.rJ ks ls h.2]
 | [],_::_,h | _::_,[],h=>by simp[Kd.BQ]at h
end
mutual
theorem Kd.beq_refl:∀ (x:Kd),Kd.beq x x=true
 | .int j=>by simp[Kd.beq]
 | .bool=>rfl
 | .str=>rfl
 | .slice a ks=>by simp[Kd.beq,Kd.pG ks]
 | .other=>rfl
theorem Kd.pG:∀ (x:List Kd),Kd.BQ x x=true
 | []=>rfl
 | k::ks=>by simp[Kd.BQ,Kd.beq_refl k,Kd.pG ks]
end
theorem jH {k:Kd} {v:PV} (h:kindOk k v=true):v.leaf=true:=by cases v<;>first | rfl | (cases k<;>simp[kindOk]at h)
theorem EK {w:World} {M:Nat→Prop} {k:Kd} {v:PV} {c:Value} (hk:kindOk k v=true) (h:VR w M v c):VR w M (eta k v) c:=by
 cases k with
 | int j=>cases v<;>simp[kindOk]at hk;subst hk;exact h
 | bool=>cases v<;>simp[kindOk]at hk;exact h
 | str=>cases v<;>simp[kindOk]at hk;exact h
 | slice a ks =>
  cases v<;>simp[kindOk]at hk
  · obtain⟨rfl,h2⟩:=hk;rw[← Kd.rJ _ _ h2]at h;exact h
  · cases h;exact .vZ a ks none 0
 | other=>exact h
theorem QH {k:Kd} {v:PV} (hk:kindOk k v=true):(eta k v).leaf=true:=by cases k<;>first | rfl | exact jH hk
theorem ael {k:Kd} {v:PV} (hk:kindOk k v=true):kindOk k (eta k v)=true:=by
 cases k with
 | slice a ks=>simp[eta,kindOk,Kd.pG]
 | other=>exact hk
 | _=>simp[eta,kindOk]
theorem lK:∀ {ks:List Kd} {vs:List PV},gQ ks vs=true→ks.length=vs.length∧∀ (j:Nat) (k:Kd) (v:PV),ks[j]?=some k→vs[j]?=some v→kindOk k v=true
 | [],[],_=>⟨rfl,fun j k v h=>by simp at h⟩
 | k::ks,v::vs,h=>by
  simp[gQ]at h;obtain⟨h1,h2⟩:=lK h.2;refine⟨by simp[h1],fun j k' v' hk hv=>?_⟩;cases j with
  | zero=>simp at hk hv;subst hk;subst hv;exact h.1
  | succ j=>simp at hk hv;exact h2 j k' v' hk hv
 | [],_::_,h | _::_,[],h=>by simp[gQ]at h
theorem tq {a:Bool} {ks:List Kd} {x:PV} (h:bZ a ks x=true):gQ ks x.cells=true:=by
 cases a with
 | true=>cases x<;>simp[bZ]at h;exact h
 | false =>
  match ks with
  | []=>simp[bZ]at h
  | [k] =>simp[bZ]at h;have hl:=jH h;cases x<;>first | (simp[PV.leaf]at hl;done) | simpa [PV.cells,gQ] using h
  | _::_::_=>simp[bZ]at h
theorem eP {a:Bool} {ks:List Kd} {x:PV} (h:bZ a ks x=true):x.cells.length=ks.length:=(lK (tq h)).1.symm
theorem rM {a:Bool} {ks:List Kd} {x:PV} (h:bZ a ks x=true) {j:Nat} {k:Kd} (hk:ks[j]?=some k):∃ c,x.cells[j]?=some c∧kindOk k c=true∧x.cell j=c:=by
 obtain⟨h1,h2⟩:=lK (tq h);have hj:j<ks.length:=by have:=qLa.1 hk;exact this.1
 have hj':j<x.cells.length:=by omega
 refine⟨x.cells[j],by simp,h2 j k _ hk (by simp),?_⟩;cases x with
 | agg cs=>simp[PV.cells]at hj' ⊢;simp[PV.cell,List.getD,hj']
 | _=>simp[PV.cells]at hj' ⊢;simp[PV.cell]
theorem Open.at {C:Array Value} {fr:Nat × Nat} (h:Open C fr):∀ i,i<C.size→¬ (fr.1≤i∧i<fr.2):=by intro i hi hh;rcases h with h | h<;>omega
theorem Open.size {C C':Array Value} {fr:Nat × Nat} (h:Open C fr) (hs:C'.size=C.size):Open C' fr:=by
 rcases h with h | h
 · exact .inl h
 · exact .inr (by omega)
theorem Room.mk {w:World} {b n:Nat} {C:Array Value} {e:TypeId} {fr:Nat × Nat} (h:w.heap[b]?=some (.cells C e fr)) (hn:n≤C.size) (ho:Open C fr):Room w b (2*n):=⟨C,e,fr,h,by omega,fun _=>ho⟩
theorem Room.get {w:World} {b n:Nat} (h:Room w b (2*n)):∃ C e fr,w.heap[b]?=some (.cells C e fr)∧n≤C.size∧Open C fr:=by obtain⟨C,e,fr,h1,h2,h3⟩:=h;exact⟨C,e,fr,h1,by omega,h3 (by omega)⟩
section
variable (w:World) (M:Nat→Prop) (β:Nat→Option (Nat × Nat)) (h:Nat→Option cu)
inductive AR:AV→Value→Prop
 | undef (c:Value):AR .undef c
 | p (v:PV) (c:Value) (hv:VR w M v c):AR (.p v) c
 | slice (s off len : Nat) (a : Bool) (ks : List Kd) (xs : List PV) (b o cap : Nat) (hs : h s = some (.arr a ks xs)) (hl : off + len ≤ xs.length) (hb : β s = some (b,o))
     (hcap:len≤cap) (hr:Room w b (2*(o+(off+cap)*ks.length))):AR (.slice s ks.length off len) (.slice (some ⟨b,o+off*ks.length,none⟩) len cap)
 | sliceE (s off:Nat) (a:Bool) (ks:List Kd) (xs:List PV) (base:Option Addr) (hs:h s=some (.arr a ks xs)) (hl:off≤xs.length):AR (.slice s ks.length off 0) (.slice base 0 0)
 | bslice (s off len : Nat) (cs : List AV) (b o cap : Nat) (hs : h s = some (.box cs)) (hl : off + cap ≤ cs.length) (hb : β s = some (b,o))
     (hcap:len≤cap):AR (.bslice s off len) (.slice (some ⟨b,o+off,none⟩) len cap)
 | bsliceE (s off:Nat) (cs:List AV) (base:Option Addr) (hs:h s=some (.box cs)) (hl:off≤cs.length):AR (.bslice s off 0) (.slice base 0 0)
 | ptrB (s off:Nat) (cs:List AV) (b o:Nat) (hs:h s=some (.box cs)) (hb:β s=some (b,o)):AR (.ptr s 0 off) (.pointer (some ⟨b,o+off,none⟩))
 | ptrA (s idx off : Nat) (a : Bool) (ks : List Kd) (xs : List PV) (b o : Nat) (hs : h s = some (.arr a ks xs)) (hi : idx < xs.length) (hb : β s = some (b,o)) :
     AR (.ptr s idx off) (.pointer (some ⟨b,o+idx*ks.length+off,none⟩))
 | pq (a : Bool) (ks : List Kd) (x : PV) (off b o : Nat) (f : Nat → Value) (hM : M b) (hx : bZ a ks x = true)
     (hc:∀ (j:Nat) (c:PV),x.cells[j]?=some c→w.cell? ⟨b,o+j,none⟩=some (f j))
     (hv:∀ (j:Nat) (c:PV),x.cells[j]?=some c→VR w M c (f j)):AR (.pq a ks x off) (.pointer (some ⟨b,o+off,none⟩))
 | fn (f : Nat) (cs : List AV) (vs : Array Value) (hn : vs.size = cs.length)
     (hc:∀ (i:Nat) (c:AV),cs[i]?=some c→AR c (vs.getD i undef)):AR (.fn f cs) (.func (.func f) #[] vs)
 | agg (cs : List AV) (vs : Array Value) (hn : vs.size = cs.length) (hl : ∀ c ∈ cs,c.leaf = true)
     (hc:∀ (i:Nat) (c:AV),cs[i]?=some c→AR c (vs.getD i undef)):AR (.agg cs) (.agg vs)
 | qY (cs : List AV) (vs : Array Value) (hn : vs.size = cs.length)
     (hc:∀ (i:Nat) (c:AV),cs[i]?=some c→AR c (vs.getD i undef)):AR (.qY cs) (.tuple vs)
 | vN (l:Nat):AR .vN (.func (.yield l) #[] #[])
inductive BR (s:Nat):cu→Prop
 | box (cs : List AV) (b o : Nat) (C : Array Value) (e : TypeId) (fr : Nat × Nat) (hb : β s = some (b,o)) (hw : w.heap[b]? = some (.cells C e fr)) (hn : o + cs.length ≤ C.size)
     (ho:Open C fr) (hl:∀ c∈cs,c.leaf=true) (hc:∀ (j:Nat) (c:AV),cs[j]?=some c→AR w M β h c (C.getD (o+j) undef)):BR s (.box cs)
 | jS (a:Bool) (ks:List Kd):BR s (.arr a ks [])
 | arr (a : Bool) (ks : List Kd) (xs : List PV) (b o : Nat) (C : Array Value) (e : TypeId) (fr : Nat × Nat) (hb : β s = some (b,o)) (hw : w.heap[b]? = some (.cells C e fr))
     (hn:o+xs.length*ks.length≤C.size) (ho:Open C fr) (hs:∀ x∈xs,bZ a ks x=true)
     (hc:∀ (i:Nat) (x:PV) (j:Nat) (c:PV),xs[i]?=some x→x.cells[j]?=some c→VR w M c (C.getD (o+i*ks.length+j) undef)):BR s (.arr a ks xs)
 | log (on:Bool) (xs:List PV):BR s (.log on xs)
end
def Like:cu→cu→Prop
 | .box cs,.box ds=>cs.length=ds.length
 | .arr a ks xs,.arr b ls ys=>a=b∧ks=ls∧xs.length≤ys.length
 | .log a _,.log b _=>a=b
 | _,_=>False
theorem Like.refl (x:cu):Like x x:=by cases x<;>simp[Like]
def ajx:cu→Nat→Prop
 | .box _,_=>False
 | _,_=>True
theorem AR.agO {w w' : World} {M M' : Nat → Prop} {β β' : Nat → Option (Nat × Nat)} {h h' : Nat → Option cu} (hM : ∀ b,M b → M' b ∧ w'.heap[b]? = w.heap[b]?)
    {v:AV} {c:Value} (hv:AR w M β h v c)
    (hs:∀ s blk,AV.refers [s] v=true→h s=some blk→∃ blk',h' s=some blk'∧Like blk blk'∧β' s=β s∧(∀ b o n,β s=some (b,o)→ajx blk n→Room w b n→Room w' b n)):AR w' M' β' h' v c:=by
  have any:∀ (s:Nat) (cs:List AV) (i:Nat) (c:AV),cs[i]?=some c→AV.refers [s] c=true→AV.jh [s] cs=true:=by
   intro s cs;induction cs with
   | nil=>intro i c hi;simp at hi
   | cons x r ih =>
    intro i c hi hr;cases i with
    | zero=>simp at hi;subst hi;simp[AV.jh,hr]
    | succ i=>simp at hi;simp[AV.jh,ih i c hi hr]
  have me:∀ s:Nat,jC s [s]=true:=fun s=>by simp[jC]
  induction hv with
  | undef c=>exact .undef c
  | p v c hv=>exact .p v c (hv.mono hM)
  | slice s off len a ks xs b o cap h1 hl hb hcap hr =>
   obtain⟨blk',e1,e2,e3,e4⟩:=hs s _ (by simp[AV.refers,me]) h1;cases blk' with
   | box cs=>exact e2.elim
   | log _ _=>exact e2.elim
   | arr a' ks' xs' =>obtain⟨rfl,rfl,h3⟩:=e2;exact .slice s off len a ks xs' b o cap e1 (by omega) (e3▸hb) hcap (e4 _ _ _ hb trivial hr)
  | sliceE s off a ks xs base h1 hl =>
   obtain⟨blk',e1,e2,e3,e4⟩:=hs s _ (by simp[AV.refers,me]) h1;cases blk' with
   | box cs=>exact e2.elim
   | log _ _=>exact e2.elim
   | arr a' ks' xs' =>obtain⟨rfl,rfl,h3⟩:=e2;exact .sliceE s off a ks xs' base e1 (by omega)
  | bslice s off len cs b o cap h1 hl hb hcap =>
   obtain⟨blk',e1,e2,e3,e4⟩:=hs s _ (by simp[AV.refers,me]) h1;cases blk' with
   | box cs'=>exact .bslice s off len cs' b o cap e1 (by have:cs.length=cs'.length:=e2;omega) (e3▸hb) hcap
   | arr _ _ _=>exact e2.elim
   | log _ _=>exact e2.elim
  | bsliceE s off cs base h1 hl =>
   obtain⟨blk',e1,e2,e3,e4⟩:=hs s _ (by simp[AV.refers,me]) h1;cases blk' with
   | box cs'=>exact .bsliceE s off cs' base e1 (by have:cs.length=cs'.length:=e2;omega)
   | arr _ _ _=>exact e2.elim
   | log _ _=>exact e2.elim
  | ptrB s off cs b o h1 hb =>
   obtain⟨blk',e1,e2,e3,e4⟩:=hs s _ (by simp[AV.refers,me]) h1;cases blk' with
   | box cs'=>exact .ptrB s off cs' b o e1 (e3▸hb)
   | arr _ _ _=>exact e2.elim
   | log _ _=>exact e2.elim
  | ptrA s idx off a ks xs b o h1 hi hb =>
   obtain⟨blk',e1,e2,e3,e4⟩:=hs s _ (by simp[AV.refers,me]) h1;cases blk' with
   | box cs=>exact e2.elim
   | log _ _=>exact e2.elim
   | arr a' ks' xs' =>obtain⟨rfl,rfl,h3⟩:=e2;exact .ptrA s idx off a ks xs' b o e1 (by omega) (e3▸hb)
  | pq a ks x off b o f hb hx hc hv =>exact .pq a ks x off b o f (hM b hb).1 hx (fun j c h1=>by rw[cell_of_heap (hM b hb).2];exact hc j c h1) (fun j c h1=>(hv j c h1).mono hM)
  | fn f cs vs hn _ ih=>exact .fn f cs vs hn fun i c hi=>ih i c hi fun s blk hr=>hs s blk (by simp only[AV.refers];exact any s cs i c hi hr)
  | agg cs vs hn hl _ ih=>exact .agg cs vs hn hl fun i c hi=>ih i c hi fun s blk hr=>hs s blk (by simp only[AV.refers];exact any s cs i c hi hr)
  | qY cs vs hn _ ih=>exact .qY cs vs hn fun i c hi=>ih i c hi fun s blk hr=>hs s blk (by simp only[AV.refers];exact any s cs i c hi hr)
  | vN l=>exact .vN l
theorem AR.mono {w w' : World} {M M' : Nat → Prop} {β β' : Nat → Option (Nat × Nat)} {h h' : Nat → Option cu} (hM : ∀ b,M b → M' b ∧ w'.heap[b]? = w.heap[b]?)
    {v:AV} {c:Value} (hv:AR w M β h v c)
    (hs:∀ s blk,AV.refers [s] v=true→h s=some blk→∃ blk',h' s=some blk'∧Like blk blk'∧β' s=β s∧(∀ b o n,β s=some (b,o)→Room w b n→Room w' b n)):AR w' M' β' h' v c :=
  hv.agO hM fun s blk h1 h2=>let ⟨blk',e1,e2,e3,e4⟩:=hs s blk h1 h2;⟨blk',e1,e2,e3,fun b o n h _ hr=>e4 b o n h hr⟩
structure Base where
 wd:World
 n0:Nat
 le:n0≤wd.heap.size
 gl:Option (List (Nat × Obj))
abbrev Base.heap (b:Base):=b.wd.heap
abbrev Base.os (b:Base):=b.wd.os
abbrev Base.tape (b:Base):=b.wd.tape
abbrev Base.output (b:Base):=b.wd.output
abbrev Base.drawn (b:Base):=b.wd.drawn
theorem Base.le' (b:Base):b.n0≤b.heap.size:=b.le
structure Rel (w0:Base) (Pr M0:Nat→Prop) (M:Nat→Prop) (β:Nat→Option (Nat × Nat)) (st:St) (a:Act) (w:World):Prop where
 oK:st.env.length≤a.tmps.size
 env:∀ (t:Nat) (v:AV),st.env[t]?=some v→AR w M β (look st.heap) v (a.tmps.getD t undef)
 heap:∀ s blk,look st.heap s=some blk→BR w M β (look st.heap) s blk
 own:∀ s b o,(look st.heap s).isSome=true→β s=some (b,o)→¬ M b∧b<w.heap.size∧((w0.heap.size≤b∨Pr b)∧(w0.n0≤b∨ah≤s))
 inj:∀ s s' b o o',(look st.heap s).isSome=true→(look st.heap s').isSome=true→β s=some (b,o)→β s'=some (b,o')→s=s'
 gU:∀ b,M b→b<w.heap.size
 lY:∀ b,M b→M0 b∨(w0.n0≤b∧(w0.heap.size≤b∨Pr b))
 tu:∀ b,M0 b→M b
 keep:∀ b,b<w0.heap.size→¬ Pr b→w.heap[b]?=w0.heap[b]?
 room:∀ b n,b<w0.n0→Pr b→Room w0.wd b n→Room w b n
 size:w0.heap.size≤w.heap.size
 os:w.os=w0.os
 tape:w.tape=w0.tape
 output:w.output=w0.output
 glob:∀ p∈w0.gl.getD [],M p.1∧w.heap[p.1]?=some p.2
end Go.Skm
namespace Go.Skm
theorem mW {x:Nat}:∀ {l:List Nat},jC x l=true↔x∈l
 | []=>by simp[jC]
 | y::r=>by
  simp only[jC,List.mem_cons];by_cases h:x=y
  · simp[h]
  · have h':(x==y)=false:=by simpa using h
    simp[h',h,mW]
theorem gG {x:Nat} {l:List Nat}:jC x l=false↔x ∉ l:=by rw[← mW];simp
theorem dS (hp:Heap) (s:Nat) (b:cu) (x:Nat):look (put hp s b) x=if x=s then some b else look hp x:=by
 induction hp with
 | nil =>
  by_cases h:x=s
  · subst h;simp[put,look]
  · have h':(s==x)=false:=by simpa using fun e=>h e.symm
    simp[put,look,h,h']
 | cons p r ih =>
  obtain⟨k,c⟩:=p;by_cases hk:k=s
  · subst hk;by_cases h:x=k
    · subst h;simp[put,look]
    · have h':(k==x)=false:=by simpa using fun e=>h e.symm
      simp[put,look,h,h']
  · have hk':(k==s)=false:=by simpa using hk
    by_cases h:x=s
    · subst h;have hx:(k==x)=false:=hk';simp only[put,hk',cond_false,look,ih,if_true]
    · by_cases hx:k=x
      · subst hx;simp[put,hk',look,h]
      · have hx':(k==x)=false:=by simpa using hx
        simp only[put,hk',cond_false,look,hx',ih,h,if_false]
theorem ZJ (hp:Heap) (s x:Nat):look (drop1 hp s) x=if x=s then none else look hp x:=by
 induction hp with
 | nil=>simp[drop1,look]
 | cons p r ih =>
  obtain⟨k,c⟩:=p;by_cases hk:k=s
  · subst hk;by_cases h:x=k
    · subst h;simp[drop1,ih]
    · have h':(k==x)=false:=by simpa using fun e=>h e.symm
      simp[drop1,look,ih,h,h']
  · have hk':(k==s)=false:=by simpa using hk
    by_cases h:x=s
    · subst h;have hx:(k==x)=false:=hk';simp[drop1,hk',look,ih]
    · by_cases hx:k=x
      · subst hx;simp[drop1,hk',look,h]
      · have hx':(k==x)=false:=by simpa using hx
        simp[drop1,hk',look,hx',ih,h]
theorem vJ (x:Nat):∀ (ss:List Nat) (hp:Heap),look (pY hp ss) x=if x∈ss then none else look hp x
 | [],hp=>by simp[pY]
 | s::r,hp=>by simp only[pY,vJ x r,ZJ,List.mem_cons];by_cases h1:x∈r<;>by_cases h2:x=s<;>simp[h1,h2]
theorem iY (ss:List Nat) (x:Nat):∀ (hp:Heap),look (iV ss hp) x=(look hp x).map (cu.kill ss)
 | []=>rfl
 | (k,b)::r=>by
  by_cases h:(k==x)=true
  · simp[iV,look,h]
  · have h':(k==x)=false:=by simpa using h
    simp[iV,look,h',iY ss x r]
theorem jI (ss:List Nat):∀ (env:List AV) (t:Nat),(jd ss env)[t]?=(env[t]?).map (AV.kill ss)
 | [],t=>by simp[jd]
 | v::r,0=>by simp[jd]
 | v::r,t+1=>by simp[jd,jI ss r t]
theorem oC (ss:List Nat):∀ (env:List AV),(jd ss env).length=env.length
 | []=>rfl
 | v::r=>by simp[jd,oC ss r]
theorem cu.zO (ss:List Nat) (b:cu):Like b (b.kill ss):=by
 cases b with
 | box cs=>simp[cu.kill,Like,oC]
 | arr a ks xs=>exact Like.refl _
 | log on xs=>exact Like.refl _
mutual
theorem QI {s:Nat} {ss:List Nat} (hs:s∈ss):∀ (v:AV),AV.refers ss v=false→AV.refers [s] v=false
 | .undef,_=>rfl
 | .p _,_=>rfl
 | .pq _ _ _ _,_=>rfl
 | .fresh _ _ _,_=>rfl
 | .vN,_=>rfl
 | .slice x _ _ _,h=>by simp only[AV.refers]at *;rw[gG]at *;simp;rintro rfl;exact h hs
 | .bslice x _ _,h=>by simp only[AV.refers]at *;rw[gG]at *;simp;rintro rfl;exact h hs
 | .ptr x _ _,h=>by simp only[AV.refers]at *;rw[gG]at *;simp;rintro rfl;exact h hs
 | .fn _ cs,h=>by simp only[AV.refers]at *;exact xw hs cs h
 | .agg cs,h=>by simp only[AV.refers]at *;exact xw hs cs h
 | .qY cs,h=>by simp only[AV.refers]at *;exact xw hs cs h
theorem xw {s:Nat} {ss:List Nat} (hs:s∈ss):∀ (cs:List AV),AV.jh ss cs=false→AV.jh [s] cs=false
 | [],_=>rfl
 | v::r,h=>by simp only[AV.jh,Bool.or_eq_false_iff]at *;exact⟨QI hs v h.1,xw hs r h.2⟩
end
section
variable {w0:Base} {Pr M0 M:Nat→Prop} {β:Nat→Option (Nat × Nat)} {st:St} {a:Act} {w:World}
theorem Rel.congr (r:Rel w0 Pr M0 M β st a w) {hp:Heap} (h:∀ s,look hp s=look st.heap s):Rel w0 Pr M0 M β { st with heap:=hp } a w:=by have e:look hp=look st.heap:=funext h;exact⟨r.oK,by rw[e];exact r.env,by rw[e];exact r.heap,by rw[e];exact r.own,by rw[e];exact r.inj,r.gU,r.lY,r.tu,r.keep,r.room,r.size,r.os,r.tape,r.output,r.glob⟩
theorem Rel.kill (r:Rel w0 Pr M0 M β st a w) (ss:List Nat):Rel w0 Pr M0 M β (st.kill ss) a w:=by
 cases ss with
 | nil=>exact r
 | cons s0 sr =>
  have hlk:∀ x,look (iV (s0::sr) st.heap) x=(look st.heap x).map (cu.kill (s0::sr)):=fun x=>iY _ _ _;have key:∀ (v:AV) (c:Value),AR w M β (look st.heap) v c→AR w M β (look (iV (s0::sr) st.heap)) (AV.kill (s0::sr) v) c:=by
   intro v c h;unfold AV.kill;cases hr:AV.refers (s0::sr) v with
   | true=>exact .undef c
   | false =>refine h.mono (fun b hb=>⟨hb,rfl⟩) fun s blk _ hl=>⟨blk.kill (s0::sr),?_,cu.zO _ _,rfl,fun _ _ _ _ h=>h⟩;rw[hlk,hl];rfl
  refine⟨by simp only[St.kill,oC];exact r.oK,?_,?_,?_,?_,r.gU,r.lY,r.tu,r.keep,r.room,r.size,r.os,r.tape,r.output,r.glob⟩
  · intro t v hv;simp only[St.kill,jI]at hv;cases he:st.env[t]? with
    | none=>rw[he]at hv;simp at hv
    | some v'=>rw[he]at hv;simp at hv;subst hv;exact key _ _ (r.env t v' he)
  · intro s blk hb;simp only[St.kill,hlk]at hb;cases he:look st.heap s with
    | none=>rw[he]at hb;simp at hb
    | some b' =>
     rw[he]at hb;simp at hb;subst hb;cases r.heap s b' he with
     | box cs b o C e fr h1 h2 h3 h4 h5 h6 =>
      refine .box _ b o C e fr h1 h2 (by rw[oC];exact h3) h4 ?_ ?_
      · intro c hc;obtain⟨i,hi⟩:=List.mem_iff_getElem?.1 hc;rw[jI]at hi;cases hx:cs[i]? with
        | none=>rw[hx]at hi;simp at hi
        | some x =>
         rw[hx]at hi;simp at hi;subst hi;unfold AV.kill;cases AV.refers (s0::sr) x with
         | true=>rfl
         | false=>exact h5 x (qLe hx)
      · intro j c hc;rw[jI]at hc;cases hx:cs[j]? with
        | none=>rw[hx]at hc;simp at hc
        | some x=>rw[hx]at hc;simp at hc;subst hc;exact key _ _ (h6 j x hx)
     | jS a ks=>exact .jS a ks
     | log on ys=>exact .log on ys
     | arr a ks xs b o C e fr h1 h2 h3 h4 h5 h6=>exact .arr a ks xs b o C e fr h1 h2 h3 h4 h5 h6
  · intro s b o hl hb;simp only[St.kill,hlk,Option.isSome_map]at hl;exact r.own s b o hl hb
  · intro s s' b o o' hl hl' h1 h2;simp only[St.kill,hlk,Option.isSome_map]at hl hl';exact r.inj s s' b o o' hl hl' h1 h2
theorem Gm {s:Nat} {ss:List Nat} (hs:s∈ss) (v:AV):AV.refers [s] (AV.kill ss v)=false:=by
 unfold AV.kill;cases h:AV.refers ss v with
 | true=>rfl
 | false=>exact QI hs v h
theorem Rel.strike (r : Rel w0 Pr M0 M β st a w) (ss : List Nat) {M' : Nat → Prop} (h1 : ∀ b,M b → M' b)
    (h2:∀ b,M' b→M b∨(w0.n0≤b∧∃ s o,s∈ss∧(look st.heap s).isSome=true∧β s=some (b,o))):Rel w0 Pr M0 M' β (st.strike ss) a w:=by
  have hsub:∀ b,M' b→b<w.heap.size:=fun b hb=>by
   rcases h2 b hb with h | ⟨_,s,o,_,h,h'⟩
   · exact r.gU b h
   · exact(r.own s b o h h').2.1
  have hnew:∀ b,M' b→M0 b∨(w0.n0≤b∧(w0.heap.size≤b∨Pr b)):=fun b hb=>by
   rcases h2 b hb with h | ⟨h,s,o,_,g1,g2⟩
   · exact r.lY b h
   · exact .inr ⟨h,(r.own s b o g1 g2).2.2.1⟩
  cases ss with
  | nil =>
   have e : M' = M := funext fun b => propext ⟨fun hb => by rcases h2 b hb with h | ⟨_, s, o, h, _⟩; · exact h
                                                            · simp at h,h1 b⟩
   rw[e];exact r
  | cons s0 sr =>
   have rk:=r.kill (s0::sr);have hlk:∀ x,look (pY (iV (s0::sr) st.heap) (s0::sr)) x=if x∈s0::sr then none else look (iV (s0::sr) st.heap) x:=fun x=>vJ x _ _
   have ahC:∀ x,(look (iV (s0::sr) st.heap) x).isSome=(look st.heap x).isSome:=fun x=>by rw[iY];simp
   have key : ∀ (v : AV) (c : Value),(∀ s,s ∈ s0::sr → AV.refers [s] v = false) → AR w M β (look (iV (s0::sr) st.heap)) v c →
       AR w M' β (look (pY (iV (s0::sr) st.heap) (s0::sr))) v c:=by
     intro v c hr h;refine h.mono (fun b hb=>⟨h1 b hb,rfl⟩) fun s blk hrs hl=>⟨blk,?_,Like.refl _,rfl,fun _ _ _ _ h=>h⟩;rw[hlk,if_neg (fun hm=>by rw[hr s hm]at hrs;cases hrs)];exact hl
   refine⟨rk.oK,?_,?_,?_,?_,hsub,hnew,fun b hb=>h1 b (r.tu b hb),r.keep,r.room,r.size,r.os,r.tape,r.output,fun p hp=>⟨h1 _ (r.glob p hp).1,(r.glob p hp).2⟩⟩
   · intro t v hv;refine key v _ ?_ (rk.env t v hv);intro s hs;simp only[St.strike,jI]at hv;cases he:st.env[t]? with
     | none=>rw[he]at hv;simp at hv
     | some v'=>rw[he]at hv;simp at hv;subst hv;exact Gm hs v'
   · intro s blk hb;simp only[St.strike,hlk]at hb;by_cases hm:s∈s0::sr
     · rw[if_pos hm]at hb;cases hb
     · rw[if_neg hm]at hb;have hb':=hb;rw[iY]at hb';cases he:look st.heap s with
       | none=>rw[he]at hb';simp at hb'
       | some b' =>
        rw[he]at hb';simp at hb';cases rk.heap s blk hb with
        | box cs b o C e fr g1 g2 g3 g4 g5 g6 =>
         refine .box _ b o C e fr g1 g2 g3 g4 g5 fun j c hc=>key c _ ?_ (g6 j c hc);intro s' hs';cases b' with
         | arr a ks xs=>simp[cu.kill]at hb'
         | log on xs=>simp[cu.kill]at hb'
         | box ds =>
          simp only[cu.kill,cu.box.injEq]at hb';rw[← hb',jI]at hc;cases hx:ds[j]? with
          | none=>rw[hx]at hc;simp at hc
          | some x=>rw[hx]at hc;simp at hc;subst hc;exact Gm hs' x
        | jS a ks=>exact .jS a ks
        | log on ys=>exact .log on ys
        | arr a ks xs b o C e fr g1 g2 g3 g4 g5 g6=>exact .arr a ks xs b o C e fr g1 g2 g3 g4 g5 fun i x j c hi hj=>(g6 i x j c hi hj).mono fun b hb=>⟨h1 b hb,rfl⟩
   · intro s b o hl hb;simp only[St.strike,hlk]at hl;by_cases hm:s∈s0::sr
     · rw[if_pos hm]at hl;cases hl
     · rw[if_neg hm,ahC]at hl;obtain⟨g1,g2,g3⟩:=r.own s b o hl hb;refine⟨fun hM=>?_,g2,g3⟩;rcases h2 b hM with h | ⟨_,s',o',hs',hl',hb'⟩
       · exact g1 h
       · exact hm (by rw[r.inj s s' b o o' hl hl' hb hb'];exact hs')
   · intro s s' b o o' hl hl' h3 h4;simp only[St.strike,hlk]at hl hl';by_cases hm:s∈s0::sr
     · rw[if_pos hm]at hl;cases hl
     · by_cases hm':s'∈s0::sr
       · rw[if_pos hm']at hl';cases hl'
       · rw[if_neg hm,ahC]at hl;rw[if_neg hm',ahC]at hl';exact r.inj s s' b o o' hl hl' h3 h4
theorem Rel.setEnv (r : Rel w0 Pr M0 M β st a w) (d : Option Nat) {v : AV} {c : Value} (h : AR w M β (look st.heap) v c) :
    Rel w0 Pr M0 M β { st with env:=Skm.setEnv st.env d v } (a.put d c) w:=by
  cases d with
  | none=>exact r
  | some d =>
   refine⟨by simp only[Skm.setEnv,Act.put,List.length_set,Array.size_setIfInBounds];exact r.oK,?_,r.heap,r.own,r.inj,r.gU,r.lY,r.tu,r.keep,r.room,r.size,r.os,r.tape,r.output,r.glob⟩;intro t u hu;have ht:t<st.env.length:=by have:=(qLa.1 hu).1;simpa [Skm.setEnv] using this
   have ht':t<a.tmps.size:=by have:=r.oK;omega
   by_cases hd:d=t
   · subst hd;simp[Skm.setEnv,ht]at hu;subst hu;simpa [Act.put,ht'] using h
   · simp only[Skm.setEnv,List.getElem?_set_ne hd]at hu;simpa [Act.put,hd,qAe hd] using r.env t u hu
theorem Rel.abd (r : Rel w0 Pr M0 M β st a w) {env : List AV} (hl : env.length = st.env.length) (h : ∀ (t : Nat) (v : AV),env[t]? = some v → v = .undef ∨ st.env[t]? = some v) :
    Rel w0 Pr M0 M β { st with env:=env } a w :=
  ⟨by simpa [hl] using r.oK, fun t v hv => by rcases h t v hv with rfl | h'; · exact .undef _
                                              · exact r.env t v h',r.heap,r.own,r.inj,r.gU,r.lY,r.tu,r.keep,r.room,r.size,r.os,r.tape,r.output,r.glob⟩
end
end Go.Skm
namespace Go.Skm
theorem OH {P:Program} {w w':World} {at_ k:Addr} {u:TypeId} {v:Value} {at1:Bool} {l:List Addr} (h:w.viewStore P at_ u k v at1=.ok (w',l)):w'.drawn=w.drawn:=by
 unfold World.viewStore at h;simp only[bind,Except.bind,pure,Except.pure]at h
 repeat' (split at h<;>try (cases h;done))
 all_goals (first | (cases h;rfl) | (simp only[throw,throwThe,MonadExceptOf.throw]at h;cases h))
theorem MS {α:Type}:∀ (a:Ask α) (w:World),w.drawn≤(w.ask a).2.drawn
 | .done a,w=>Nat.le_refl _
 | .ask what range k,w=>by
  unfold World.ask;simp only;split
  · exact MS _ w
  · exact Nat.le_trans (Nat.le_succ _) (MS _ { w with drawn:=w.drawn+1 })
theorem acs {P:Program} {α:Type}:∀ (s:Sem α) {w w':World} {a:α},s.run P w=.ok a w'→w.drawn≤w'.drawn:=by
 intro s;induction s with
 | pure a=>intro w w' b h;simp only[Sem.run]at h;cases h;exact Nat.le_refl _
 | load m a k ih =>
  intro w w' b h;simp only[Sem.run]at h;split at h
  · exact ih _ h
  · split at h
    · exact ih _ h
    · cases h
 | store m a v k ih =>
  intro w w' b h;have key:(match w.cell? a with
   | some _ => if w.frozen? a then .halt (.unsupported (.unsafePointer "a write to bytes that a string shares")) w else k.run P (w.setCell a v)
   | none=>match w.farStore P a v (m==.atomic) with
    | .ok (w,_)=>k.run P w
    | .error h=>.halt h w)=Result.ok b w':=by
   cases v<;>first | exact h | (simp only[Sem.run]at h;cases h)
  split at key
  · split at key
    · cases key
    · exact ih (w:=w.setCell a v) key
  · split at key
    · rename_i w2 l hw;have:w2.drawn=w.drawn:=by
       unfold World.farStore at hw;split at hw
       · split at hw
         · rename_i r hr;cases hw;exact OH hr
         · cases hw
       · cases hw
      rw[← this];exact ih key
    · cases key
 | new o k ih=>intro w w' b h;simp only[Sem.run]at h;exact ih _ (w:={ w with heap:=w.heap.push o }) h
 | shape r k ih=>intro w w' b h;simp only[Sem.run]at h;exact ih _ h
 | freeze a n k ih =>intro w w' b h;simp only[Sem.run]at h;have:=ih h;unfold World.freeze at this;split at this<;>exact this
 | frozen a k ih=>intro w w' b h;simp only[Sem.run]at h;exact ih _ h
 | getObj r k ih =>
  intro w w' b h;simp only[Sem.run]at h;split at h
  · cases h
  · exact ih _ h
  · cases h
 | setObj r o k ih =>
  intro w w' b h;simp only[Sem.run]at h;split at h
  · cases h
  · exact ih (w:={ w with heap:=w.heap.setIfInBounds r o }) h
  · cases h
 | choose q k ih =>
  intro w w' b h;simp only[Sem.run]at h;split at h
  · exact ih _ h
  · exact Nat.le_trans (Nat.le_succ _) (ih _ (w:={ w with drawn:=w.drawn+1 }) h)
 | sys c k ih =>
  intro w w' b h;simp only[Sem.run]at h;refine Nat.le_trans ?_ (ih _ h);unfold World.sys;have:=MS (Kernel.perform c w.os) w;split
  · exact Nat.le_refl _
  · rename_i r os w2 hr;rw[hr]at this;exact this
 | program k ih=>intro w w' b h;simp only[Sem.run]at h;exact ih _ h
 | mark m k ih=>intro w w' b h;simp only[Sem.run]at h;exact ih h
 | halt h0=>intro w w' b h;simp only[Sem.run]at h;cases h
section
variable {w0:Base} {Pr M0 M:Nat→Prop} {β:Nat→Option (Nat × Nat)} {st:St} {a:Act} {w:World}
theorem Room.of_block {w w':World} {b n:Nat} (h:w'.heap[b]?=w.heap[b]?) (hr:Room w b n):Room w' b n:=by obtain⟨C,e,fr,h1,h2,h3⟩:=hr;exact⟨C,e,fr,by rw[h];exact h1,h2,h3⟩
theorem Room.mono {w:World} {b n m:Nat} (hr:Room w b (2*n)) (h:m≤n):Room w b (2*m):=by obtain⟨C,e,fr,h1,h2,h3⟩:=hr.get;exact Room.mk h1 (by omega) h3
theorem Rel.world (r : Rel w0 Pr M0 M β st a w) {w' : World} {M' : Nat → Prop} (hsz : w.heap.size ≤ w'.heap.size) (hos : w'.os = w.os) (htp : w'.tape = w.tape) (hop : w'.output = w.output)
    (hb:∀ b,b<w.heap.size→(M b∨(∃ s o,(look st.heap s).isSome=true∧β s=some (b,o))∨(b<w0.heap.size∧¬ Pr b))→w'.heap[b]?=w.heap[b]?)
    (hrm:∀ b n,b<w0.n0→b<w.heap.size→Pr b→Room w b n→Room w' b n) (h1:∀ b,M b→M' b) (h2:∀ b,M' b→M b∨(w.heap.size≤b∧b<w'.heap.size)):Rel w0 Pr M0 M' β st a w':=by
  have hM:∀ b,M b→M' b∧w'.heap[b]?=w.heap[b]?:=fun b h=>⟨h1 b h,hb b (r.gU b h) (.inl h)⟩;have hB:∀ s b o,(look st.heap s).isSome=true→β s=some (b,o)→w'.heap[b]?=w.heap[b]?:=fun s b o h3 h4=>hb b (r.own s b o h3 h4).2.1 (.inr (.inl ⟨s,o,h3,h4⟩));have key:∀ (v:AV) (c:Value),AR w M β (look st.heap) v c→AR w' M' β (look st.heap) v c:=fun v c h =>h.mono hM fun s blk _ hl=>⟨blk,hl,Like.refl _,rfl,fun b o n h3 hr=>hr.of_block (hB s b o (by rw[hl];rfl) h3)⟩;refine⟨r.oK,fun t v h=>key _ _ (r.env t v h),?_,?_,r.inj,?_,?_,fun b h=>h1 b (r.tu b h),?_,fun b n h3 h4 h5=>hrm b n h3 (by have:=r.size;have:=w0.le';omega) h4 (r.room b n h3 h4 h5),by have:=r.size;omega,hos.trans r.os,htp.trans r.tape,hop.trans r.output,fun p hp=>⟨(hM _ (r.glob p hp).1).1,(hM _ (r.glob p hp).1).2.trans (r.glob p hp).2⟩⟩
  · intro s blk hl;have hi:(look st.heap s).isSome=true:=by rw[hl];rfl
    cases r.heap s blk hl with
    | box cs b o C e fr g1 g2 g3 g4 g5 g6=>exact .box _ b o C e fr g1 (by rw[hB s b o hi g1];exact g2) g3 g4 g5 fun j c hc=>key _ _ (g6 j c hc)
    | jS a ks=>exact .jS a ks
    | log on ys=>exact .log on ys
    | arr a ks xs b o C e fr g1 g2 g3 g4 g5 g6=>exact .arr a ks xs b o C e fr g1 (by rw[hB s b o hi g1];exact g2) g3 g4 g5 fun i x j c hx hc=>(g6 i x j c hx hc).mono hM
  · intro s b o hl h3;obtain⟨g1,g2,g3⟩:=r.own s b o hl h3;refine⟨fun hm=>?_,by omega,g3⟩;rcases h2 b hm with h | h
    · exact g1 h
    · omega
  · intro b h;rcases h2 b h with h | h
    · have:=r.gU b h;omega
    · omega
  · intro b h;rcases h2 b h with h | h
    · exact r.lY b h
    · right;have:=r.size;have:=w0.le';exact⟨by omega,.inl (by omega)⟩
  · intro b h3 h4;rw[hb b (by have:=r.size;omega) (.inr (.inr ⟨h3,h4⟩)),r.keep b h3 h4]
theorem Rel.lay (r : Rel w0 Pr M0 M β st a w) {s : Nat} {blk : cu} (hs : look st.heap s = none) {p : Option (Nat × Nat)}
    (hp:∀ b o,p=some (b,o)→¬ M b∧b<w.heap.size∧((w0.heap.size≤b∨Pr b)∧(w0.n0≤b∨ah≤s))∧(∀ s' o',(look st.heap s').isSome=true→β s'≠some (b,o')))
    (hb:BR w M (fun x=>if x=s then p else β x) (fun x=>if x=s then some blk else look st.heap x) s blk) :
    Rel w0 Pr M0 M (fun x=>if x=s then p else β x) { st with heap:=put st.heap s blk } a w:=by
  have hlk:look (put st.heap s blk)=fun x=>if x=s then some blk else look st.heap x:=funext fun x=>dS _ _ _ _
  have key:∀ (v:AV) (c:Value),AR w M β (look st.heap) v c→AR w M (fun x=>if x=s then p else β x) (look (put st.heap s blk)) v c:=by
   intro v c h;refine h.mono (fun b hb=>⟨hb,rfl⟩) fun s' blk' _ hl=>?_;have hne:s'≠s:=by rintro rfl;rw[hs]at hl;cases hl
   exact⟨blk',by rw[hlk];simp only[if_neg hne];exact hl,Like.refl _,by simp only[if_neg hne],fun _ _ _ _ h=>h⟩
  refine⟨r.oK,fun t v h=>key _ _ (r.env t v h),?_,?_,?_,r.gU,r.lY,r.tu,r.keep,r.room,r.size,r.os,r.tape,r.output,r.glob⟩
  · intro s' b' hl;by_cases hne:s'=s
    · subst hne;rw[hlk]at hl;simp only[if_true,qOa]at hl;subst hl;show BR w M _ (look (put st.heap s' blk)) s' blk;rw[hlk];exact hb
    · simp only[hlk,if_neg hne]at hl;cases r.heap s' b' hl with
      | box cs b o C e fr g1 g2 g3 g4 g5 g6=>exact .box _ b o C e fr (by simp only[if_neg hne];exact g1) g2 g3 g4 g5 fun j c hc=>key _ _ (g6 j c hc)
      | jS a ks=>exact .jS a ks
      | log on ys=>exact .log on ys
      | arr a ks xs b o C e fr g1 g2 g3 g4 g5 g6=>exact .arr a ks xs b o C e fr (by simp only[if_neg hne];exact g1) g2 g3 g4 g5 g6
  · intro s' b o hl h1;by_cases hne:s'=s
    · subst hne;simp only[if_true]at h1;obtain⟨g1,g2,g3,_⟩:=hp b o h1;exact⟨g1,g2,g3⟩
    · simp only[hlk,if_neg hne]at hl h1;exact r.own s' b o hl h1
  · intro s' s'' b o o' hl hl' h1 h2;by_cases hne:s'=s
    · subst hne;by_cases hne':s''=s'
      · exact hne'.symm
      · simp only[if_true,if_neg hne']at h1 h2;simp only[hlk,if_neg hne']at hl';exact absurd h2 ((hp b o h1).2.2.2 s'' o' hl')
    · by_cases hne':s''=s
      · subst hne';simp only[if_true,if_neg hne]at h1 h2;simp only[hlk,if_neg hne]at hl;exact absurd h1 ((hp b o' h2).2.2.2 s' o hl)
      · simp only[if_neg hne,if_neg hne']at h1 h2;simp only[hlk,if_neg hne]at hl;simp only[hlk,if_neg hne']at hl';exact r.inj s' s'' b o o' hl hl' h1 h2
theorem Rel.ahD (r : Rel w0 Pr M0 M β st a w) {s b : Nat} {blk blk' : cu} {o : Nat} {w' : World} {C C' : Array Value} {e : TypeId} {fr fr' : Nat × Nat}
    (hs:look st.heap s=some blk) (hl:Like blk blk') (hb:β s=some (b,o)) (hw:w.heap[b]?=some (.cells C e fr)) (hw':w'.heap=w.heap.setIfInBounds b (.cells C' e fr')) (hfr:Open C fr→Open C' fr')
    (hC:C'.size=C.size) (hos:w'.os=w.os) (htp:w'.tape=w.tape) (hop:w'.output=w.output)
    (hB:(∀ (v:AV) (c:Value),AR w M β (look st.heap) v c→AR w' M β (fun x=>if x=s then some blk' else look st.heap x) v c)→(∀ (v:PV) (c:Value),VR w M v c→VR w' M v c) →
      w'.heap[b]?=some (.cells C' e fr')→BR w' M β (fun x=>if x=s then some blk' else look st.heap x) s blk') :
    Rel w0 Pr M0 M β { st with heap:=put st.heap s blk' } a w':=by
  have hi:(look st.heap s).isSome=true:=by rw[hs];rfl
  obtain⟨o1,o2,o3⟩:=r.own s b o hi hb;have hlk:look (put st.heap s blk')=fun x=>if x=s then some blk' else look st.heap x:=funext fun x=>dS _ _ _ _
  have hsz:w'.heap.size=w.heap.size:=by rw[hw'];simp
  have hne:∀ b',b'≠b→w'.heap[b']?=w.heap[b']?:=fun b' h=>by rw[hw',qAe (fun e=>h e.symm)]
  have hself:w'.heap[b]?=some (.cells C' e fr'):=by rw[hw'];simp[o2]
  have hM:∀ b',M b'→M b'∧w'.heap[b']?=w.heap[b']?:=fun b' h=>⟨h,hne b' fun e=>o1 (e▸h)⟩;have hroom:∀ b' n,Room w b' n→Room w' b' n:=by
   intro b' n hr;by_cases h:b'=b
   · subst h;obtain⟨C1,e1,fr1,h1,h2,h3⟩:=hr;rw[hw]at h1;cases h1;exact⟨C',e,fr',hself,by omega,fun h=>hfr (h3 h)⟩
   · exact hr.of_block (hne b' h)
  have key:∀ (v:AV) (c:Value),AR w M β (look st.heap) v c→AR w' M β (fun x=>if x=s then some blk' else look st.heap x) v c:=by
   intro v c h;refine h.mono hM fun s' b' _ h1=>?_;by_cases h2:s'=s
   · subst h2;rw[hs]at h1;cases h1;exact⟨blk',by simp,hl,rfl,fun b o n _ hr=>hroom b n hr⟩
   · exact⟨b',by simp only[if_neg h2];exact h1,Like.refl _,rfl,fun b o n _ hr=>hroom b n hr⟩
  refine⟨r.oK,fun t v h=>by rw[hlk];exact key _ _ (r.env t v h),?_,?_,?_,fun b' h=>by rw[hsz];exact r.gU b' h,r.lY,r.tu,?_,fun b' n h1 h2 h3=>hroom b' n (r.room b' n h1 h2 h3),by rw[hsz];exact r.size,hos.trans r.os,htp.trans r.tape,hop.trans r.output,fun p hp=>⟨(hM _ (r.glob p hp).1).1,(hM _ (r.glob p hp).1).2.trans (r.glob p hp).2⟩⟩
  · intro s' b' h1;show BR w' M β (look (put st.heap s blk')) s' b';by_cases h2:s'=s
    · subst h2;simp only[hlk,if_true,qOa]at h1;subst h1;rw[hlk];exact hB key (fun v c h=>h.mono hM) hself
    · simp only[hlk,if_neg h2]at h1;have hi':(look st.heap s').isSome=true:=by rw[h1];rfl
      rw[hlk];cases r.heap s' b' h1 with
      | box cs b1 o1 C1 e1 fr1 g1 g2 g3 g4 g5 g6 =>exact .box _ b1 o1 C1 e1 fr1 g1 (by rw[hne b1 fun e=>h2 (r.inj s' s b _ _ hi' hi (e▸g1) hb)];exact g2) g3 g4 g5 fun j c hc=>key _ _ (g6 j c hc)
      | jS a ks=>exact .jS a ks
      | log on ys=>exact .log on ys
      | arr a ks xs b1 o1 C1 e1 fr1 g1 g2 g3 g4 g5 g6 =>exact .arr a ks xs b1 o1 C1 e1 fr1 g1 (by rw[hne b1 fun e=>h2 (r.inj s' s b _ _ hi' hi (e▸g1) hb)];exact g2) g3 g4 g5 fun i x j c hx hc=>(g6 i x j c hx hc).mono hM
  · intro s' b' o' h1 h2;rw[hsz];by_cases h3:s'=s
    · subst h3;exact r.own s' b' o' hi h2
    · simp only[hlk,if_neg h3]at h1;exact r.own s' b' o' h1 h2
  · intro s' s'' b' o1 o2 h1 h2 h3 h4;have hx:∀ x,(look (put st.heap s blk') x).isSome=true→(look st.heap x).isSome=true:=by
     intro x hx;by_cases h:x=s
     · subst h;exact hi
     · simpa only[hlk,if_neg h] using hx
    exact r.inj s' s'' b' o1 o2 (hx _ h1) (hx _ h2) h3 h4
  · intro b' h1 h2;rw[hne b' ?_,r.keep b' h1 h2];rintro rfl;rcases o3.1 with h | h
    · omega
    · exact h2 h
theorem Rel.write (r : Rel w0 Pr M0 M β st a w) {s b : Nat} {blk blk' : cu} {o : Nat} {w' : World} {C C' : Array Value} {e : TypeId} {fr : Nat × Nat}
    (hs:look st.heap s=some blk) (hl:Like blk blk') (hb:β s=some (b,o)) (hw:w.heap[b]?=some (.cells C e fr)) (hw':w'.heap=w.heap.setIfInBounds b (.cells C' e fr))
    (hC:C'.size=C.size) (hos:w'.os=w.os) (htp:w'.tape=w.tape) (hop:w'.output=w.output)
    (hB:(∀ (v:AV) (c:Value),AR w M β (look st.heap) v c→AR w' M β (fun x=>if x=s then some blk' else look st.heap x) v c)→(∀ (v:PV) (c:Value),VR w M v c→VR w' M v c) →
      w'.heap[b]?=some (.cells C' e fr)→BR w' M β (fun x=>if x=s then some blk' else look st.heap x) s blk') :
    Rel w0 Pr M0 M β { st with heap:=put st.heap s blk' } a w' :=
  r.ahD hs hl hb hw hw' (fun h=>h.size hC) hC hos htp hop hB
end
theorem Ui {w:World} {M:Nat→Prop} {v:Value} {x:PV} (h:VH v=some x):VR w M x v∧x.leaf=true:=by unfold VH at h;split at h<;>first | (cases h;refine⟨?_,rfl⟩;constructor) | cases h
theorem NS {w:World} {M:Nat→Prop}:∀ {l:List Value} {xs:List PV},DN l=some xs→xs.length=l.length∧(∀ x∈xs,x.leaf=true)∧∀ (i:Nat) (x:PV),xs[i]?=some x→∃ v,l[i]?=some v∧VR w M x v
 | [],xs,h=>by simp[DN]at h;subst h;simp
 | v::r,xs,h=>by
  simp only[DN]at h;split at h
  · rename_i x ys h1 h2;cases h;obtain⟨g1,g2,g3⟩:=NS (w:=w) (M:=M) h2;obtain⟨k1,k2⟩:=Ui (w:=w) (M:=M) h1;refine⟨by simp[g1],?_,?_⟩
    · intro y hy;rcases List.mem_cons.1 hy with rfl | hy
      · exact k2
      · exact g2 y hy
    · intro i y hi;cases i with
      | zero=>simp at hi;subst hi;exact⟨v,by simp,k1⟩
      | succ i=>simp at hi;simpa using g3 i y hi
  · cases h
theorem Jt {w:World} {M:Nat→Prop} {v:Value} {x:PV} (h:ofValue v=some x):VR w M x v:=by
 unfold ofValue at h;split at h
 · rename_i cs;cases h1:DN cs.toList with
   | none=>rw[h1]at h;cases h
   | some ys =>
    rw[h1]at h;cases h;obtain⟨g1,g2,g3⟩:=NS (w:=w) (M:=M) h1;refine .agg ys cs (by simpa using g1.symm) g2 fun i c hi=>?_;obtain⟨v,h4,h5⟩:=g3 i c hi;have:cs.getD i undef=v:=by
     have:cs[i]?=some v:=by simpa using h4
     simp[this]
    rw[this];exact h5
 · exact(Ui h).1
section
variable {w0:Base} {Pr M0 M:Nat→Prop} {β:Nat→Option (Nat × Nat)} {st:St} {a:Act} {w:World}
theorem afY {env:List AV} {t:Nat}:env.getD t .undef=.undef∨env[t]?=some (env.getD t .undef):=by
 by_cases h:t<env.length
 · right;simp[h]
 · left;simp[List.getD,List.getElem?_eq_none (by omega:env.length≤t)]
theorem Rel.slot (r:Rel w0 Pr M0 M β st a w) (t:Nat):AR w M β (look st.heap) (st.env.getD t .undef) (a.tmps.getD t undef):=by
 rcases afY (env:=st.env) (t:=t) with h | h
 · rw[h];exact .undef _
 · exact r.env t _ h
theorem Rel.dJ (r:Rel w0 Pr M0 M β st a w) (x:Operand):AR w M β (look st.heap) (Skm.dJ st.env x) (a.eval x):=by
 cases x with
 | tmp t=>exact r.slot t
 | const v =>
  simp only[Skm.dJ,Act.eval];split
  · rename_i x h;exact .p _ _ (Jt h)
  · exact .undef _
 | global g=>exact .undef _
 | func f=>exact .p _ _ (.fn f [] #[] rfl fun i c h=>by simp at h)
end
end Go.Skm
namespace Go.Skm
def agP (P:Program) (f:FuncId):Prim→Prop
 | .none=>True
 | .carry s=>∀ (w:World) (x y c:Nat),c≤1→(callFunc f #[.int .u64 x,.int .u64 y,.int .u64 c]).run P w=.ok (.value (.tuple #[.int .u64 (lU s x y c),.int .u64 (ni s x y c)])) w
structure dZ (P:Program) (T:Tab):Prop where
 types:∀ t i,dN T.types t=some i→afU P t=some i
 funcs : ∀ f fi, dN T.funcs f = some fi → P.funcs[f]? = some fi.fn ∧ (fi.fn.name == "runtime.NumGoroutine") = false ∧ (∀ c, fi.fn.body = some c → eU T fi.hides c = true) ∧
  (fi.cfg.vY=false→fi.cfg.shares=false→sU T fi.cfg.rets fi.fn.resultTypes.toList=true)
 mixed:P.follows .mixedOrders=true
 nvars:∀ f fi,dN T.funcs f=some fi→fi.cfg.nvars≤100000
 adt:∀ f fi,dN T.funcs f=some fi→agP P f fi.cfg.Jg
section
variable {P:Program} {T:Tab} (ok:dZ P T)
include ok
theorem dZ.ti {t : TypeId} {i : TI} (h : dN T.types t = some i) : ∃ d j,P.underlying t = some d ∧ P.info? t = some j ∧
    i={ desc:=d,size:=j.size,bytes:=j.bytes,agg:=Bc P t,sh:=dL P 8 t,zero:=j.zero.bind ofValue,plain:=VI P t }:=by
  have:=ok.types t i h;unfold afU at this;split at this
  · rename_i d j h1 h2;exact⟨d,j,h1,h2,by simpa using this.symm⟩
  · cases this
theorem dZ.und {t:TypeId} {d:TypeDesc} (h:Skm.und T t=some d):P.underlying t=some d:=by
 unfold Skm.und at h;cases h1:dN T.types t with
 | none=>rw[h1]at h;cases h
 | some i =>obtain⟨d',j,h2,_,h4⟩:=ok.ti h1;rw[h1]at h;subst h4;simp at h;subst h;exact h2
theorem dZ.size {t:TypeId} {n:Nat} (h:vG T t=some n):∃ i,P.info? t=some i∧i.size=n:=by
 unfold vG at h;cases h1:dN T.types t with
 | none=>rw[h1]at h;cases h
 | some i =>obtain⟨d',j,_,h3,h4⟩:=ok.ti h1;rw[h1]at h;subst h4;simp at h;exact⟨j,h3,h⟩
theorem dZ.bytes {t:TypeId} {n:Nat} (h:KD T t=some n):∃ i,P.info? t=some i∧i.bytes=n:=by
 unfold KD at h;cases h1:dN T.types t with
 | none=>rw[h1]at h;cases h
 | some i =>obtain⟨d',j,_,h3,h4⟩:=ok.ti h1;rw[h1]at h;subst h4;simp at h;exact⟨j,h3,h⟩
theorem dZ.zero {t:TypeId} {z:PV} (h:NP T t=some z):∃ i v,P.info? t=some i∧i.zero=some v∧ofValue v=some z:=by
 unfold NP at h;cases h1:dN T.types t with
 | none=>rw[h1]at h;cases h
 | some i =>
  obtain⟨d',j,_,h3,h4⟩:=ok.ti h1;rw[h1]at h;subst h4;simp at h;cases h5:j.zero with
  | none=>rw[h5]at h;cases h
  | some v=>rw[h5]at h;exact⟨j,v,h3,h5,by simpa using h⟩
theorem dZ.agg {t:TypeId} {n:Nat} (h:vG T t=some n):aeg T t=Bc P t:=by
 unfold vG at h;unfold aeg;cases h1:dN T.types t with
 | none=>rw[h1]at h;cases h
 | some i =>obtain⟨d',j,_,h3,h4⟩:=ok.ti h1;subst h4;rfl
theorem dZ.plain {t:TypeId} (h:ZA T t=true):VI P t=true:=by
 unfold ZA at h;cases h1:dN T.types t with
 | none=>rw[h1]at h;cases h
 | some i =>obtain⟨d',j,_,h3,h4⟩:=ok.ti h1;rw[h1]at h;subst h4;exact h
end
theorem dV {P:Program} {t:TypeId} {d:TypeDesc} (h:P.underlying t=some d) (w:World):(underlying t).run P w=.ok d w:=by simp[underlying,h]
theorem tC {P:Program} {t:TypeId} {i:TypeInfo} (h:P.info? t=some i) (w:World):(typeInfo t).run P w=.ok i w:=by simp[typeInfo,h]
theorem iF {P:Program} {t:TypeId} {i:TypeInfo} (h:P.info? t=some i) (w:World):(sizeOf t).run P w=.ok i.size w:=by simp[sizeOf,tC h]
theorem oD {P:Program} {t:TypeId} {d:TypeDesc} (h:P.underlying t=some d) (w:World):(isAgg t).run P w=.ok (Bc P t) w:=by unfold isAgg Bc;simp only[h,Sem.run_bind,dV h,qRa];cases d<;>rfl
structure aH (P:Program) (w:World) (M:Nat→Prop) (β:Nat→Option (Nat × Nat)) (h:Nat→Option cu) (D:DT) (sem:Sem Value):Prop where
 sim:∀ (α:Type) (k:Eff→Option α) (r:α),D.run k=some r→∃ v c,k { val:=v }=some r∧AR w M β h v c∧sem.run P w=.ok c w
theorem VZ {α:Type} {c:Bool} {x:DT} {k:Eff→Option α} {r:α} (h:(chk c x).run k=some r):c=true∧x.run k=some r:=by
 cases c
 · simp[chk,DT.run]at h
 · exact⟨rfl,by simpa [chk,DT.run] using h⟩
section
variable {P:Program} {T:Tab} {w:World} {M:Nat→Prop} {β:Nat→Option (Nat × Nat)} {h:Nat→Option cu}
theorem aH.ret {v:AV} {c:Value} {sem:Sem Value} (h1:AR w M β h v c) (h2:sem.run P w=.ok c w):aH P w M β h (.ret { val:=v }) sem :=
 ⟨fun _ _ _ hk=>⟨v,c,hk,h1,h2⟩⟩
theorem aH.fail {sem:Sem Value}:aH P w M β h .fail sem:=⟨fun _ _ _ hk=>by simp[DT.run]at hk⟩
theorem aH.chk {c:Bool} {D:DT} {sem:Sem Value} (h1:c=true→aH P w M β h D sem):aH P w M β h (Skm.chk c D) sem :=
 ⟨fun α k r hk=>by obtain⟨h2,h3⟩:=VZ hk;exact(h1 h2).sim α k r h3⟩
theorem aH.ite {c:Bool} {D E:DT} {sem:Sem Value} (h1:c=true→aH P w M β h D sem) (h2:c=false→aH P w M β h E sem):aH P w M β h (.ite c D E) sem:=by
 refine⟨fun α k r hk=>?_⟩;cases c
 · exact(h2 rfl).sim α k r (by simpa [DT.run] using hk)
 · exact(h1 rfl).sim α k r (by simpa [DT.run] using hk)
theorem AR.Au {k:IntKind} {n:Int} {c:Value} (h1:AR w M β h (.p (.int k n)) c):c=.int k n:=by cases h1;rename_i h2;cases h2;rfl
theorem AR.EL {b:Bool} {c:Value} (h1:AR w M β h (.p (.bool b)) c):c=.bool b:=by cases h1;rename_i h2;cases h2;rfl
theorem AR.QJ {s:ByteArray} {c:Value} (h1:AR w M β h (.p (.str s)) c):c=.string s:=by cases h1;rename_i h2;cases h2;rfl
theorem AR.int (k:IntKind) (n:Int):AR w M β h (.p (.int k n)) (.int k n):=.p _ _ (.int k n)
theorem AR.bool (b:Bool):AR w M β h (.p (.bool b)) (.bool b):=.p _ _ (.bool b)
theorem AR.str (s:ByteArray):AR w M β h (.p (.str s)) (.string s):=.p _ _ (.str s)
theorem QK:∀ (x y:List UInt8),EF x y=Op.bytesLess x y
 | [],[]=>rfl
 | _::_,[]=>rfl
 | [],_::_=>rfl
 | a::x,b::y=>by simp[EF,Op.bytesLess,QK x y]
theorem ahE {op:UnOp} {x:AV} {c:Value} (hx:AR w M β h x c):aH P w M β h (Qv op x) (Op.unary op c):=by
 unfold Qv;split
 · rw[hx.Au];exact aH.ret (.int _ _) (by simp[Op.unary,Op.intArith])
 · rw[hx.EL];exact aH.ret (.bool _) (by simp[Op.unary])
 · exact aH.fail
theorem ZK {op:BinOp} {j:IntKind} {a b:Int} {v:PV} (hv:ZB op j a b=some v) (t:TypeId):∃ c,VR w M v c∧(binOp op t (.int j a) (.int j b)).run P w=.ok c w:=by
 unfold ZB at hv
 split at hv<;>first
  | (cases hv;exact⟨_,.int _ _,by simp[binOp,Op.intArith,Op.intBits]⟩)
  | (cases hv;exact⟨_,.bool _,by simp[binOp,Op.intCmp]⟩)
  | cases hv
theorem ZL {op:BinOp} {a b:ByteArray} {v:PV} (hv:ZC op a b=some v) (t:TypeId):∃ c,VR w M v c∧(binOp op t (.string a) (.string b)).run P w=.ok c w:=by
 unfold ZC at hv
 split at hv<;>first
  | (cases hv;exact⟨_,.bool _,by simp[binOp,Op.stringOp,QK]⟩)
  | cases hv
theorem acu (ok : dZ P T) {d : Nat} {t : TypeId} {x y : PV} {vx vy : Value} {b : Bool} (hl : VK (und T t) x y = some b) (hx : VR w M x vx) (hy : VR w M y vy) :
    (Op.equalIn (d+1) t vx vy).run P w=.ok b w:=by
  unfold VK at hl;split at hl
  · cases hx;cases hy;split at hl
    · rename_i h;rename_i j1 x1 k1 y1 _ _;by_cases hjk:j1=k1
      · subst hjk;simp at hl;subst hl;exact run_equalIn_int w d t _ _ _ _ (ok.und h)
      · have:(j1==k1)=false:=by simpa using hjk
        simp[this]at hl
    · cases hl
  · cases hx;cases hy;split at hl
    · rename_i h;cases hl;exact run_equalIn_bool w d t _ _ (ok.und h)
    · cases hl
  · cases hx;cases hy;split at hl
    · rename_i h;cases hl;rw[run_equalIn_string w d t _ _ (ok.und h),beq_toListBytes]
    · cases hl
  · cases hl
theorem getD_some {vs:Array Value} {i:Nat} (h:i<vs.size):vs[i]?=some (vs.getD i undef):=by rw[qAd h];simp[Array.getD,h]
def Rep (P:Program) (w:World) (M:Nat→Prop) (t:TypeId) (xs:List PV) (v:Value):Prop :=
 if Bc P t=true then ∃ vs:Array Value,v=.agg vs∧vs.size=xs.length∧∀ (i:Nat) (c:PV),xs[i]?=some c→VR w M c (vs.getD i undef) else ∃ x,xs=[x]∧VR w M x v
theorem abe (ok : dZ P T) {g : TypeId → List PV → List PV → Option Bool} {gp : TypeId → Bool} {d : Nat} {xs ys : Array Value}
    (hg:∀ t as bs b va vb,gp t=true→g t as bs=some b→Rep P w M t as va→Rep P w M t bs vb→(Op.equalIn d t va vb).run P w=.ok b w) (hu:∀ t,gp t=true→∃ dd,P.underlying t=some dd)
    (h1:∀ t,gp t=true→Bc P t=false→∀ as bs b,g t as bs=some b→∃ x y,as=[x]∧bs=[y]) :
    ∀ (fs:List Field) (o:Nat) (as bs:List PV) (r:Bool),OV (fun t=>(P.info? t).map (·.size)) gp o fs=true →
    (∀ (i:Nat) (c:PV),as[i]?=some c→VR w M c (xs.getD (o+i) undef))→(∀ (i:Nat) (c:PV),bs[i]?=some c→VR w M c (ys.getD (o+i) undef)) →
    o+as.length=xs.size→o+bs.length=ys.size→acr (vG T) g fs as bs=some r→(Op.eqFields d xs ys fs).run P w=.ok r w
  | [],o,as,bs,r,_,_,_,_,_,he=>by cases as<;>cases bs<;>simp[acr]at he;subst he;simp[Op.eqFields]
  | f::fs,o,as,bs,r,hp,ha,hb,h3,h4,he=>by
   unfold acr at he;unfold OV at hp;cases hn:vG T f.type with
   | none=>rw[hn]at he;simp at he
   | some n =>
   obtain⟨ti,hti,hsz⟩:=ok.size hn;rw[hn]at he;simp only at he;cases afZ:(Nat.ble n as.length&&Nat.ble n bs.length) with
   | false=>rw[afZ]at he;cases he
   | true =>
   rw[afZ,cond_true]at he;rw[qBa,Nat.ble_eq,Nat.ble_eq]at afZ;obtain⟨hl1,hl2⟩:=afZ;simp only[hti,Option.map_some,hsz,qBa,beq_iff_eq,bne_iff_ne,ne_eq]at hp;obtain⟨hoff,hname,hgp,hrest⟩:=hp;cases hl:g f.type (as.take n) (bs.take n) with
   | none=>rw[hl]at he;simp at he
   | some b1 =>
   cases hr:acr (vG T) g fs (as.drop n) (bs.drop n) with
   | none=>rw[hl,hr]at he;simp at he
   | some b2 =>
   rw[hl,hr]at he;simp only[qOa]at he;obtain⟨dd,hdd⟩:=hu _ hgp;have hpart:∀ (zs:Array Value) (cs:List PV),n≤cs.length→(Bc P f.type=false→∃ x,cs.take n=[x])→(∀ (i:Nat) (c:PV),cs[i]?=some c→VR w M c (zs.getD (o+i) undef))→o+cs.length=zs.size→∃ v,(part f.type zs f.offset).run P w=.ok v w∧Rep P w M f.type (cs.take n) v:=by
    intro zs cs hle hone hc hsize;cases hagg:Bc P f.type with
    | true =>
     refine⟨.agg (zs.extract o (o+n)),?_,?_⟩
     · simp only[part,Sem.run_bind,oD hdd,hagg,qRa,if_true,iF hti,hsz,hoff,Sem.run_pure]
     · unfold Rep;rw[if_pos hagg];refine⟨_,rfl,by simp only[Array.size_extract,List.length_take];omega,fun i c hi=>?_⟩;rw[List.getElem?_take]at hi;split at hi
       · rename_i hlt;have hlen:=(qLa.1 hi).1;have:=hc i c hi;have e:(zs.extract o (o+n)).getD i undef=zs.getD (o+i) undef:=by
          have h1:i<(zs.extract o (o+n)).size:=by simp only[Array.size_extract];omega
          have h2:o+i<zs.size:=by omega
          simp only[Array.getD,h1,h2,dite_true];exact Array.getElem_extract ..
         rw[e];exact this
       · cases hi
    | false =>
     obtain⟨x,hx⟩:=hone hagg;have hx0:cs[0]?=some x:=by
      have:(cs.take n)[0]?=some x:=by rw[hx];rfl
      rw[List.getElem?_take]at this;split at this
      · exact this
      · cases this
     have hlen:=(qLa.1 hx0).1;refine⟨zs.getD o undef,?_,?_⟩
     · simp only[part,Sem.run_bind,oD hdd,hagg,qRa,Bool.false_eq_true,if_false,hoff,getD_some (by omega:o<zs.size),Sem.run_pure]
     · unfold Rep;rw[hagg,if_neg (by simp)];exact⟨x,hx,by simpa using hc 0 x hx0⟩
   have hone:Bc P f.type=false→(∃ x,as.take n=[x])∧∃ y,bs.take n=[y]:=by intro hag;obtain⟨x,y,e1,e2⟩:=h1 _ hgp hag _ _ _ hl;exact⟨⟨x,e1⟩,⟨y,e2⟩⟩
   obtain⟨va,pa,ra⟩:=hpart xs as hl1 (fun hag=>(hone hag).1) ha h3;obtain⟨vb,pb,rb⟩:=hpart ys bs hl2 (fun hag=>(hone hag).2) hb h4;have heq:=hg _ _ _ _ _ _ hgp hl ra rb;simp only[Op.eqFields,hname,ne_eq,not_false_eq_true,if_true,Sem.run_bind,pa,pb,heq,qRa,Sem.run_ite];cases b1
   · simp at he;subst he;rfl
   · simp at he;subst he;exact abe ok hg hu h1 fs (o+n) (as.drop n) (bs.drop n) b2 hrest (fun i c hi=>by
      rw[List.getElem?_drop]at hi;have:=ha (n+i) c hi;rwa[show o+(n+i)=o+n+i by omega]at this) (fun i c hi=>by
      rw[List.getElem?_drop]at hi;have:=hb (n+i) c hi;rwa[show o+(n+i)=o+n+i by omega]at this) (by simp only[List.length_drop];omega) (by simp only[List.length_drop];omega) hr
theorem aen (ok:dZ P T):∀ (n d:Nat) (t:TypeId) (as bs:List PV) (b:Bool) (va vb:Value),F8 P n t=true→eqT T n t as bs=some b→Rep P w M t as va→Rep P w M t bs vb→(Op.equalIn (d+n) t va vb).run P w=.ok b w
 | 0,d,t,as,bs,b,va,vb,hp,_,_,_=>by simp[F8]at hp
 | n+1,d,t,as,bs,b,va,vb,hp,he,ra,rb=>by
  unfold eqT at he;unfold F8 at hp;split at he
  · rename_i fs hu;have hu:=ok.und hu;rw[hu]at hp;simp only[qBa,qBb]at hp;have hagg:Bc P t=true:=by unfold Bc;rw[hu]
    unfold Rep at ra rb;rw[if_pos hagg]at ra rb;obtain⟨vs,rfl,e1,h1⟩:=ra;obtain⟨us,rfl,e2,h2⟩:=rb;have hfs:P.fieldsOf t=fs:=by simp[Program.fieldsOf,hu]
    rw[← Nat.add_assoc,run_equalIn_struct w (d+n) t vs us (by rw[hfs];exact hu) hp.1,hfs];refine abe ok (g:=eqT T n) (gp:=F8 P n) (fun t as bs b va vb h1 h2 h3 h4=>aen ok n d t as bs b va vb h1 h2 h3 h4) (fun t ht=>?_) (fun t ht hag as bs b hb=>?_) fs.toList 0 as bs b hp.2 (fun i c hi=>by simpa using h1 i c hi) (fun i c hi=>by simpa using h2 i c hi) (by omega) (by omega) he
    · cases n with
      | zero=>simp[F8]at ht
      | succ n =>
       unfold F8 at ht;cases hh:P.underlying t with
       | none=>rw[hh]at ht;simp at ht
       | some dd=>exact⟨dd,rfl⟩
    · cases n with
      | zero=>simp[eqT]at hb
      | succ n =>
       unfold eqT at hb;split at hb
       · rename_i fs' hu';have:=ok.und hu';unfold Bc at hag;rw[this]at hag;simp at hag
       · split at hb
         · exact⟨_,_,rfl,rfl⟩
         · cases hb
  · rename_i hns;split at he
    · rename_i x y;have hagg:Bc P t=false:=by
       unfold Bc;cases hh:P.underlying t with
       | none=>rfl
       | some dd =>
        rw[hh]at hp
        cases dd<;>first
         | rfl
         | (simp at hp;done)
         | (rename_i fs
            exfalso;cases hu:und T t with
            | none=>rw[hu]at he;unfold VK at he;cases x<;>cases y<;>simp at he
            | some d2 =>have:=ok.und hu;rw[hh]at this;cases this;exact hns fs hu)
      unfold Rep at ra rb;rw[hagg,if_neg (by simp)]at ra rb;obtain⟨x',e1,hx⟩:=ra;obtain⟨y',e2,hy⟩:=rb;cases e1;cases e2;exact acu ok (d:=d+n) he hx hy
    · cases he
theorem aeo (ok : dZ P T) {op : BinOp} {t : TypeId} {x y : AV} {c d : Value} (ox oy : Operand) (hx : AR w M β h x c) (hy : AR w M β h y d) :
    aH P w M β h (DR T op t x y) (do eqGuard op t ox oy c d;binOp op t c d):=by
  have guard:∀ (e1 e2:Value),(∀ u v,e1≠.agg u∨e2≠.agg v)→(e1≠.nilIface∨e2≠.nilIface)→(eqGuard op t ox oy e1 e2).run P w=.ok () w:=by
   intro e1 e2 h1 h2
   cases op<;>first
    | (simp[eqGuard];done)
    | (cases e1 <;> first
        | (simp[eqGuard];done)
        | (cases e2<;>first | (simp[eqGuard];done) | (rcases h1 _ _ with h1 | h1<;>exact absurd rfl h1) | (rcases h2 with h2 | h2<;>exact absurd rfl h2)))
  unfold DR;split
  · rename_i j a i b;rw[hx.Au,hy.Au];have g:=guard (.int j a) (.int i b) (by simp) (by simp);split
    · refine aH.chk fun hb=>aH.ret (.int _ _) ?_;have hb':¬ b<0:=by simpa using hb
      simp only[Sem.run_bind,g,qRa,binOp,Op.shift,if_neg hb'];simp
    · refine aH.chk fun hb=>aH.ret (.int _ _) ?_;have hb':¬ b<0:=by simpa using hb
      simp only[Sem.run_bind,g,qRa,binOp,Op.shift,if_neg hb'];simp
    · refine aH.chk fun hj=>aH.chk fun hb=>aH.ret (.int _ _) ?_;have hj':j=i:=by simpa using hj
      have hb':¬ b=0:=by simpa using hb
      subst hj';simp[g,binOp,Op.intDiv,hb']
    · refine aH.chk fun hj=>aH.chk fun hb=>aH.ret (.int _ _) ?_;have hj':j=i:=by simpa using hj
      have hb':¬ b=0:=by simpa using hb
      subst hj';simp[g,binOp,Op.intDiv,hb']
    · refine aH.chk fun hj=>?_;have hj':j=i:=by simpa using hj
      subst hj';split
      · rename_i v hv;obtain⟨e,h1,h2⟩:=ZK (P:=P) (w:=w) (M:=M) hv t;exact aH.ret (.p _ _ h1) (by simp only[Sem.run_bind,g,qRa];exact h2)
      · exact aH.fail
  · rename_i a b;rw[hx.QJ,hy.QJ];have g:=guard (.string a) (.string b) (by simp) (by simp);split
    · refine aH.chk fun hb=>aH.ret (.str _) ?_;have hb':a.size+b.size≤4611686018427387904:=by simpa using hb
      have:¬ ((a.size+b.size:Nat):Int) > IntKind.i64.max:=by
       have:IntKind.i64.max=9223372036854775807:=by decide
       rw[this];omega
      simp only[Sem.run_bind,g,qRa,binOp,Op.stringOp,if_neg this];rfl
    · split
      · rename_i v hv;obtain⟨e,h1,h2⟩:=ZL (P:=P) (w:=w) (M:=M) hv t;exact aH.ret (.p _ _ h1) (by simp only[Sem.run_bind,g,qRa];exact h2)
      · exact aH.fail
  · rename_i a b;rw[hx.EL,hy.EL];have g:=guard (.bool a) (.bool b) (by simp) (by simp);split
    · rename_i hu;exact aH.ret (.bool _) (by simp[g,binOp,run_equal_bool w t a b (ok.und hu)])
    · rename_i hu;exact aH.ret (.bool _) (by simp[g,binOp,run_equal_bool w t a b (ok.und hu)])
    · exact aH.fail
  · rename_i as bs;cases hx with
    | p _ _ hx =>
    cases hy with
    | p _ _ hy =>
    cases hx with
    | agg _ vs hn1 hl1 h1 =>
    cases hy with
    | agg _ us hn2 hl2 h2 =>
    refine aH.chk fun hp=>?_;have hp:=ok.plain hp;split
    · rename_i fs hu;have hu:=ok.und hu;have hfs:P.fieldsOf t=fs:=by simp[Program.fieldsOf,hu]
      unfold VI at hp;rw[hu]at hp;simp only[qBa,qBb]at hp;obtain⟨hp1,hp3⟩:=hp;have hagg:Bc P t=true:=by unfold Bc;rw[hu]
      have g:(eqGuard op t ox oy (.agg vs) (.agg us)).run P w=.ok () w:=run_eqGuard_agg w op t ox oy vs us hp3;have main:∀ r,eqT T 4 t as bs=some r→(Op.equalIn 10000 t (.agg vs) (.agg us)).run P w=.ok r w:=by intro r hr;exact aen ok 4 9996 t as bs r (.agg vs) (.agg us) hp1 hr (by unfold Rep;rw[if_pos hagg];exact⟨vs,rfl,hn1,h1⟩) (by unfold Rep;rw[if_pos hagg];exact⟨us,rfl,hn2,h2⟩)
      split
      · rename_i r hr;exact aH.ret (.bool _) (by simp only[Sem.run_bind,g,qRa,run_eql_struct w t vs us,main r hr])
      · rename_i r hr;exact aH.ret (.bool _) (by simp only[Sem.run_bind,g,qRa,run_neq_struct w t vs us,main r hr])
      · exact aH.fail
    · exact aH.fail
  · exact aH.fail
theorem QL (ok : dZ P T) {op : BinOp} {t : TypeId} {x y : AV} {c d : Value} (ox oy : Operand) (hx : AR w M β h x c) (hy : AR w M β h y d) :
    aH P w M β h (Ia T op t (isLit oy) x y) (do eqGuard op t ox oy c d;binOp op t c d):=by
  have guard:∀ (e1 e2:Value),(∀ u v,e1≠.agg u∨e2≠.agg v)→(e1≠.nilIface∨e2≠.nilIface)→(eqGuard op t ox oy e1 e2).run P w=.ok () w:=by
   intro e1 e2 h1 h2
   cases op<;>first
    | (simp[eqGuard];done)
    | (cases e1 <;> first
        | (simp[eqGuard];done)
        | (cases e2<;>first | (simp[eqGuard];done) | (rcases h1 _ _ with h1 | h1<;>exact absurd rfl h1) | (rcases h2 with h2 | h2<;>exact absurd rfl h2)))
  unfold Ia;split
  · rename_i x;cases hy with
    | p _ _ hy =>
    cases hy;cases hx with
    | p _ _ hx =>
    have hg:=guard c .nilFunc (fun _ _=>.inr (by simp)) (.inr (by simp));have run:∀ (p r:Array TypeId) (b:Bool),P.underlying t=some (.func p r b)→x.isF=true→(Op.equal t c .nilFunc).run P w=.ok x.Qu w:=by
     intro p r b hu hf;have key:∀ d,(Op.equalIn (d+1) t c .nilFunc).run P w=.ok x.Qu w:=fun d=>by cases hx<;>first | (simp[PV.isF]at hf;done) | simp[Op.equalIn,dV hu,PV.Qu]
     exact key 9999
    have hb:∀ o,(o=.eql∨o=.neq)→binOp o t c .nilFunc=(match o with | .eql=>(do pure (.bool (← Op.equal t c .nilFunc)):Sem Value) | _=>(do pure (.bool (!(← Op.equal t c .nilFunc))):Sem Value)):=by intro o ho;rcases ho with rfl | rfl<;>(cases hx<;>rfl)
    split
    · rename_i hu;refine aH.chk fun hf=>aH.ret (.p _ _ (.bool _)) ?_;simp only[Sem.run_bind,hg,qRa,hb .eql (.inl rfl),run _ _ _ (ok.und hu) hf,Sem.run_pure]
    · rename_i hu;refine aH.chk fun hf=>aH.ret (.p _ _ (.bool _)) ?_;simp only[Sem.run_bind,hg,qRa,hb .neq (.inr rfl),run _ _ _ (ok.und hu) hf,Sem.run_pure]
    · exact aH.fail
  · rename_i a ks xs;cases hy with
    | p _ _ hy =>
    cases hy;cases hx with
    | p _ _ hx =>
    have hg:=guard c (.slice none 0 0) (fun _ _=>.inr (by simp)) (.inr (by simp));have run:∀ e,P.underlying t=some (.slice e)→0<xs.length→(Op.equal t c (.slice none 0 0)).run P w=.ok false w:=by
     intro e hu hl;have key:∀ d,(Op.equalIn (d+1) t c (.slice none 0 0)).run P w=.ok false w:=fun d=>by
      cases hx with
      | list=>simp[Op.equalIn,dV hu]
      | vZ=>simp at hl
     exact key 9999
    have hb:∀ o,(o=.eql∨o=.neq)→binOp o t c (.slice none 0 0)=(match o with | .eql=>(do pure (.bool (← Op.equal t c (.slice none 0 0))):Sem Value) | _=>(do pure (.bool (!(← Op.equal t c (.slice none 0 0)))):Sem Value)):=by intro o ho;rcases ho with rfl | rfl<;>(cases hx<;>rfl)
    split
    · rename_i hu;refine aH.chk fun hf=>aH.ret (.p _ _ (.bool _)) ?_;simp only[Sem.run_bind,hg,qRa,hb .eql (.inl rfl),run _ (ok.und hu) (Nat.le_of_ble_eq_true hf),Sem.run_pure]
    · rename_i hu;refine aH.chk fun hf=>aH.ret (.p _ _ (.bool _)) ?_;simp only[Sem.run_bind,hg,qRa,hb .neq (.inr rfl),run _ (ok.und hu) (Nat.le_of_ble_eq_true hf),Sem.run_pure];rfl
    · exact aH.fail
  · exact aH.fail
theorem af0 (ok : dZ P T) {op : BinOp} {t : TypeId} {x y : AV} {c d : Value} (ox oy : Operand) (hx : AR w M β h x c) (hy : AR w M β h y d) :
    aH P w M β h (KG T op t (isLit oy) x y) (do eqGuard op t ox oy c d;binOp op t c d):=by
  unfold KG;split
  · exact QL ok ox oy hx hy
  · exact QL ok ox oy hx hy
  · exact aeo ok ox oy hx hy
end
end Go.Skm
namespace Go.Skm
theorem NT:∀ {cs:List AV},AV.H9 cs=true→∀ c∈cs,c≠.undef∧(∀ x,c≠.qY x)∧(∀ x,c≠.agg x)
 | [],_,c,hc=>by simp at hc
 | v::r,h,c,hc=>by
  rcases List.mem_cons.1 hc with rfl | hc
  · cases c<;>simp[AV.H9]at h ⊢
  · refine NT (cs:=r) ?_ c hc;cases v<;>simp[AV.H9]at h<;>exact h
section
variable {P:Program} {T:Tab} {w:World} {M:Nat→Prop} {β:Nat→Option (Nat × Nat)} {h:Nat→Option cu}
theorem AR.cells {v : AV} {c : Value} (hv : AR w M β h v c) (ok : v.ok = true) : c.cells.size = v.cells.length ∧
    ∀ (j:Nat) (x:AV),v.cells[j]?=some x→AR w M β h x (c.cells.getD j Go.undef)∧x.leaf=true∧(c.cells.getD j Go.undef).oneCell'=true:=by
  have single : ∀ (v' : AV) (c' : Value),AR w M β h v' c' → v'.cells = [v'] → c'.cells = #[c'] → v'.leaf = true → c'.oneCell' = true →
      c'.cells.size=v'.cells.length∧∀ (j:Nat) (x:AV),v'.cells[j]?=some x→AR w M β h x (c'.cells.getD j Go.undef)∧x.leaf=true∧(c'.cells.getD j Go.undef).oneCell'=true:=by
    intro v' c' h1 h2 h3 h4 h5;rw[h2,h3];refine⟨rfl,fun j x hj=>?_⟩;cases j with
    | zero=>simp at hj;subst hj;simpa using ⟨h1,h4,h5⟩
    | succ j=>simp at hj
  cases hv with
  | undef c=>simp[AV.ok]at ok
  | p v c hv =>
   cases hv with
   | agg cs vs hn hl hc =>
    simp only[AV.cells,Value.cells,List.length_map,List.getElem?_map];refine⟨hn,fun j x hj=>?_⟩;cases hx:cs[j]? with
    | none=>rw[hx]at hj;simp at hj
    | some y =>rw[hx]at hj;simp at hj;subst hj;have hlf:=hl y (qLe hx);exact⟨.p _ _ (hc j y hx),hlf,(hc j y hx).one hlf⟩
   | _=>exact single _ _ (.p _ _ (by constructor<;>assumption)) rfl rfl rfl rfl
  | agg cs vs hn hl hc =>
   simp only[AV.cells,Value.cells];refine⟨hn,fun j x hj=>?_⟩;have hm:=qLe hj;have hx:=NT (by simpa [AV.ok] using ok) x hm;have hlf:=hl x hm;have hr:=hc j x hj;refine⟨hr,hlf,?_⟩;generalize vs.getD j Go.undef=cj at hr;cases hr with
   | undef=>exact absurd rfl hx.1
   | p v c hv=>exact hv.one hlf
   | agg=>exact absurd rfl (hx.2.2 _)
   | qY=>exact absurd rfl (hx.2.1 _)
   | _=>rfl
  | qY=>simp[AV.ok]at ok
  | _=>exact single _ _ (by constructor<;>assumption) rfl rfl rfl rfl
theorem yu:∀ {cs:List AV} {vs:List PV},F9 cs=some vs→cs=vs.map .p
 | [],vs,h=>by simp[F9]at h;subst h;rfl
 | v::r,vs,h=>by
  cases v<;>simp only[F9]at h<;>first | cases h | skip
  split at h
  · rename_i ys hy;cases h;simp[yu hy]
  · cases h
theorem AR.EZ {cs : List AV} {vs : Array Value} (hn : vs.size = cs.length) (hl : ∀ c ∈ cs,c.leaf = true) (hc : ∀ (i : Nat) (c : AV),cs[i]? = some c → AR w M β h c (vs.getD i Go.undef)) :
    AR w M β h (Skm.EZ cs) (.agg vs):=by
  unfold Skm.EZ;split
  · rename_i xs hx;have e:=yu hx;subst e;refine .p _ _ (.agg xs vs (by simpa using hn) (fun c hc=>by simpa [AV.leaf] using hl (.p c) (by simpa using hc)) fun i c hi=>?_);have:=hc i (.p c) (by simp[hi]);cases this;assumption
  · exact .agg cs vs hn hl hc
theorem aep {c a b : AV} {x y z : Value} (hc : AR w M β h c x) (ha : AR w M β h a y) (hb : AR w M β h b z) :
    aH P w M β h (Qw c a b) (do pure (if ← asBool x then y else z)):=by
  unfold Qw;split
  · rename_i q;rw[hc.EL];split
    · rename_i u v;rw[ha.EL,hb.EL];exact aH.ret (.bool _) (by cases q<;>simp[asBool])
    · refine aH.ite (fun e=>aH.ret ha ?_) (fun e=>aH.ret hb ?_)<;>simp[asBool,e]
  · exact aH.fail
theorem X5 {x:AV} {i:Nat} {c:Value} (hx:AR w M β h x c):aH P w M β h (Gi x i) (Instr.extract c i):=by
 unfold Gi;split
 · rename_i vs;cases hx with
   | qY _ us hn hc =>
   split
   · rename_i v hv;refine aH.ret (hc i v hv) ?_;have hi:i<us.size:=by rw[hn];exact(qLa.1 hv).1
     simp only[Instr.extract,getD_some hi,Sem.run_pure]
   · exact aH.fail
 · exact aH.fail
theorem Ju:∀ {cs:List PV},(∀ c∈cs,c.leaf=true)→bZ true (cs.map VJ) (.agg cs)=true
 | [],_=>rfl
 | c::cs,h=>by have ih:=Ju (cs:=cs) fun x hx=>h x (by simp[hx]);have hc:=h c (by simp);simp only[bZ,List.map_cons,gQ,qBa]at ih ⊢;refine⟨?_,ih⟩;cases c<;>simp[VJ,kindOk,PV.leaf]at hc ⊢
theorem Td (ok:dZ P T) {t:TypeId} {x:AV} {f:Nat} {c:Value} (hx:AR w M β h x c):aH P w M β h (Cj T t x f) (Instr.fieldAt t c f):=by
 unfold Cj;split
 · rename_i fs hu;have hu:=ok.und hu;split
   · rename_i fd hf;split
     · rename_i n hn;obtain⟨i,hi,hsz⟩:=ok.size hn;have place:∀ (b o:Nat),(fieldPlace ⟨b,o,none⟩ fd).run P w=.ok ⟨b,o+fd.offset,none⟩ w:=by intro b o;simp only[fieldPlace,Sem.run_bind,iF hi,qRa,hsz];rw[if_neg (by omega)];simp only[Sem.run_pure,Addr.add];by_cases h0:fd.offset=0<;>simp[h0]
       split
       · rename_i s idx off;cases hx with
         | ptrB s off cs b o h1 h2 =>
          refine aH.ret (c:=.pointer (some ⟨b,o+off+fd.offset,none⟩)) ?_ ?_
          · rw[Nat.add_assoc];exact .ptrB s _ cs b o h1 h2
          · simp[Instr.fieldAt,dV hu,hf,Instr.sureAddr,place]
         | ptrA s idx off a ks xs b o h1 h2 h3 =>
          refine aH.ret (c:=.pointer (some ⟨b,o+idx*ks.length+off+fd.offset,none⟩)) ?_ ?_
          · rw[Nat.add_assoc];exact .ptrA s idx _ a ks xs b o h1 h2 h3
          · simp[Instr.fieldAt,dV hu,hf,Instr.sureAddr,place]
       · cases hx with
         | pq _ _ _ _ b o g h1 h2 h3 h4 =>
          rename_i off;refine aH.ret (c:=.pointer (some ⟨b,o+off+fd.offset,none⟩)) ?_ ?_
          · rw[Nat.add_assoc];exact .pq _ _ _ _ b o g h1 h2 h3 h4
          · simp[Instr.fieldAt,dV hu,hf,Instr.sureAddr,place]
       · rename_i c;cases hx with
         | p _ _ hv =>
          cases hv with
          | ref _ b o g hM hl hc hv ho =>
           split
           · rename_i h0;refine aH.ret (c:=.pointer (some ⟨b,o+fd.offset,none⟩)) ?_ ?_
             · rw[h0];exact .p _ _ (.ref _ b o g hM hl hc hv ho)
             · simp[Instr.fieldAt,dV hu,hf,Instr.sureAddr,place]
           · refine aH.ret (c:=.pointer (some ⟨b,o+fd.offset,none⟩)) ?_ ?_
             · exact .pq true [VJ c] (.agg [c]) fd.offset b o g hM (Ju hl) (fun j c hj=>hc j c hj) (fun j c hj=>hv j c hj)
             · simp[Instr.fieldAt,dV hu,hf,Instr.sureAddr,place]
       · rename_i cs _;cases hx with
         | p _ _ hv =>
          cases hv with
          | ref _ b o g hM hl hc hv _ =>
           refine aH.ret (c:=.pointer (some ⟨b,o+fd.offset,none⟩)) ?_ ?_
           · exact .pq true (cs.map VJ) (.agg cs) fd.offset b o g hM (Ju hl) (fun j c hj=>hc j c hj) (fun j c hj=>hv j c hj)
           · simp[Instr.fieldAt,dV hu,hf,Instr.sureAddr,place]
       · exact aH.fail
     · exact aH.fail
   · exact aH.fail
 · exact aH.fail
theorem Jv (ok : dZ P T) {t : TypeId} {n off : Nat} {cs : List AV} {v : AV} (hn : vG T t = some n) (hv : xu T t n cs off = some v) :
    off+n≤cs.length∧((Bc P t=true∧v=Skm.EZ ((cs.drop off).take n))∨(Bc P t=false∧n=1∧v=cs.getD off .undef)):=by
  unfold xu at hv;cases h1:Nat.ble (off+n) cs.length with
  | false=>rw[h1]at hv;cases hv
  | true =>
   rw[h1]at hv;simp only[cond_true]at hv;refine⟨Nat.le_of_ble_eq_true h1,?_⟩;rw[ok.agg hn]at hv;cases h2:Bc P t with
   | true=>rw[h2]at hv;left;exact⟨rfl,by simpa using hv.symm⟩
   | false =>
    rw[h2]at hv;right;cases h3:Nat.beq n 1 with
    | false=>rw[h3]at hv;simp at hv
    | true=>rw[h3]at hv;exact⟨rfl,Nat.eq_of_beq_eq_true h3,by simpa using hv.symm⟩
theorem QM {t : TypeId} {n off : Nat} {cs : List AV} {vs : Array Value} {v : AV} (ok : dZ P T) (hn : vG T t = some n) (hv : xu T t n cs off = some v) (hlen : vs.size = cs.length)
    (hl:∀ c∈cs,c.leaf=true) (hc:∀ (i:Nat) (c:AV),cs[i]?=some c→AR w M β h c (vs.getD i undef)) (hd:∃ d,P.underlying t=some d) :
    ∃ c,AR w M β h v c∧(part t vs off).run P w=.ok c w:=by
  obtain⟨i,hi,hsz⟩:=ok.size hn;obtain⟨d,hd⟩:=hd;obtain⟨h1,h2⟩:=Jv ok hn hv;rcases h2 with ⟨h2,rfl⟩ | ⟨h2,rfl,rfl⟩
  · refine⟨.agg (vs.extract off (off+n)),AR.EZ ?_ ?_ ?_,?_⟩
    · simp;omega
    · intro c hc';exact hl c (List.mem_of_mem_drop (List.mem_of_mem_take hc'))
    · intro j c hj;have hj':j<n:=by have:=(qLa.1 hj).1;simp at this;omega
      rw[List.getElem?_take,if_pos hj',List.getElem?_drop]at hj;have:=hc _ _ hj;have e:(vs.extract off (off+n)).getD j undef=vs.getD (off+j) undef:=by simp only[qAb,Array.getElem?_extract];rw[if_pos (by omega)]
      rw[e];exact this
    · simp[part,oD hd,h2,iF hi,hsz]
  · have ho:off<cs.length:=by omega
    refine⟨vs.getD off undef,hc off _ (by simp[ho]),?_⟩;simp only[part,Sem.run_bind,oD hd,h2,qRa,Bool.false_eq_true,if_false,getD_some (by omega:off<vs.size),Sem.run_pure]
theorem dZ.acv (ok:dZ P T) {t:TypeId} {n:Nat} (h:vG T t=some n):∃ d,P.underlying t=some d:=by
 unfold vG at h;cases h1:dN T.types t with
 | none=>rw[h1]at h;cases h
 | some i=>obtain⟨d',j,h2,_,h4⟩:=ok.ti h1;exact⟨d',h2⟩
theorem acw (ok:dZ P T) {t:TypeId} {x:AV} {f:Nat} {c:Value} (hx:AR w M β h x c):aH P w M β h (ML T t x f) (Instr.field t c f):=by
 unfold ML;split
 · rename_i fs hu;have hu:=ok.und hu;split
   · rename_i fd hf;split
     · rename_i n cs hn;cases hx with
       | p _ _ hx=>cases hx with
       | agg _ vs hn1 hl hc =>
       split
       · rename_i v hv;obtain⟨c,h1,h2⟩:=QM (w:=w) (M:=M) (β:=β) (h:=h) ok hn hv (by simpa using hn1) (fun c hc'=>by
          obtain⟨y,hy,rfl⟩:=List.mem_map.1 hc';exact hl y hy) (fun i c hi=>by
          rw[List.getElem?_map]at hi;cases hy:cs[i]? with
          | none=>rw[hy]at hi;simp at hi
          | some y=>rw[hy]at hi;simp at hi;subst hi;exact .p _ _ (hc i y hy)) (ok.acv hn)
         exact aH.ret h1 (by simp[Instr.field,dV hu,hf,asAgg,h2])
       · exact aH.fail
     · rename_i n cs hn;cases hx with
       | agg _ vs hn1 hl hc =>
       split
       · rename_i v hv;obtain⟨c,h1,h2⟩:=QM (w:=w) (M:=M) (β:=β) (h:=h) ok hn hv hn1 hl hc (ok.acv hn);exact aH.ret h1 (by simp[Instr.field,dV hu,hf,asAgg,h2])
       · exact aH.fail
     · exact aH.fail
   · exact aH.fail
 · exact aH.fail
end
end Go.Skm
namespace Go.Skm
section
variable {P:Program} {T:Tab} {w:World} {M:Nat→Prop} {β:Nat→Option (Nat × Nat)} {h:Nat→Option cu}
theorem I5 {α β:Type} (g:α→Sem β) (φ:α→β):∀ (l:List α),(∀ x∈l,(g x).run P w=.ok (φ x) w)→(l.mapM g).run P w=.ok (l.map φ) w
 | [],_=>by simp
 | x::r,hx=>by simp only[List.mapM_cons,Sem.run_bind,hx x (by simp),qRa,I5 g φ r (fun y hy=>hx y (by simp[hy])),Sem.run_pure,List.map_cons]
theorem aer {α β:Type} (g:α→Sem β) (φ:α→β) (l:Array α) (hx:∀ x∈l.toList,(g x).run P w=.ok (φ x) w):(l.mapM g).run P w=.ok (l.map φ) w:=by rw[Array.mapM_eq_mapM_toList,Sem.run_map,I5 g φ l.toList hx];simp only[qRa];congr 1;apply Array.ext';simp
def V4 (w:World) (M:Nat→Prop) (β:Nat→Option (Nat × Nat)) (h:Nat→Option cu) (cs:List AV) (vs:Array Value):Prop :=
 vs.size=cs.length∧(∀ c∈cs,c.leaf=true)∧∀ (i:Nat) (c:AV),cs[i]?=some c→AR w M β h c (vs.getD i undef)
theorem foldl_set (vs : List Value) (off : Nat) : ∀ (start : Nat) (acc : Array Value),off + start + vs.length ≤ acc.size →
    ((vs.zipIdx start).foldl (fun cs (cj:Value × Nat)=>cs.setIfInBounds (off+cj.2) cj.1) acc).size=acc.size ∧
    ∀ i,((vs.zipIdx start).foldl (fun cs (cj:Value × Nat)=>cs.setIfInBounds (off+cj.2) cj.1) acc).getD i undef =
     if off+start≤i∧i<off+start+vs.length then(vs.toArray).getD (i-off-start) undef else acc.getD i undef:=by
  induction vs with
  | nil=>intro start acc _;refine⟨by simp,fun i=>?_⟩;rw[if_neg (by simp only[List.length_nil];omega)];simp
  | cons v r ih =>
   intro start acc hlen;simp only[List.length_cons]at hlen;simp only[List.zipIdx_cons,List.foldl_cons];obtain⟨h1,h2⟩:=ih (start+1) (acc.setIfInBounds (off+start) v) (by simp;omega);refine⟨by rw[h1];simp,fun i=>?_⟩;rw[h2 i];by_cases hi:off+start=i
   · subst hi;rw[if_neg (by omega),if_pos (by simp)];have:off+start<acc.size:=by omega
     simp[this]
   · by_cases hj:off+(start+1)≤i∧i<off+(start+1)+r.length
     · rw[if_pos hj,if_pos (by simp;omega)];have e:i-off-start=(i-off-(start+1))+1:=by omega
       rw[e];simp
     · rw[if_neg hj,if_neg (by simp;omega)];simp[qAe hi]
theorem uQ {β : Type} (cs : List β) (off : Nat) (vs : List β) (hl : off + vs.length ≤ cs.length) (i : Nat) :
    (patch cs off vs)[i]?=if off≤i∧i<off+vs.length then vs[i-off]? else cs[i]?:=by
  unfold patch;by_cases h1:i<off
  · rw[List.append_assoc,List.getElem?_append_left (by simp;omega),List.getElem?_take,if_pos h1,if_neg (by omega)]
  · by_cases h2:i<off+vs.length
    · rw[List.getElem?_append_left (by simp;omega),List.getElem?_append_right (by simp;omega),if_pos (by omega)];congr 1;simp;omega
    · rw[List.getElem?_append_right (by simp;omega),List.getElem?_drop,if_neg (by omega)];congr 1;simp;omega
theorem jW {β:Type} (cs:List β) (off:Nat) (vs:List β) (hl:off+vs.length≤cs.length):(patch cs off vs).length=cs.length:=by simp[patch];omega
theorem QN {place : Nat → Option (Nat × Nat)} : ∀ (parts : List (Nat × AV)) (QO : List (Nat × Value)) (cs : List AV) (vs : Array Value) (cs' : List AV),
    V4 w M β h cs vs→parts.length=QO.length→(∀ (i:Nat) (p:Nat × AV) (q:Nat × Value),parts[i]?=some p→QO[i]?=some q→p.1=q.1∧AR w M β h p.2 q.2) →
    I4 place cs parts=some cs'→∃ vs',Instr.fill place vs QO=some vs'∧V4 w M β h cs' vs'
  | [],QO,cs,vs,cs',hc,hn,_,hf=>by
   have:QO=[]:=by simpa using hn.symm
   subst this;simp[I4]at hf;subst hf;exact⟨vs,rfl,hc⟩
  | (i,v)::r,[],cs,vs,cs',hc,hn,_,hf=>by simp at hn
  | (i,v)::r,(j,c)::cr,cs,vs,cs',hc,hn,hp,hf=>by
   have hp0:=hp 0 (i,v) (j,c) (by simp) (by simp);simp only at hp0;obtain⟨rfl,hv⟩:=hp0;simp only[I4]at hf;cases hpl:place i with
   | none=>rw[hpl]at hf;cases hf
   | some p =>
    obtain⟨off,size⟩:=p;rw[hpl]at hf;simp only at hf;cases hb:(v.cells.length==size&&Nat.ble (off+size) cs.length&&v.ok) with
    | false=>rw[hb]at hf;cases hf
    | true =>
     rw[hb]at hf;simp only[cond_true]at hf;simp only[qBa,beq_iff_eq]at hb;obtain⟨⟨hb1,hb2⟩,hb3⟩:=hb;have hb2:=Nat.le_of_ble_eq_true hb2;obtain⟨g1,g2⟩:=hv.cells hb3;obtain⟨c1,c2,c3⟩:=hc;obtain⟨f1,f2⟩:=foldl_set c.cells.toList off 0 vs (by simp;omega);have hlen:off+v.cells.length≤cs.length:=by omega
     have hc':V4 w M β h (patch cs off v.cells) ((c.cells.toList.zipIdx 0).foldl (fun cs (cj:Value × Nat)=>cs.setIfInBounds (off+cj.2) cj.1) vs):=by
      refine⟨by rw[f1,jW _ _ _ hlen];exact c1,?_,?_⟩
      · intro x hx;obtain⟨i,hi⟩:=List.mem_iff_getElem?.1 hx;rw[uQ _ _ _ hlen]at hi;split at hi
        · exact(g2 _ x hi).2.1
        · exact c2 x (qLe hi)
      · intro i x hi;rw[uQ _ _ _ hlen]at hi;rw[f2 i];simp only[Nat.add_zero,Array.length_toList,Nat.sub_zero,Array.toArray_toList]at *;rw[g1];split at hi
        · rename_i hh;rw[if_pos hh];exact(g2 _ x hi).1
        · rename_i hh;rw[if_neg hh];exact c3 i x hi
     obtain⟨vs',k1,k2⟩:=QN r cr (patch cs off v.cells) _ cs' hc' (by simpa using hn) (fun i p q h1 h2=>hp (i+1) p q (by simpa using h1) (by simpa using h2)) hf;refine⟨vs',?_,k2⟩;rw[← k1];simp only[Instr.fill,hpl];rw[if_neg (by simp;omega)];rw[← Array.foldl_toList];simp[Array.toList_zipIdx]
theorem yN (ok : dZ P T) : ∀ (fs : List Field) (i : Nat) (p : Nat × Nat),((iJ T fs)[i]?).bind id = some p →
    ∃ f j,fs[i]?=some f∧P.info? f.type=some j∧p=(f.offset,j.size)
  | [],i,p,h=>by simp[iJ]at h
  | f::r,0,p,h=>by simp[iJ]at h;obtain⟨n,h1,h2⟩:=h;obtain⟨j,h3,h4⟩:=ok.size h1;exact⟨f,j,by simp,h3,by rw[← h2,h4]⟩
  | f::r,i+1,p,h=>by simp[iJ]at h;obtain⟨f',j,h1,h2,h3⟩:=yN ok r i p (by simpa using h);exact⟨f',j,by simpa using h1,h2,h3⟩
end
end Go.Skm
namespace Go.Skm
section
variable {P:Program} {T:Tab} {w:World} {M:Nat→Prop} {β:Nat→Option (Nat × Nat)} {h:Nat→Option cu}
def QS (w:World) (M:Nat→Prop) (β:Nat→Option (Nat × Nat)) (h:Nat→Option cu) (ps:List (Nat × AV)) (cs:List (Nat × Value)):Prop :=
 ps.length=cs.length∧∀ (i:Nat) (p:Nat × AV) (q:Nat × Value),ps[i]?=some p→cs[i]?=some q→p.1=q.1∧AR w M β h p.2 q.2
theorem sS {t:TypeId} {i:TypeInfo} {v:Value} (h1:P.info? t=some i) (h2:i.zero=some v):(zeroValue t).run P w=.ok v w:=by simp[zeroValue,tC h1,h2]
theorem QT {v:Value} {zs:List PV} (hv:ofValue v=some (.agg zs)):V4 w M β h (zs.map .p) v.cells:=by
 have:=Jt (w:=w) (M:=M) hv;cases this with
 | agg _ vs hn hl hc =>
  refine⟨by simpa [Value.cells] using hn,fun c hc'=>?_,fun i c hi=>?_⟩
  · obtain⟨y,hy,rfl⟩:=List.mem_map.1 hc';exact hl y hy
  · rw[List.getElem?_map]at hi;cases hy:zs[i]? with
    | none=>rw[hy]at hi;simp at hi
    | some y=>rw[hy]at hi;simp at hi;subst hi;exact .p _ _ (hc i y hy)
theorem acy (ok : dZ P T) {t : TypeId} {ps : List (Nat × AV)} {cs : Array (Nat × Value)} (hp : QS w M β h ps cs.toList) :
    aH P w M β h (MJ T t ps) (Instr.build t cs):=by
  unfold MJ;split
  · rename_i zs fs hz hu;obtain⟨i,v,h1,h2,h3⟩:=ok.zero hz;have hu:=ok.und hu;refine aH.chk fun hall=>?_;split
    · rename_i cs' hf;have hpl:∀ (n:Nat) (p:Nat × Nat),((iJ T fs.toList)[n]?).bind id=some p→(fs.map fun f=>(f.offset,((P.info? f.type).map (·.size)).getD 0))[n]?=some p:=by intro n p hp;obtain⟨f,j,g1,g2,g3⟩:=yN ok fs.toList n p hp;simp at g1;simp[g1,g2,g3]
      have hf' : ∀ (parts : List (Nat × AV)) (x : List AV) (y : List AV),I4 (fun i => ((iJ T fs.toList)[i]?).bind id) x parts = some y →
          I4 (fun n=>(fs.map fun f=>(f.offset,((P.info? f.type).map (·.size)).getD 0))[n]?) x parts=some y:=by
        intro parts;induction parts with
        | nil=>intro x y hxy;simpa [I4] using hxy
        | cons p r ih =>
         intro x y hxy;obtain⟨n,v⟩:=p;simp only[I4]at hxy ⊢;cases hb:((iJ T fs.toList)[n]?).bind id with
         | none=>rw[hb]at hxy;cases hxy
         | some q =>
          rw[hb]at hxy;rw[hpl n q hb];obtain⟨off,size⟩:=q;simp only at hxy ⊢;cases hc:(v.cells.length==size&&Nat.ble (off+size) x.length&&v.ok) with
          | false=>rw[hc]at hxy;cases hxy
          | true=>rw[hc]at hxy;simp only[cond_true]at hxy ⊢;exact ih _ _ hxy
      obtain⟨vs',k1,k2⟩:=QN ps cs.toList _ _ cs' (QT h3) hp.1 hp.2 (hf' _ _ _ hf);refine aH.ret (AR.EZ k2.1 k2.2.1 k2.2.2) ?_;have hsz:∀ f∈fs.toList,(do pure (f.offset,← sizeOf f.type):Sem (Nat × Nat)).run P w=.ok (f.offset,((P.info? f.type).map (·.size)).getD 0) w:=by
       intro f hf;obtain⟨n,hn⟩:=List.mem_iff_getElem?.1 hf;have hq:∃ q,((iJ T fs.toList)[n]?).bind id=some q:=by
        have hlen:∀ (l:List Field),(iJ T l).length=l.length:=by
         intro l;induction l with
         | nil=>rfl
         | cons x r ih=>simp[iJ,ih]
        have hlt:n<(iJ T fs.toList).length:=by rw[hlen];exact(qLa.1 hn).1
        have:=(List.all_eq_true.1 hall) _ (List.getElem_mem hlt);rw[qLd hlt];exact Option.isSome_iff_exists.1 this
       obtain⟨q,hq⟩:=hq;obtain⟨f',j,g1,g2,g3⟩:=yN ok fs.toList n q hq;rw[hn]at g1;cases g1;simp[iF g2,g2]
      simp only[Instr.build,Sem.run_bind,sS h1 h2,dV hu,qRa,aer _ _ fs hsz,k1,Sem.run_pure]
    · exact aH.fail
  · rename_i zs len e hz hu;obtain⟨i,v,h1,h2,h3⟩:=ok.zero hz;have hu:=ok.und hu;split
    · rename_i n hn;obtain⟨j,g1,g2⟩:=ok.size hn;split
      · rename_i cs' hf;obtain⟨vs',k1,k2⟩:=QN ps cs.toList _ _ cs' (QT h3) hp.1 hp.2 hf;refine aH.ret (AR.EZ k2.1 k2.2.1 k2.2.2) ?_;simp[Instr.build,sS h1 h2,dV hu,iF g1,g2,k1]
      · exact aH.fail
    · exact aH.fail
  · exact aH.fail
theorem addr_add (b o n:Nat):(⟨b,o,none⟩:Addr).add n=⟨b,o+n,none⟩:=by unfold Addr.add;by_cases h:n=0<;>simp[h]
theorem EM {f:Nat→AV} {i:Int} {sem:Sem Value} (hf:∀ j:Nat,i=(j:Int)→aH P w M β h (.ret { val:=f j }) sem):∀ m j,aH P w M β h (VO f i m j) sem
 | 0,_=>aH.fail
 | m+1,j=>aH.ite (fun h=>hf j (by simpa using h)) fun _=>EM hf m (j+1)
theorem Tf (ok:dZ P T) {t:TypeId} {x i:AV} {c d:Value} (hx:AR w M β h x c) (hi:AR w M β h i d):aH P w M β h (Cm T t x i) (Instr.indexAt t c d):=by
 unfold Cm;split
 · rename_i k n;rw[hi.Au];split
   · rename_i e hu;have hu:=ok.und hu;split
     · exact aH.fail
     · rename_i m hm;obtain⟨j,g1,g2⟩:=ok.size hm;have go:∀ (b o len cap:Nat),0≤n→n<(len:Int)→(Instr.indexAt t (.slice (some ⟨b,o,none⟩) len cap) (.int k n)).run P w=.ok (.pointer (some ⟨b,o+n.toNat*m,none⟩)) w:=by intro b o len cap h0 h1;simp[Instr.indexAt,asIntOf,dV hu,h0,h1,iF g1,g2,addr_add]
       split
       · rename_i s z off len;refine aH.chk fun hz=>aH.chk fun hb=>?_;simp only[beq_iff_eq]at hz;subst hz;simp only[qBa,qDa]at hb;cases hx with
         | slice s off len a ks xs b o cap q1 q2 q3 q4 q5 =>refine aH.ret (c:=.pointer (some ⟨b,o+off*ks.length+n.toNat*ks.length,none⟩)) ?_ (go _ _ _ _ hb.1 hb.2);have:=AR.ptrA (w:=w) (M:=M) (β:=β) (h:=h) s (off+n.toNat) 0 a ks xs b o q1 (by omega) q3;rw[Nat.add_mul]at this;simpa [Nat.add_assoc] using this
         | sliceE=>omega
       · rename_i s off len;refine aH.chk fun hz=>aH.chk fun hb=>?_;simp only[beq_iff_eq]at hz;subst hz;simp only[qBa,qDa]at hb;cases hx with
         | bslice s off len cs b o cap q1 q2 q3 q4 =>refine aH.ret (c:=.pointer (some ⟨b,o+off+n.toNat*1,none⟩)) ?_ (go _ _ _ _ hb.1 hb.2);have:=AR.ptrB (w:=w) (M:=M) (β:=β) (h:=h) s (off+n.toNat) cs b o q1 q3;simpa [Nat.add_assoc] using this
         | bsliceE=>omega
       · rename_i a ks xs;refine aH.chk fun hz=>aH.chk fun hb=>?_;simp only[beq_iff_eq]at hz;subst hz;simp only[qBa,qDa]at hb;cases hx with
         | p _ _ hx =>
         cases hx with
         | list _ _ _ b o cap f q1 q2 q3 q4 q5 =>
          have hlt:n.toNat<xs.length:=by omega
          have hget:xs[n.toNat]?=some (xs.getD n.toNat .nil):=by simp[hlt]
          refine aH.ret (c:=.pointer (some ⟨b,o+n.toNat*ks.length,none⟩)) ?_ (go _ _ _ _ hb.1 hb.2);exact .pq a ks _ 0 b (o+n.toNat*ks.length) (f n.toNat) q1 (q5 _ (qLe hget)) (fun j c hj=>q3 _ _ j c hget hj) (fun j c hj=>q4 _ _ j c hget hj)
         | vZ=>simp at hb;omega
       · rename_i a ks xs;refine aH.chk fun hz=>aH.chk fun hb=>?_;simp only[beq_iff_eq]at hz;subst hz;simp only[qBa,qDa]at hb;cases hx with
         | p _ _ hx =>
         cases hx with
         | full _ _ _ b o f q1 q3 q4 q5 =>
          have hlt:n.toNat<xs.length:=by omega
          have hget:xs[n.toNat]?=some (xs.getD n.toNat .nil):=by simp[hlt]
          refine aH.ret (c:=.pointer (some ⟨b,o+n.toNat*ks.length,none⟩)) ?_ (go _ _ _ _ hb.1 hb.2);exact .pq a ks _ 0 b (o+n.toNat*ks.length) (f n.toNat) q1 (q5 _ (qLe hget)) (fun j c hj=>q3 _ _ j c hget hj) (fun j c hj=>q4 _ _ j c hget hj)
         | NR=>simp at hb;omega
       · exact aH.fail
   · rename_i len e hu;have hu:=ok.und hu;split
     · rename_i s idx off m hm;obtain⟨j,g1,g2⟩:=ok.size hm;refine aH.chk fun hb=>?_;simp only[qBa,qDa]at hb;cases hx with
       | ptrB _ _ cs b o q1 q2 =>
        have one:∀ q:Nat,n=(q:Int)→aH P w M β h (.ret { val:=.ptr s 0 (off+q*m) }) (Instr.indexAt t (.pointer (some ⟨b,o+off,none⟩)) (.int k n)):=by
         intro q hq;subst hq;refine aH.ret (c:=.pointer (some ⟨b,o+off+q*m,none⟩)) ?_ ?_
         · rw[Nat.add_assoc];exact .ptrB s _ cs b o q1 q2
         · simp[Instr.indexAt,asIntOf,dV hu,hb,Instr.sureAddr,iF g1,g2,addr_add];intro hle;omega
        cases Nat.ble len 8 with
        | true=>exact EM one _ _
        | false=>exact one n.toNat (by omega)
       | ptrA _ _ _ a ks xs b o q1 q2 q3 =>
        have one:∀ q:Nat,n=(q:Int)→aH P w M β h (.ret { val:=.ptr s idx (off+q*m) }) (Instr.indexAt t (.pointer (some ⟨b,o+idx*ks.length+off,none⟩)) (.int k n)):=by
         intro q hq;subst hq;refine aH.ret (c:=.pointer (some ⟨b,o+idx*ks.length+off+q*m,none⟩)) ?_ ?_
         · rw[Nat.add_assoc];exact .ptrA s idx _ a ks xs b o q1 q2 q3
         · simp[Instr.indexAt,asIntOf,dV hu,hb,Instr.sureAddr,iF g1,g2,addr_add];intro hle;omega
        cases Nat.ble len 8 with
        | true=>exact EM one _ _
        | false=>exact one n.toNat (by omega)
     · rename_i a ks y off m hm;obtain⟨j,g1,g2⟩:=ok.size hm;refine aH.chk fun hb=>?_;simp only[qBa,qDa]at hb;cases hx with
       | pq _ _ _ _ b o f q1 q2 q3 q4 =>
        refine aH.ret (c:=.pointer (some ⟨b,o+off+n.toNat*m,none⟩)) ?_ ?_
        · rw[Nat.add_assoc];exact .pq a ks y _ b o f q1 q2 q3 q4
        · simp[Instr.indexAt,asIntOf,dV hu,hb,Instr.sureAddr,iF g1,g2,addr_add]
     · exact aH.fail
   · exact aH.fail
 · exact aH.fail
end
end Go.Skm
