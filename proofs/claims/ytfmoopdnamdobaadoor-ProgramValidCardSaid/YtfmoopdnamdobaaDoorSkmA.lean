import Derived.Orders
import Derived.WalkKit
namespace Go.Skm
theorem qLa.{u} {α:Type u}{i:Nat}{a:α}{l:List α}:l[i]?=some a↔∃h:i<l.length,l[i]=a:=List.getElem?_eq_some_iff 
theorem qAa.{u} {α:Type u}{i:Nat}{b:α}{xs:Array α}:xs[i]?=some b↔∃h:i<xs.size,xs[i]=b:=Array.getElem?_eq_some_iff 
theorem qBa (a b:Bool):((a&&b)=true)=(a=true∧b=true):=Bool.and_eq_true a b
theorem qLb.{u} {α:Type u}{l:List α}{i:Nat}{a:α}:l.getD i a=l[i]?.getD a:=List.getD_eq_getElem?_getD 
theorem qAb.{u} {α:Type u}{xs:Array α}{i:Nat}{d:α}:xs.getD i d=xs[i]?.getD d:=Array.getD_eq_getD_getElem? 
theorem qLc.{u} {α:Type u}{i:Nat}{l:List α}(h:i<l.length):l.drop i=l[i]::l.drop (i+1):=List.drop_eq_getElem_cons h
theorem qLd.{u} {α:Type u}{l:List α}{i:Nat}(h:i<l.length):l[i]?=some l[i]:=List.getElem?_eq_getElem h
theorem qRa {α β:Type}(a:α)(w:Go.World)(f:α→Go.World→Go.Result β):(Go.Result.ok a w).andThen f=f a w:=Go.Result.andThen_ok a w f
theorem qOa.{u} {α:Type u}(a b:α):(some a=some b)=(a=b):=Option.some.injEq a b
theorem qAd.{u} {α:Type u}{xs:Array α}{i:Nat}(h:i<xs.size):xs[i]?=some xs[i]:=Array.getElem?_eq_getElem h
theorem qAe.{u} {α:Type u}{xs:Array α}{i j:Nat}(h:i≠j){a:α}:(xs.setIfInBounds i a)[j]?=xs[j]?:=Array.getElem?_setIfInBounds_ne h
theorem qLe.{u} {α:Type u}{l:List α}{i:Nat}{a:α}(h:l[i]?=some a):a∈l:=List.mem_of_getElem? h
theorem qBb (b:Bool):((!b)=true)=(b=false):=Bool.not_eq_true' b
theorem qDa {p:Prop}[Decidable p]:(decide p=true)=p:=decide_eq_true_eq 
inductive Kd where
 | int (k:IntKind)
 | bool
 | str
 | slice (a:Bool) (ks:List Kd)
 | other
 deriving Inhabited
mutual
def Kd.beq:Kd→Kd→Bool
 | .int j,.int k=>j==k
 | .bool,.bool=>true
 | .str,.str=>true
 | .slice a ks,.slice b ls=>a==b&&Kd.xB ks ls
 | .other,.other=>true
 | _,_=>false
def Kd.xB:List Kd→List Kd→Bool
 | [],[]=>true
 | k::ks,l::ls=>Kd.beq k l&&Kd.xB ks ls
 | _,_=>false
end
inductive PV where
 | bool (b:Bool)
 | int (k:IntKind) (n:Int)
 | str (s:ByteArray)
 | agg (cs:List PV)
 | list (a:Bool) (ks:List Kd) (xs:List PV)
 | full (a:Bool) (ks:List Kd) (xs:List PV)
 | nil
 | fn (f:Nat) (caps:List PV)
 | ref (cs:List PV)
 | yQ
 | nH
 | ifc
 | Ap
 | Es (ks vs:List PV)
 | Ho
 deriving Inhabited
def PV.cells:PV→List PV
 | .agg cs=>cs
 | v=>[v]
def PV.cell:PV→Nat→PV
 | .agg cs,j=>cs.getD j .nil
 | v,_=>v
def PV.wJ:PV→List PV
 | .Es ks _=>ks
 | _=>[]
def PV.wK:PV→List PV
 | .Es _ vs=>vs
 | _=>[]
def PV.isMap:PV→Bool
 | .Es ks vs=>Nat.beq ks.length vs.length
 | .Ho=>true
 | _=>false
def PV.toInt:PV→Int
 | .int _ n=>n
 | _=>0
def PV.toBool:PV→Bool
 | .bool b=>b
 | _=>false
def PV.toStr:PV→ByteArray
 | .str s=>s
 | _=>ByteArray.empty
def PV.toList:PV→List PV
 | .list _ _ xs=>xs
 | .full _ _ xs=>xs
 | _=>[]
def PV.cap:PV→Nat→PV
 | .fn _ cs,j=>cs.getD j .nil
 | _,_=>.nil
def PV.lZ:PV→Nat→PV
 | .ref cs,j=>cs.getD j .nil
 | v,_=>v
def PV.isF:PV→Bool
 | .fn _ _=>true
 | .nH=>true
 | _=>false
def PV.Bq:PV→Bool
 | .nH=>true
 | _=>false
def PV.isI:PV→Bool
 | .ifc=>true
 | .Ap=>true
 | _=>false
def PV.KJ:PV→Bool
 | .Ap=>true
 | _=>false
def eta:Kd→PV→PV
 | .int k,v=>.int k v.toInt
 | .bool,v=>.bool v.toBool
 | .str,v=>.str v.toStr
 | .slice a ks,v=>.list a ks v.toList
 | .other,v=>v
def dY:List Kd→PV→Nat→List PV
 | [],_,_=>[]
 | k::ks,x,j=>eta k (x.cell j)::dY ks x (j+1)
def kindOk:Kd→PV→Bool
 | .int j,.int k _=>j==k
 | .bool,.bool _=>true
 | .str,.str _=>true
 | .slice a ks,.list b ls _=>a==b&&Kd.xB ks ls
 | .slice _ _,.nil=>true
 | .other,.agg _=>false
 | .other,_=>true
 | _,_=>false
def bC:List Kd→List PV→Bool
 | [],[]=>true
 | k::ks,v::vs=>kindOk k v&&bC ks vs
 | _,_=>false
def xC:List Kd→PV→Nat→List PV
 | [],_,_=>[]
 | k::ks,x,j=>eta k (x.lZ j)::xC ks x (j+1)
def Qa:Bool × List Kd→PV→PV
 | (true,ks),v=>.ref (xC ks v 0)
 | (false,[k]),v=>eta k v
 | _,v=>v
def kY:List (Bool × List Kd)→PV→Nat→List PV
 | [],_,_=>[]
 | s::r,x,j=>Qa s (x.cap j)::kY r x (j+1)
def SB:Bool × List Kd→PV→Bool
 | (true,ks),.ref cs=>bC ks cs
 | (false,[k]),v=>kindOk k v
 | _,_=>false
def zI:List (Bool × List Kd)→List PV→Bool
 | [],[]=>true
 | s::r,v::vs=>SB s v&&zI r vs
 | _,_=>false
def PV.Qc:PV→Bool
 | .agg _=>false
 | _=>true
def au:Bool→List Kd→PV→Bool
 | true,ks,.agg cs=>bC ks cs
 | true,_,_=>false
 | false,[k],v=>kindOk k v
 | false,_,_=>false
inductive AV where
 | undef
 | p (v:PV)
 | slice (s z off len:Nat)
 | bslice (s off len:Nat)
 | ptr (s idx off:Nat)
 | pI (a:Bool) (ks:List Kd) (x:PV) (off:Nat)
 | fn (f:Nat) (caps:List AV)
 | agg (cs:List AV)
 | nJ (vs:List AV)
 | fresh (a:Bool) (ks:List Kd) (xs:List PV)
 | zq
 | mref (s:Nat)
 deriving Inhabited
inductive aJ where
 | box (cs:List AV)
 | arr (a:Bool) (ks:List Kd) (xs:List PV)
 | log (on:Bool) (xs:List PV)
 | tb (t:TypeId) (c0 c1:AV)
 | mp (t:TypeId) (es:List (PV × PV))
 | br (e:TypeId) (xs:List PV)
 deriving Inhabited
abbrev Heap:=List (Nat × aJ)
structure St where
 env:List AV
 heap:Heap
inductive Ex where
 | normal
 | exit (id:Nat)
 | ret
structure Eff where
 val:AV
 mD:List (Nat × aJ):=[]
 new:List Nat:=[]
 cut:List Nat:=[]
 xE:List Nat:=[]
def look:Heap→Nat→Option aJ
 | [],_=>none
 | (k,b)::h,s=>bif k==s then some b else look h s
def put:Heap→Nat→aJ→Heap
 | [],s,b=>[(s,b)]
 | (k,c)::h,s,b=>bif k==s then(s,b)::h else(k,c)::put h s b
def drop1:Heap→Nat→Heap
 | [],_=>[]
 | (k,c)::h,s=>bif k==s then drop1 h s else(k,c)::drop1 h s
def dZ:Heap→List (Nat × aJ)→Heap
 | h,[]=>h
 | h,(s,b)::r=>dZ (put h s b) r
def lS:Heap→List Nat→Heap
 | h,[]=>h
 | h,s::r=>lS (drop1 h s) r
def dR:Nat→List Nat→Bool
 | _,[]=>false
 | x,y::r=>bif x==y then true else dR x r
mutual
def AV.refers (ss:List Nat):AV→Bool
 | .slice s _ _ _=>dR s ss
 | .bslice s _ _=>dR s ss
 | .ptr s _ _=>dR s ss
 | .mref s=>dR s ss
 | .fn _ cs=>AV.fK ss cs
 | .agg cs=>AV.fK ss cs
 | .nJ cs=>AV.fK ss cs
 | _=>false
def AV.fK (ss:List Nat):List AV→Bool
 | []=>false
 | v::r=>AV.refers ss v||AV.fK ss r
end
def AV.kill (ss:List Nat) (v:AV):AV:=bif AV.refers ss v then .undef else v
def fU (ss:List Nat):List AV→List AV
 | []=>[]
 | v::r=>AV.kill ss v::fU ss r
def aJ.kill (ss:List Nat):aJ→aJ
 | .box cs=>.box (fU ss cs)
 | .tb t c0 c1=>.tb t (AV.kill ss c0) (AV.kill ss c1)
 | b=>b
def fE (ss:List Nat):Heap→Heap
 | []=>[]
 | (k,b)::h=>(k,b.kill ss)::fE ss h
def St.kill (ss:List Nat) (st:St):St :=
 match ss with
 | []=>st
 | _=>{ env:=fU ss st.env,heap:=fE ss st.heap }
def setEnv (env:List AV) (d:Option Nat) (v:AV):List AV :=
 match d with
 | some d=>env.set d v
 | none=>env
def St.strike (ss:List Nat) (st:St):St :=
 match ss with
 | []=>st
 | ss=>{ env:=fU ss st.env,heap:=lS (fE ss st.heap) ss }
def present (h:Heap):List Nat→List Nat
 | []=>[]
 | s::r=>match look h s with
  | some _=>s::present h r
  | none=>present h r
def St.apply (st:St) (d:Option Nat) (e:Eff):St :=
 let st1:=(st.strike (present st.heap e.new++e.xE)).kill e.cut
 { env:=setEnv st1.env d e.val,heap:=dZ st1.heap e.mD }
def xG (s d x:Nat):Nat:=bif x==s then d else x
mutual
def AV.ren (s d:Nat):AV→AV
 | .slice x z o l=>.slice (xG s d x) z o l
 | .bslice x o l=>.bslice (xG s d x) o l
 | .ptr x i o=>.ptr (xG s d x) i o
 | .mref x=>.mref (xG s d x)
 | .fn f cs=>.fn f (AV.DC s d cs)
 | .agg cs=>.agg (AV.DC s d cs)
 | .nJ cs=>.nJ (AV.DC s d cs)
 | v=>v
def AV.DC (s d:Nat):List AV→List AV
 | []=>[]
 | v::r=>AV.ren s d v::AV.DC s d r
end
def aJ.ren (s d:Nat):aJ→aJ
 | .box cs=>.box (AV.DC s d cs)
 | .tb t c0 c1=>.tb t (AV.ren s d c0) (AV.ren s d c1)
 | b=>b
def oz (s d:Nat):Heap→Heap
 | []=>[]
 | (k,b)::h=>(xG s d k,b.ren s d)::oz s d h
def St.xH (st:St) (s d:Nat):St :=
 let st1:=st.strike [d]
 { env:=AV.DC s d st1.env,heap:=oz s d st1.heap }
def qO (live:List Nat):Nat→List AV→List AV
 | _,[]=>[]
 | i,v::r=>(bif dR i live then v else .undef)::qO live (i+1) r
def Hq (sites:List Nat):Heap→List Nat
 | []=>[]
 | (k,_)::h=>bif dR k sites then Hq sites h else k::Hq sites h
def St.forget (st:St) (live sites:List Nat):St :=
 let st1:St:={ st with env:=qO live 0 st.env }
 st1.strike (Hq sites st1.heap)
inductive dO where
 | deep
 | fresh
 | alias (j:Nat)
 | func (g:Nat) (ss:List (Bool × List Kd))
 | wP (g:Nat) (ss:List (Bool × List Kd))
 | Js
 | DF
 | Bv
 deriving Inhabited
inductive Prim where
 | none
 | aa5
 | ab3
 | str
 | RU (g:List PV→List PV→ByteArray)
 deriving Inhabited
def Prim.is:Prim→Bool
 | .none=>false
 | _=>true
def Prim.writes:Prim→Bool
 | .aa5=>true
 | .ab3=>true
 | .RU _=>true
 | _=>false
structure Bz where
 DR:Bool:=false
 shares:Bool:=false
 zJ:Bool:=false
 rets:List dO:=[]
 nvars:Nat:=0
 yk:List (Bool × List Kd):=[]
 ys:List Nat:=[]
 cuts:List (Nat × List Nat × List Nat):=[]
 alts:List (Nat × List (Nat × List (Nat × List (Bool × List Kd)))):=[]
 frzs:List Nat:=[]
 Bd:Prim:=.none
 Hr:List TypeId:=[]
 KL:TypeId:=0
 homes:List Nat:=[]
 quiet:Bool:=false
 fhomes:List Nat:=[]
 vcall:Bool:=false
 vkeep:Bool:=false
 Zl:TypeId:=0
 deriving Inhabited
structure TI where
 desc:TypeDesc
 size:Nat
 bytes:Nat
 agg:Bool
 sh:Bool × List Kd
 zero:Option PV
 plain:Bool
structure FI where
 fn:Func
 cfg:Bz
 hides:List (Nat × List (List Nat)):=[]
structure Tab where
 types:List (Nat × TI)
 funcs:List (Nat × FI)
 strict:Bool:=false
 owns:List (Nat × Nat):=[]
 calcs:List Nat:=[]
 fulls:List Nat:=[]
 glob:Bool→World→Prop:=fun _ _=>True
def bI {β:Type}:List (Nat × β)→Nat→Option β
 | [],_=>none
 | (k,x)::r,s=>bif k==s then some x else bI r s
def Qd:Value→Option PV
 | .bool b=>some (.bool b)
 | .int k n=>some (.int k n)
 | .string s=>some (.str s)
 | .slice none 0 0=>some .nil
 | .pointer none=>some .yQ
 | .nilFunc=>some .nH
 | .nilIface=>some .Ap
 | .map none=>some .Ho
 | _=>none
def yV:List Value→Option (List PV)
 | []=>some []
 | v::r=>match Qd v,yV r with
  | some x,some xs=>some (x::xs)
  | _,_=>none
def ofValue:Value→Option PV
 | .agg cs=>(yV cs.toList).map .agg
 | v=>Qd v
section
variable (P:Program)
def tC (t:TypeId):Bool :=
 match P.underlying t with
 | some (.struct _)=>true
 | some (.array _ _)=>true
 | _=>false
def bg:Nat→TypeId→Bool × List Kd
 | 0,_=>(false,[.other])
 | n+1,t =>
  match P.underlying t with
  | some (.int k)=>(false,[.int k])
  | some .bool=>(false,[.bool])
  | some .string=>(false,[.str])
  | some (.slice e)=>(false,[.slice (bg n e).1 (bg n e).2])
  | some (.struct fs)=>(true,fs.toList.flatMap fun f=>(bg n f.type).2)
  | some (.array len e)=>(true,(List.replicate len (bg n e).2).flatten)
  | _=>(false,[.other])
def JE (sz:TypeId→Option Nat) (g:TypeId→Bool):Nat→List Field→Bool
 | _,[]=>true
 | o,f::r=>match sz f.type with
  | some n => f.offset == o && (f.name != "_" && (g f.type && JE sz g (o + n) r))
  | none=>false
def BA:Nat→TypeId→Bool
 | 0,_=>false
 | n+1,t=>match P.underlying t with
  | some (.int _)=>true
  | some .bool=>true
  | some .string=>true
  | some (.struct fs)=>!(P.stoodInHeld t)&&JE (fun t=>(P.info? t).map (·.size)) (BA n) 0 fs.toList
  | _=>false
def KN (t:TypeId):Bool :=
 match P.underlying t with
 | some (.struct _)=>BA P 4 t&&!(P.eqGuardType P.depth t)
 | _=>false
def lM (t:TypeId):Option TI :=
 match P.underlying t,P.info? t with
 | some d,some i=>some { desc:=d,size:=i.size,bytes:=i.bytes,agg:=tC P t,sh:=bg P 8 t,zero:=i.zero.bind ofValue,plain:=KN P t }
 | _,_=>none
end
section
variable (T:Tab)
def und (t:TypeId):Option TypeDesc:=(bI T.types t).map (·.desc)
def ni (t:TypeId):Option Nat:=(bI T.types t).map (·.size)
def FT (t:TypeId):Option Nat:=(bI T.types t).map (·.bytes)
def Zm (t:TypeId):Bool:=match bI T.types t with | some i=>i.agg | none=>false
def ay (t:TypeId):Bool × List Kd:=match bI T.types t with | some i=>i.sh | none=>(false,[])
def DU (t:TypeId):Option PV:=(bI T.types t).bind (·.zero)
def BD (t:TypeId):Bool:=match bI T.types t with | some i=>i.plain | none=>false
def iY (f:Nat):Bz:=match bI T.funcs f with | some i=>i.cfg | none=>{}
def aP (env:List AV):Operand→AV
 | .tmp t=>env.getD t .undef
 | .const v=>match ofValue v with
  | some x=>.p x
  | none=>.undef
 | .func f=>.p (.fn f [])
 | .global _=>.undef
def jK (env:List AV):List Operand→List AV
 | []=>[]
 | x::r=>aP env x::jK env r
def Aq:List AV→Option (List PV)
 | []=>some []
 | .p v::r=>match Aq r with
  | some vs=>some (v::vs)
  | none=>none
 | _=>none
def Ar (cs:List AV):AV :=
 match Aq cs with
 | some vs=>.p (.agg vs)
 | none=>.agg cs
def AV.CW:List AV→Bool
 | []=>true
 | .undef::_=>false
 | .zq::_=>false
 | .nJ _::_=>false
 | .fresh _ _ _::_=>false
 | .agg _::_=>false
 | _::r=>AV.CW r
def AV.ok:AV→Bool
 | .undef=>false
 | .zq=>false
 | .nJ _=>false
 | .fresh _ _ _=>false
 | .agg cs=>AV.CW cs
 | _=>true
def AV.cells:AV→List AV
 | .p (.agg cs)=>cs.map .p
 | .agg cs=>cs
 | v=>[v]
def UM:PV→Kd
 | .int j _=>.int j
 | .bool _=>.bool
 | .str _=>.str
 | _=>.other
def FU (cs:List AV):Option (Kd × List PV) :=
 match Aq cs with
 | some (v::vs)=>bif (v::vs).all (kindOk (UM v)) then some (UM v,v::vs) else none
 | _=>none
def IJ (h:Nat→Option aJ):AV→Option (PV × List Nat)
 | .p v=>some (v,[])
 | .slice s _ off len=>match h s with
  | some (.arr a ks xs)=>some (.list a ks ((xs.drop off).take len),[s])
  | _=>none
 | .bslice s off len=>match h s with
  | some (.box cs)=>match FU cs with
   | some (kd,vs)=>some (.list false [kd] ((vs.drop off).take len),[s])
   | none=>none
  | _=>none
 | .mref s=>match h s with
  | some (.mp _ es)=>some (.Es (es.map (·.1)) (es.map (·.2)),[s])
  | _=>none
 | _=>none
def vC (h:Nat→Option aJ):List AV→Option (List PV × List Nat)
 | []=>some ([],[])
 | v::r=>match IJ h v,vC h r with
  | some (x,s),some (xs,ss)=>some (x::xs,s++ss)
  | _,_=>none
def FV (h:Nat→Option aJ):AV→Option (PV × List Nat)
 | .ptr s 0 0=>match h s with
  | some (.box cs)=>match vC h cs with
   | some (vs,ss)=>some (.ref vs,s::ss)
   | none=>none
  | _=>none
 | v=>IJ h v
def BF (h:Nat→Option aJ):List AV→Option (List PV × List Nat)
 | []=>some ([],[])
 | v::r=>match FV h v,BF h r with
  | some (x,s),some (xs,ss)=>some (x::xs,s++ss)
  | _,_=>none
def deep (h:Nat→Option aJ):AV→Option (PV × List Nat)
 | .agg cs=>match vC h cs with
  | some (vs,ss)=>some (.agg vs,ss)
  | none=>none
 | .fn f cs=>match BF h cs with
  | some (vs,ss)=>some (.fn f vs,ss)
  | none=>none
 | v=>FV h v
def DV (h:Nat→Option aJ):List AV→Option (List PV × List Nat)
 | []=>some ([],[])
 | v::r=>match deep h v,DV h r with
  | some (x,s),some (xs,ss)=>some (x::xs,s++ss)
  | _,_=>none
def SC (h:Nat→Option aJ):AV→Option (Option (Bool × List Kd) × Nat × List PV)
 | .slice s _ off len=>match h s with
  | some (.arr a ks xs)=>some (some (a,ks),len,(xs.drop off).take len)
  | _=>none
 | .bslice s off len=>match h s with
  | some (.box cs)=>match FU cs with
   | some (kd,vs)=>some (some (false,[kd]),len,(vs.drop off).take len)
   | none=>none
  | _=>none
 | .p (.list a ks xs)=>some (some (a,ks),xs.length,xs)
 | .p (.full a ks xs)=>some (some (a,ks),xs.length,xs)
 | .p .nil=>some (none,0,[])
 | .p (.str s)=>some (some (false,[.int .u8]),s.size,s.data.toList.map fun b=>.int .u8 b.toNat)
 | _=>none
def BG (o:Option (Bool × List Kd)) (a:Bool) (ks:List Kd):Bool :=
 match o with
 | none=>true
 | some (b,ls)=>a==b&&Kd.xB ks ls
def UN (op:BinOp) (k:IntKind) (x y:Int):Option PV :=
 match op with
 | .add=>some (.int k (k.wrap (x+y)))
 | .sub=>some (.int k (k.wrap (x-y)))
 | .mul=>some (.int k (k.wrap (x*y)))
 | .and=>some (.int k (k.wrap (BitVec.ofInt k.bits x &&& BitVec.ofInt k.bits y).toNat))
 | .or=>some (.int k (k.wrap (BitVec.ofInt k.bits x ||| BitVec.ofInt k.bits y).toNat))
 | .xor=>some (.int k (k.wrap (BitVec.ofInt k.bits x ^^^ BitVec.ofInt k.bits y).toNat))
 | .andNot=>some (.int k (k.wrap (BitVec.ofInt k.bits x &&& ~~~(BitVec.ofInt k.bits y)).toNat))
 | .eql=>some (.bool (x==y))
 | .neq=>some (.bool (x != y))
 | .lss=>some (.bool (decide (x<y)))
 | .leq=>some (.bool (decide (x≤y)))
 | .gtr=>some (.bool (decide (x > y)))
 | .geq=>some (.bool (decide (x ≥ y)))
 | _=>none
def zK:List UInt8→List UInt8→Bool
 | _,[]=>false
 | [],_::_=>true
 | a::x,b::y=>decide (a<b)||(a==b&&zK x y)
def UO (op:BinOp) (x y:ByteArray):Option PV :=
 match op with
 | .eql=>some (.bool (x.toList==y.toList))
 | .neq=>some (.bool !(x.toList==y.toList))
 | .lss=>some (.bool (zK x.toList y.toList))
 | .leq=>some (.bool (zK x.toList y.toList||x.toList==y.toList))
 | .gtr=>some (.bool !(zK x.toList y.toList||x.toList==y.toList))
 | .geq=>some (.bool !(zK x.toList y.toList))
 | _=>none
def vw (d:Option TypeDesc):PV→PV→Option Bool
 | .int j x,.int k y=>match d with
  | some (.int _)=>bif j==k then some (x==y) else none
  | _=>none
 | .bool x,.bool y=>match d with
  | some .bool=>some (x==y)
  | _=>none
 | .str x,.str y=>match d with
  | some .string=>some (x==y)
  | _=>none
 | _,_=>none
def NH (sz:TypeId→Option Nat) (g:TypeId→List PV→List PV→Option Bool):List Field→List PV→List PV→Option Bool
 | [],[],[]=>some true
 | f::fs,xs,ys=>match sz f.type with
  | some n=>bif Nat.ble n xs.length&&Nat.ble n ys.length then(match g f.type (xs.take n) (ys.take n),NH sz g fs (xs.drop n) (ys.drop n) with
   | some a,some b=>some (a&&b)
   | _,_=>none) else none
  | none=>none
 | _,_,_=>none
def OG:Nat→TypeId→List PV→List PV→Option Bool
 | 0,_,_,_=>none
 | n+1,t,xs,ys=>match und T t with
  | some (.struct fs)=>NH (ni T) (OG n) fs.toList xs ys
  | d=>match xs,ys with
   | [x],[y]=>vw d x y
   | _,_=>none
def rZ:Nat→List Field→Bool
 | _,[]=>true
 | o, f :: r => (f.offset == o && (f.name != "_" && Nat.beq ((ni T f.type).getD 0) 1)) && ((match und T f.type with
  | some (.int _)=>true
  | _=>false)&&rZ (o+1) r)
def jU (t:TypeId):Bool :=
 BD T t&&match und T t with
 | some (.struct fs)=>rZ T 0 fs.toList
 | _=>false
def nFields (t:TypeId):Nat:=match und T t with
 | some (.struct fs)=>fs.size
 | _=>0
def PV.Zn:PV→Option (List PV)
 | .agg cs=>some cs
 | _=>none
def dX (t:TypeId) (k:List PV):List (PV × PV)→Option (Option Nat)
 | []=>some none
 | p::r=>match p.1.Zn with
  | some c=>match OG T 4 t k c with
   | some true=>some (some 0)
   | some false=>(dX t k r).map fun i=>i.map (·+1)
   | none=>none
  | none=>none
def dw (es:List (PV × PV)) (k v:PV):Option Nat→List (PV × PV)
 | some i=>es.set i ((es.getD i (.nil,.nil)).1,v)
 | none=>es++[(k,v)]
inductive DT where
 | fail
 | ret (e:Eff)
 | ite (c:Bool) (x y:DT)
 | call (o:Option (List AV × List aJ)) (f:List AV × List aJ→DT)
def DT.run {α:Type} (k:Eff→Option α):DT→Option α
 | .fail=>none
 | .ret e=>k e
 | .ite c x y=>cond c (DT.run k x) (DT.run k y)
 | .call o f=>match o with
  | some r=>DT.run k (f r)
  | none=>none
abbrev eY (a b:Int):Bool:=decide (a<b)
abbrev leI (a b:Int):Bool:=decide (a≤b)
abbrev AU (a b:Int):Bool:=decide (a > b)
abbrev Nz (a b:Int):Bool:=decide (a ≥ b)
abbrev ltN (a b:Nat):Bool:=decide (a<b)
abbrev Ny (a b:Nat):Bool:=decide (a≤b)
def chk (c:Bool) (x:DT):DT:=.ite c x .fail
def isLit:Operand→Bool
 | .const _=>true
 | _=>false
def yX (op:BinOp) (t:TypeId) (x y:AV):DT :=
 match x,y with
 | .p (.int j a),.p (.int i b) =>
  match op with
  | .shl=>chk (!(decide (b<0)))<|.ret { val:=.p (.int j (j.wrap (a*2 ^ (min b.toNat j.bits)))) }
  | .shr=>chk (!(decide (b<0)))<|.ret { val:=.p (.int j (a.fdiv (2 ^ (min b.toNat j.bits)))) }
  | .quo=>chk (j==i)<|chk (!(decide (b=0)))<|.ret { val:=.p (.int j (j.wrap (a.tdiv b))) }
  | .rem=>chk (j==i)<|chk (!(decide (b=0)))<|.ret { val:=.p (.int j (a.tmod b)) }
  | op=>chk (j==i)<|match UN op j a b with
   | some v=>.ret { val:=.p v }
   | none=>.fail
 | .p (.str a),.p (.str b) =>
  match op with
  | .add=>chk (decide (a.size+b.size≤4611686018427387904))<|.ret { val:=.p (.str (a++b)) }
  | op=>match UO op a b with
   | some v=>.ret { val:=.p v }
   | none=>.fail
 | .p (.bool a),.p (.bool b) =>
  match op,und T t with
  | .eql,some .bool=>.ret { val:=.p (.bool (a==b)) }
  | .neq,some .bool=>.ret { val:=.p (.bool (!(a==b))) }
  | _,_=>.fail
 | .p (.agg a),.p (.agg b) =>
  chk (BD T t) <|
   match und T t with
   | some (.struct _) =>
    match op,OG T 4 t a b with
    | .eql,some r=>.ret { val:=.p (.bool r) }
    | .neq,some r=>.ret { val:=.p (.bool (!r)) }
    | _,_=>.fail
   | _=>.fail
 | _,_=>.fail
def zL (op:BinOp) (t:TypeId) (kc:Bool) (x y:AV):DT :=
 match y,x with
 | .p .nH,.p x =>
  match op,und T t with
  | .eql,some (.func _ _ _)=>chk x.isF<|.ret { val:=.p (.bool x.Bq) }
  | .neq,some (.func _ _ _)=>chk x.isF<|.ret { val:=.p (.bool (!x.Bq)) }
  | _,_=>.fail
 | .p .Ap,.p x =>
  match op,und T t with
  | .eql,some (.interface _)=>chk (kc&&x.isI)<|.ret { val:=.p (.bool x.KJ) }
  | .neq,some (.interface _)=>chk (kc&&x.isI)<|.ret { val:=.p (.bool (!x.KJ)) }
  | _,_=>.fail
 | .p .nil,.p (.list _ _ xs) =>
  match op,und T t with
  | .eql,some (.slice _)=>chk (Nat.blt 0 xs.length)<|.ret { val:=.p (.bool false) }
  | .neq,some (.slice _)=>chk (Nat.blt 0 xs.length)<|.ret { val:=.p (.bool true) }
  | _,_=>.fail
 | _,_=>.fail
def FX (op:BinOp) (t:TypeId) (kc:Bool) (x y:AV):DT :=
 match y with
 | .p .nH=>zL T op t kc x y
 | .p .Ap=>zL T op t kc x y
 | .p .nil=>zL T op t kc x y
 | _=>yX T op t x y
def KO (op:UnOp) (x:AV):DT :=
 match op,x with
 | .neg,.p (.int j n)=>.ret { val:=.p (.int j (j.wrap (0-n))) }
 | .not,.p (.bool b)=>.ret { val:=.p (.bool (!b)) }
 | _,_=>.fail
def KQ (c a b:AV):DT :=
 match c with
 | .p (.bool c) =>
  match a,b with
  | .p (.bool x),.p (.bool y)=>.ret { val:=.p (.bool (cond c x y)) }
  | a,b=>.ite c (.ret { val:=a }) (.ret { val:=b })
 | _=>.fail
def ab4 (t:TypeId):PV→aJ
 | .agg [.yQ,.nil]=>.tb t (.p .yQ) (.p .nil)
 | z=>.box ((AV.p z).cells)
def Ht (d:Option Nat) (t:TypeId):DT :=
 match d,DU T t with
 | some d,some z=>.ret { val:=.ptr d 0 0,mD:=[(d,ab4 t z)],new:=[d] }
 | _,_=>.fail
def Qe (d:Option Nat) (v:AV):DT :=
 match d with
 | some d=>chk (v.ok&&!(AV.refers [d] v))<|.ret { val:=.ptr d 0 0,mD:=[(d,.box v.cells)],new:=[d] }
 | none=>.fail
def patch {β:Type} (cs:List β) (off:Nat) (vs:List β):List β:=cs.take off++vs++cs.drop (off+vs.length)
def DW (place:Nat→Option (Nat × Nat)):List AV→List (Nat × AV)→Option (List AV)
 | cs,[]=>some cs
 | cs,(i,v)::r=>match place i with
  | none=>none
  | some (off,size) =>
   bif v.cells.length==size&&Nat.ble (off+size) cs.length&&v.ok then DW place (patch cs off v.cells) r else none
def fF:List Field→List (Option (Nat × Nat))
 | []=>[]
 | f::r=>((ni T f.type).map fun n=>(f.offset,n))::fF r
def Hu (t:TypeId) (parts:List (Nat × AV)):DT :=
 match DU T t,und T t with
 | some (.agg zs),some (.struct fs) =>
  chk ((fF T fs.toList).all Option.isSome) <|
  match DW (fun i=>((fF T fs.toList)[i]?).bind id) (zs.map .p) parts with
  | some cs=>.ret { val:=Ar cs }
  | none=>.fail
 | some (.agg zs),some (.array _ e) =>
  match ni T e with
  | some n=>match DW (fun i=>some (i*n,n)) (zs.map .p) parts with
   | some cs=>.ret { val:=Ar cs }
   | none=>.fail
  | none=>.fail
 | _,_=>.fail
def OI (h:Nat→Option aJ) (a:Bool) (ks:List Kd):List PV→List Nat→List (Nat × AV)→Option (List PV × List Nat)
 | xs,ss,[]=>some (xs,ss)
 | xs,ss,(i,v)::r=>match deep h v with
  | some (x,s)=>bif au a ks x&&Nat.blt i xs.length then OI h a ks (xs.set i x) (ss++s) r else none
  | none=>none
def vF (h:Nat→Option aJ) (d:Option Nat) (t:TypeId) (len:Nat) (parts:List (Nat × AV)):DT :=
 match d,und T t with
 | some d,some (.slice e) =>
  match DU T e,ni T e with
  | some z,some n =>
   let sh:=ay T e
   chk (n==sh.2.length&&au sh.1 sh.2 z&&Nat.ble (len*n) 16777216) <|
    match OI h sh.1 sh.2 (List.replicate len z) [] parts with
    | some (xs,ss)=>.ret { val:=.slice d n 0 len,mD:=[(d,.arr sh.1 sh.2 xs)],new:=[d],xE:=ss }
    | none=>.fail
  | _,_=>.fail
 | _,_=>.fail
def xI (l:Bool) (h:Nat→Option aJ) (t:TypeId) (len:Nat) (parts:List (Nat × AV)):DT :=
 match und T t with
 | some (.slice e) =>
  match DU T e,ni T e with
  | some z,some n =>
   let sh:=ay T e
   chk (n==sh.2.length&&au sh.1 sh.2 z&&Nat.ble (len*n) 16777216) <|
    match OI h sh.1 sh.2 (List.replicate len z) [] parts with
    | some (xs,[])=>.ret { val:=.p (bif l then .list sh.1 sh.2 xs else .full sh.1 sh.2 xs) }
    | _=>.fail
  | _,_=>.fail
 | _=>.fail
def Qg (t:TypeId) (n:Nat) (a:Bool) (ks:List Kd) (x:PV) (off:Nat):Option PV :=
 bif Nat.ble (off+n) ks.length then
  bif Zm T t then(bif a then some (.agg (dY ((ks.drop off).take n) x off)) else none)
  else bif Nat.beq n 1 then(match (ks.drop off).head? with
   | some kd=>some (eta kd (x.cell off))
   | none=>none) else none
 else none
def qP (t:TypeId) (n:Nat) (cs:List AV) (off:Nat):Option AV :=
 bif Nat.ble (off+n) cs.length then
  bif Zm T t then some (Ar ((cs.drop off).take n)) else(bif Nat.beq n 1 then some (cs.getD off .undef) else none)
 else none
def BH (h:Nat→Option aJ) (t:TypeId) (ptr:AV):DT :=
 match ni T t with
 | none=>.fail
 | some n =>
  match ptr with
  | .ptr s idx off=>match h s with
   | some (.box cs)=>match qP T t n cs off with
    | some v=>.ret { val:=v }
    | none=>.fail
   | some (.arr a ks xs)=>match Qg T t n a ks (xs.getD idx .nil) off with
    | some v=>.ret { val:=.p v }
    | _=>.fail
   | _=>.fail
  | .pI a ks x off=>match Qg T t n a ks x off with
   | some v=>.ret { val:=.p v }
   | none=>.fail
  | .p (.ref cs)=>match qP T t n (cs.map .p) 0 with
   | some v=>.ret { val:=v }
   | none=>.fail
  | _=>.fail
def Hw (h:Nat→Option aJ) (t:TypeId) (ptr v:AV):DT :=
 match ni T t with
 | none=>.fail
 | some n =>
  chk (v.cells.length==n) <|
   match ptr with
   | .ptr s idx off=>match h s with
    | some (.box cs) =>
     chk (v.ok&&(Nat.beq idx 0&&Nat.ble (off+n) cs.length))<|.ret { val:=.undef,mD:=[(s,.box (patch cs off v.cells))] }
    | some (.arr a ks xs) =>
     match deep h v with
     | some (x,ss) =>
      match a with
      | true =>
       chk (bC ((ks.drop off).take n) x.cells&&(Nat.ble (off+n) ks.length&&!(dR s ss))) <|
        .ret { val:=.undef,mD:=[(s,.arr a ks (xs.set idx (.agg (patch (dY ks (xs.getD idx .nil) 0) off x.cells))))],xE:=ss }
      | false =>
       chk (au a ks x&&(Nat.beq off 0&&(Nat.beq n 1&&!(dR s ss))))<|.ret { val:=.undef,mD:=[(s,.arr a ks (xs.set idx x))],xE:=ss }
     | none=>.fail
    | _=>.fail
   | _=>.fail
def xJ (t:TypeId) (ptr:AV) (f:Nat):DT :=
 match und T t with
 | some (.struct fs) =>
  match fs[f]? with
  | some fd =>
   match ni T fd.type with
   | some (_+1) =>
    match ptr with
    | .ptr s idx off=>.ret { val:=.ptr s idx (off+fd.offset) }
    | .pI a ks x off=>.ret { val:=.pI a ks x (off+fd.offset) }
    | .p (.ref cs)=>.ret { val:=.pI true (cs.map UM) (.agg cs) fd.offset }
    | _=>.fail
   | _=>.fail
  | none=>.fail
 | _=>.fail
def Hy (t:TypeId) (x:AV) (f:Nat):DT :=
 match und T t with
 | some (.struct fs) =>
  match fs[f]? with
  | some fd =>
   match ni T fd.type,x with
   | some n,.p (.agg cs)=>match qP T fd.type n (cs.map .p) fd.offset with
    | some v=>.ret { val:=v }
    | none=>.fail
   | some n,.agg cs=>match qP T fd.type n cs fd.offset with
    | some v=>.ret { val:=v }
    | none=>.fail
   | _,_=>.fail
  | none=>.fail
 | _=>.fail
def Qh (f:Nat→AV) (i:Int):Nat→Nat→DT
 | 0,_=>.fail
 | m+1,j=>.ite (decide (i=(j:Int))) (.ret { val:=f j }) (Qh f i m (j+1))
def xK (t:TypeId) (x:AV) (i:AV):DT :=
 match i with
 | .p (.int _ i) =>
  match und T t with
  | some (.slice e) =>
   match ni T e with
   | none=>.fail
   | some n =>
   match x with
   | .slice s z off len=>chk (z==n)<|chk (decide (0≤i)&&decide (i<(len:Int)))<|.ret { val:=.ptr s (off+i.toNat) 0 }
   | .bslice s off len=>chk (n==1)<|chk (decide (0≤i)&&decide (i<(len:Int)))<|.ret { val:=.ptr s 0 (off+i.toNat) }
   | .p (.list a ks xs)=>chk (ks.length==n)<|chk (decide (0≤i)&&decide (i<(xs.length:Int)))<|.ret { val:=.pI a ks (xs.getD i.toNat .nil) 0 }
   | .p (.full a ks xs)=>chk (ks.length==n)<|chk (decide (0≤i)&&decide (i<(xs.length:Int)))<|.ret { val:=.pI a ks (xs.getD i.toNat .nil) 0 }
   | _=>.fail
  | some (.array n e) =>
   match x,ni T e with
   | .ptr s idx off,some m=>chk (decide (0≤i)&&decide (i<(n:Int)))<|bif Nat.ble n 8 then Qh (fun j=>.ptr s idx (off+j*m)) i n 0 else .ret { val:=.ptr s idx (off+i.toNat*m) }
   | .pI a ks y off,some m=>chk (decide (0≤i)&&decide (i<(n:Int)))<|.ret { val:=.pI a ks y (off+i.toNat*m) }
   | _,_=>.fail
  | _=>.fail
 | _=>.fail
def Hz (t:TypeId) (x:AV) (i:AV):DT :=
 match i with
 | .p (.int _ i) =>
  match und T t,x with
  | some .string,.p (.str s)=>chk (decide (0≤i)&&decide (i<(s.size:Int)))<|.ret { val:=.p (.int .u8 ((s.data.getD i.toNat 0).toNat:Int)) }
  | some (.array n e),.p (.agg cs) =>
   match (ay T e).2,ni T e with
   | [kd],some 1 =>
    chk (cs.all (kindOk kd)&&Nat.beq cs.length n&&!(Zm T e)) <|
     chk (decide (0≤i)&&decide (i<(n:Int)))<|.ret { val:=.p (eta kd (cs.getD i.toNat .nil)) }
   | _,some m =>
    chk (Nat.ble n 8&&((List.range n).all (fun j=>(qP T e m (cs.map .p) (j*m)).isSome))) <|
     chk (decide (0≤i)&&decide (i<(n:Int)))<|Qh (fun j=>(qP T e m (cs.map .p) (j*m)).getD .undef) i n 0
   | _,_=>.fail
  | _,_=>.fail
 | _=>.fail
def xM (d:Option Nat) (t:TypeId) (len cap:AV):DT :=
 match d,und T t,len,cap with
 | some d,some (.slice e),.p (.int _ l),.p (.int _ c) =>
  match DU T e,ni T e,FT T e with
  | some z,some n,some by_ =>
   let sh:=ay T e
   chk (n==sh.2.length&&au sh.1 sh.2 z&&Nat.ble by_ 16384) <|
    chk (decide (0≤l)&&(decide (l≤c)&&decide (c≤2147483648))) <|
     .ret { val:=.slice d n 0 l.toNat,mD:=[(d,.arr sh.1 sh.2 (List.replicate l.toNat z))],new:=[d] }
  | _,_,_=>.fail
 | _,_,_,_=>.fail
def bound (dflt:Int):Option AV→Option Int
 | none=>some dflt
 | some (.p (.int _ n))=>some n
 | _=>none
def BI (d:Option Nat) (t:TypeId) (hint:Option AV):DT :=
 match d,und T t,hint with
 | some d,some (.map _ _),none=>.ret { val:=.mref d,mD:=[(d,.mp t [])],new:=[d] }
 | _,_,_=>.fail
def PV.wO:PV→Bool
 | .int _ _=>true
 | .str _=>true
 | _=>false
def ou (t:TypeId):Bool:=match und T t with
 | some (.int _)=>true
 | some .string=>true
 | _=>false
def bK (t:TypeId) (k:PV):List (PV × PV)→Option (Option Nat)
 | []=>some none
 | p::r=>match vw (und T t) k p.1 with
  | some true=>some (some 0)
  | some false=>(bK t k r).map fun i=>i.map (·+1)
  | none=>none
def vG (h:Nat→Option aJ) (t:TypeId) (m k v:AV):DT :=
 match und T t,m,k,v with
 | some (.map kt _),.mref s,.p k,.p v=>match h s with
  | some (.mp u es) =>
   chk (ou T kt&&(v.Qc&&k.wO)) <|
   chk ((bK T kt k es).isSome)<|.ret { val:=.undef,mD:=[(s,.mp u (dw es k v ((bK T kt k es).getD none)))] }
  | _=>.fail
 | _,_,_,_=>.fail
def qQ (h:Nat→Option aJ) (t:TypeId) (m k v:AV):DT :=
 match k with
 | .p (.agg kc) =>
  match und T t,m,v with
  | some (.map kt _),.mref s,.p v=>match h s with
   | some (.mp u es) =>
    chk (jU T kt&&(v.Qc&&Nat.beq kc.length (nFields T kt))) <|
    chk ((dX T kt kc es).isSome)<|.ret { val:=.undef,mD:=[(s,.mp u (dw es (.agg kc) v ((dX T kt kc es).getD none)))] }
   | _=>.fail
  | _,_,_=>.fail
 | k=>vG T h t m k v
def gX (t:TypeId) (k:PV) (es:List (PV × PV)):Option (Option Nat) :=
 match k with
 | .agg kc=>bif jU T t&&Nat.beq kc.length (nFields T t) then dX T t kc es else none
 | k=>bif ou T t&&k.wO then bK T t k es else none
def kL (z:PV) (es:List (PV × PV)):Option Nat→PV
 | some i=>(es.getD i (.nil,.nil)).2
 | none=>z
def Qi (kt:TypeId) (kd:Kd) (z:PV) (es:List (PV × PV)) (k:PV) (ok:Bool):DT :=
 chk ((gX T kt k es).isSome) <|
  chk (kindOk kd (kL z es ((gX T kt k es).getD none))) <|
   .ret { val:=bif ok then .nJ [.p (eta kd (kL z es ((gX T kt k es).getD none))),.p (.bool ((gX T kt k es).getD none).isSome)] else .p (eta kd (kL z es ((gX T kt k es).getD none))) }
def zM (h:Nat→Option aJ) (t:TypeId) (m k:AV):DT :=
 match und T t,m,k with
 | some (.map kt et),.mref s,.p (.agg kc)=>match h s,DU T et with
  | some (.mp u es),some z =>
   chk (jU T kt&&(z.Qc&&Nat.beq kc.length (nFields T kt))) <|
   chk ((dX T kt kc es).isSome) <|
    .ret { val:=.nJ [.p (kL z es ((dX T kt kc es).getD none)),.p (.int .i64 ((((dX T kt kc es).getD none).getD es.length:Nat):Int))],mD:=[(s,.mp u (dw es (.agg kc) (kL z es ((dX T kt kc es).getD none)) ((dX T kt kc es).getD none)))] }
  | _,_=>.fail
 | _,_,_=>.fail
def vH (h:Nat→Option aJ) (m k v:AV):DT :=
 match m,k,v with
 | .mref s,.p (.int _ n),.p v=>match h s with
  | some (.mp u es)=>chk (v.Qc&&(decide (0≤n)&&decide (n.toNat<es.length)))<|.ret { val:=.undef,mD:=[(s,.mp u (es.set n.toNat ((es.getD n.toNat (.nil,.nil)).1,v)))] }
  | _=>.fail
 | _,_,_=>.fail
def Ey (h:Nat→Option aJ) (t:TypeId) (m k:AV) (ok:Bool):DT :=
 match und T t with
 | some (.map kt et) =>
  match DU T et,ay T et,k with
  | some z,(false,[kd]),.p k =>
   match m with
   | .mref s=>match h s with
    | some (.mp _ es)=>Qi T kt kd z es k ok
    | _=>.fail
   | .p v=>chk v.isMap<|Qi T kt kd z (v.wJ.zip v.wK) k ok
   | _=>.fail
  | _,_,_=>.fail
 | _=>.fail
def H6 (t:TypeId) (x:AV) (lo hi mx:Option AV):DT :=
 match und T t with
 | some .string =>
  match x,mx with
  | .p (.str s),none =>
   match bound 0 lo,bound s.size hi with
   | some l,some u=>chk (decide (0≤l)&&(decide (l≤u)&&decide (u≤(s.size:Int))))<|.ret { val:=.p (.str (s.extract l.toNat u.toNat)) }
   | _,_=>.fail
  | _,_=>.fail
 | some (.slice e) =>
  match ni T e with
  | none=>.fail
  | some n =>
  match x with
  | .slice s z off len =>
   match bound 0 lo,bound len hi,bound len mx with
   | some l,some u,some m =>
    chk (z==n)<|chk (decide (0≤l)&&(decide (l≤u)&&(decide (u≤m)&&decide (m≤(len:Int)))))<|.ret { val:=.slice s z (off+l.toNat) (u-l).toNat }
   | _,_,_=>.fail
  | .bslice s off len =>
   match bound 0 lo,bound len hi,bound len mx with
   | some l,some u,some m =>
    chk (n==1)<|chk (decide (0≤l)&&(decide (l≤u)&&(decide (u≤m)&&decide (m≤(len:Int)))))<|.ret { val:=.bslice s (off+l.toNat) (u-l).toNat }
   | _,_,_=>.fail
  | .p (.list a ks xs) =>
   match bound 0 lo,bound xs.length hi,bound xs.length mx with
   | some l,some u,some m =>
    chk (ks.length==n)<|chk (decide (0≤l)&&(decide (l≤u)&&(decide (u≤m)&&decide (m≤(xs.length:Int))))) <|
     match mx with
     | none=>.ret { val:=.p (.list a ks ((xs.drop l.toNat).take (u-l).toNat)) }
     | some _=>.ite (decide (u=m)) (.ret { val:=.p (.full a ks ((xs.drop l.toNat).take (u-l).toNat)) })
      (.ret { val:=.p (.list a ks ((xs.drop l.toNat).take (u-l).toNat)) })
   | _,_,_=>.fail
  | .p .nil =>
   match bound 0 lo,bound 0 hi,bound 0 mx with
   | some l,some u,some m=>chk (decide (l=0)&&(decide (u=0)&&decide (m=0)))<|.ret { val:=.p .nil }
   | _,_,_=>.fail
  | _=>.fail
 | _=>.fail
def BJ (x:AV) (i:Nat):DT :=
 match x with
 | .nJ vs=>match vs[i]? with
  | some v=>.ret { val:=v }
  | none=>.fail
 | _=>.fail
def adb:AV→Bool
 | .slice _ _ _ _=>true
 | .p (.list _ _ _)=>true
 | _=>false
def bytesOf (xs:List PV):ByteArray:=⟨(xs.map fun x=>UInt8.ofNat x.toInt.toNat).toArray⟩
def BK (h:Nat→Option aJ) (_d:Option Nat) (src dst:TypeId) (x:AV):DT :=
 match x with
 | .p (.int _ n)=>match und T src,und T dst with
  | some _,some (.int j)=>.ret { val:=.p (.int j (j.wrap n)) }
  | _,_=>.fail
 | x=>match und T src,und T dst with
  | some (.slice e),some .string=>match und T e,SC h x with
   | some (.int .u8),some (s2,_,ys)=>chk (BG s2 false [.int .u8]&&adb x)<|.ret { val:=.p (.str (bytesOf ys)) }
   | _,_=>.fail
  | _,_=>.fail
def zN (fn:Fn) (first:List AV) (caps:List AV):DT :=
 match fn,first with
 | .func f,[]=>match Aq caps with
  | some vs=>.ret { val:=.p (.fn f vs) }
  | none=>chk (AV.CW caps)<|.ret { val:=.fn f caps }
 | _,_=>.fail
def CX (h:Nat→Option aJ) (t:TypeId) (x:AV):DT :=
 match und T t,x with
 | some (.map _ _),.mref s=>match h s with
  | some (.mp _ es)=>.ret { val:=.p (.int .i64 es.length) }
  | _=>.fail
 | some .string,.p (.str s)=>.ret { val:=.p (.int .i64 s.size) }
 | some (.slice _),.slice _ _ _ len=>.ret { val:=.p (.int .i64 len) }
 | some (.slice _),.bslice _ _ len=>.ret { val:=.p (.int .i64 len) }
 | some (.slice _),.p (.list _ _ xs)=>.ret { val:=.p (.int .i64 xs.length) }
 | some (.slice _),.p (.full _ _ xs)=>.ret { val:=.p (.int .i64 xs.length) }
 | some (.slice _),.p .nil=>.ret { val:=.p (.int .i64 0) }
 | some (.array n _),_=>.ret { val:=.p (.int .i64 n) }
 | _,_=>.fail
def JF (h:Nat→Option aJ) (d:Nat) (sh:Bool × List Kd) (x:AV) (s2:Option (Bool × List Kd)) (m:Nat) (ys:List PV):DT :=
 chk (BG s2 sh.1 sh.2) <|
 match x with
 | .slice s _ off len =>
  match h s with
  | some (.arr a ks xs) =>
   chk (a==sh.1&&(Kd.xB ks sh.2&&Nat.blt s 100000)) <|
   chk (decide (len+m≤2147483648)) <|
    .ret { val:=.slice s sh.2.length 0 (len+m),mD:=[(s,.arr sh.1 sh.2 ((xs.drop off).take len++ys))],cut:=[s] }
  | _=>.fail
 | .p .nil=>chk (decide (m≤2147483648))<|.ret { val:=.slice d sh.2.length 0 m,mD:=[(d,.arr sh.1 sh.2 ys)],new:=[d] }
 | .p (.full a ks xs) =>
  chk (a==sh.1&&Kd.xB ks sh.2)<|chk (decide (0<m∨xs.length=0)&&decide (xs.length+m≤2147483648)) <|
   .ret { val:=.slice d sh.2.length 0 (xs.length+m),mD:=[(d,.arr sh.1 sh.2 (xs++ys))],new:=[d] }
 | _=>.fail
def Ez (h:Nat→Option aJ) (d:Option Nat) (t t2:TypeId) (x y:AV):DT :=
 match d,und T t with
 | some d,some (.slice e) =>
  match DU T e,ni T e,FT T e with
  | some z,some n,some by_ =>
   chk (n==(ay T e).2.length&&(au (ay T e).1 (ay T e).2 z&&Nat.ble by_ 16384)) <|
   match und T t2 with
   | some (.int _)=>match y with
    | .p (.int _ m)=>chk (decide (0≤m)&&decide (m≤2147483648))<|JF h d (ay T e) x none m.toNat (List.replicate m.toNat z)
    | _=>.fail
   | some _=>match SC h y with
    | some (s2,m,ys)=>JF h d (ay T e) x s2 m ys
    | none=>.fail
   | none=>.fail
  | _,_,_=>.fail
 | _,_=>.fail
def ah:Nat:=100000
def dS:aJ→Bool
 | .box cs=>(Aq cs).isSome
 | .arr _ _ _=>true
 | _=>false
def AV.ak:AV→List PV
 | .fresh _ _ xs=>xs
 | _=>[]
def AV.pv:AV→PV
 | .p v=>v
 | _=>.nil
def AV.AY:AV→PV
 | .agg cs=>.agg (cs.map AV.pv)
 | .p v=>v
 | _=>.nil
def AV.nZ:AV→List PV
 | .agg cs=>(cs.getD (cs.length-1) .undef).ak
 | _=>[]
def qC {β:Type}:List β→Option (List β × β)
 | []=>none
 | [x]=>some ([],x)
 | x::y::r=>match qC (y::r) with
  | some (l,z)=>some (x::l,z)
  | none=>none
def AV.Rz:AV→Nat
 | .slice _ _ o _=>o
 | _=>0
def AV.sLen:AV→Nat
 | .slice _ _ _ l=>l
 | _=>0
def aJ.xs:aJ→List PV
 | .arr _ _ xs=>xs
 | _=>[]
def aJ.cs:aJ→List AV
 | .box cs=>cs
 | _=>[]
def aJ.ls:aJ→List PV
 | .log _ xs=>xs
 | _=>[]
def xO (d:Nat) (i:Nat) (_ss:List Nat) (m:dO) (t:TypeId) (r:AV):Option (AV × List (Nat × aJ)) :=
 match m with
 | .deep=>match ay T t with
  | (true,ks)=>some (.p (.agg (dY ks r.pv 0)),[])
  | (false,[k])=>some (.p (eta k r.pv),[])
  | _=>none
 | .fresh=>match und T t with
  | some (.slice e)=>some (.slice (d+1000*i) (ay T e).2.length 0 r.ak.length,[(d+1000*i,.arr (ay T e).1 (ay T e).2 r.ak)])
  | _=>none
 | .alias _=>none
 | .func g qs=>some (.p (.fn g (kY qs r.pv 0)),[])
 | .Js=>some (.p .nH,[])
 | .wP _ _=>none
 | .Bv=>none
 | .DF=>match ay T t with
  | (true,ks)=>match qC ks with
   | some (ks,.slice a ls)=>some (.agg ((dY ks r.AY 0).map .p++[.slice (d+1000*i) ls.length 0 r.nZ.length]),[(d+1000*i,.arr a ls r.nZ)])
   | _=>none
  | _=>none
def tH (d:Nat) (ss:List Nat):Nat→List dO→List TypeId→List AV→Option (List AV × List (Nat × aJ))
 | _,_,[],_=>some ([],[])
 | i,ms,t::ts,rs =>
  match xO T d i ss (ms.headD .deep) t (rs.headD .undef),tH d ss (i+1) ms.tail ts rs.tail with
  | some (v,b),some (vs,bs)=>some (v::vs,b++bs)
  | _,_=>none
def qR:List AV→AV
 | [v]=>v
 | vs=>.nJ vs
def keysOf:List (Nat × aJ)→List Nat
 | []=>[]
 | (k,_)::r=>k::keysOf r
def Kd.flat:Kd→Bool
 | .int _=>true
 | .bool=>true
 | .str=>true
 | _=>false
def CY (m:dO) (t:TypeId):Bool :=
 match m with
 | .deep=>(ay T t).2.all Kd.flat
 | .fresh=>match und T t with
  | some (.slice e)=>(ay T e).2.all Kd.flat
  | _=>false
 | .alias _=>false
 | .func _ _=>false
 | .Bv=>false
 | .DF=>match ay T t with
  | (true,ks)=>match qC ks with
   | some (ks,.slice _ ls)=>ks.all Kd.flat&&ls.all Kd.flat
   | _=>false
  | _=>false
 | _=>true
def nP:List dO→List TypeId→Bool
 | _,[]=>true
 | ms,t::ts=>CY T (ms.headD .deep) t&&nP ms.tail ts
def UQ:Bool × List Kd→PV→PV
 | (false,[.slice a ks]),.nil=>.list a ks []
 | _,v=>v
def normArgs:List TypeId→List PV→List AV
 | t::ts,v::vs=>.p (UQ (ay T t) v)::normArgs ts vs
 | [],vs=>vs.map .p
 | _::_,[]=>[]
abbrev aA:=Nat→List AV→List aJ→Option (List AV × List aJ)
def IK:List dO→List AV→Option Bool
 | [],_=>none
 | .wP _ _::_,rs=>some (rs.headD .undef).pv.Bq
 | _::ms,rs=>IK ms rs.tail
def KR:List dO→List dO
 | []=>[]
 | .wP _ _::ms=>.Js::ms
 | m::ms=>m::KR ms
def UR:List dO→List dO
 | []=>[]
 | .wP g qs::ms=>.func g qs::ms
 | m::ms=>m::UR ms
def KT (ms:List dO) (rs:List AV) (k:List dO→DT):DT :=
 match IK ms rs with
 | none=>k ms
 | some b=>.ite b (k (KR ms)) (k (UR ms))
def uX (s:ByteArray):List PV:=s.data.toList.map fun b=>.int .u8 b.toNat
def JG (s:Nat):AV→Bool
 | .p .yQ=>true
 | .ptr x 0 0=>x==s
 | _=>false
def PV.isByte:PV→Bool
 | .int .u8 n=>decide (0≤n)&&decide (n<256)
 | _=>false
def PV.Qj (k:Kd):PV→Bool
 | .full false [l] xs=>Kd.beq l k&&Nat.blt 0 xs.length
 | _=>false
def PV.Ag:PV→Bool
 | .int .i64 n=>decide (-9223372036854775808≤n)&&decide (n≤9223372036854775807)
 | _=>false
def KU (h:Nat→Option aJ) (d s:Nat) (t e:TypeId) (c1:AV) (m:Nat) (ys:List PV) (val:AV):DT :=
 match c1 with
 | .p .nil=>chk (!(d==s))<|chk (decide (m≤2147483648))<|.ret { val,mD:=[(d,.br e ys),(s,.tb t (.ptr s 0 0) (.mref d))],new:=[d] }
 | .mref g=>match h g with
  | some (.br f xs)=>chk (f==e&&(Nat.blt g 100000&&!(g==s)))<|chk (decide (xs.length+m≤2147483648)) <|
   .ret { val,mD:=[(g,.br e (xs++ys)),(s,.tb t (.ptr s 0 0) (.mref g))],cut:=[g] }
  | _=>.fail
 | _=>.fail
def KW (k:Prim) (ts:List TypeId) (e:TypeId) (h:Nat→Option aJ) (d:Option Nat) (args:List AV):DT :=
 match d,k,args with
 | some d,.RU g,[.ptr s 0 0,.p x,.p y]=>match h s with
  | some (.tb t c0 c1)=>chk (dR t ts&&(JG s c0&&Nat.blt s 100000))<|chk (x.Qj .str&&y.Qj (.int .i64))<|chk (y.toList.all PV.Ag)<|KU h d s t e c1 (g x.toList y.toList).size (uX (g x.toList y.toList)) (.nJ [])
  | _=>.fail
 | some _,.str,[.ptr s 0 0]=>match h s with
  | some (.tb t c0 c1)=>chk (dR t ts&&(JG s c0&&Nat.blt s 100000)) <|
   match c1 with
   | .p .nil=>.ret { val:=.p (.str ByteArray.empty) }
   | .mref g=>match h g with
    | some (.br f xs)=>chk (f==e&&(Nat.blt g 100000&&!(g==s)))<|chk (decide (xs.length≤2147483648))<|chk (xs.all PV.isByte)<|.ret { val:=.p (.str (bytesOf xs)) }
    | _=>.fail
   | _=>.fail
  | _=>.fail
 | _,_,_=>.fail
def oO (C:aA) (h:Nat→Option aJ) (d:Option Nat) (f:Nat) (args:List AV):DT :=
 match d,bI T.funcs f with
 | some d,some fi =>
  match fi.cfg.DR with
  | false =>
   match DV h args with
   | some (vs,ss) =>
    .call (C f (cond fi.cfg.zJ (vs.map .p) (normArgs T fi.fn.params.toList vs)) []) fun r =>
     KT fi.cfg.rets r.1 fun ms =>
     match tH T d [] 0 ms fi.fn.resultTypes.toList r.1 with
     | some (xs,bs)=>.ret { val:=qR xs,mD:=bs,new:=keysOf bs,xE:=cond fi.cfg.shares ss [] }
     | none=>.fail
   | none=>.fail
  | true=>.fail
 | _,_=>.fail
def bV (keep:Bool):Nat:=cond keep 100001 99999
def jd (keep:Bool):List aJ→Heap
 | [b0,b1]=>[(ah,b0),(bV keep,b1)]
 | _=>[]
def FH (bl:List aJ):List PV:=(bl.getD 1 (.box [])).xs
def zC (bl:List aJ):AV:=(bl.headD (.box [])).cs.headD .undef
def KX (C:aA) (h:Nat→Option aJ) (d f:Nat) (fi:FI) (pre:List AV) (s A:Nat) (nw:List Nat) (a:Bool) (ks:List Kd) (off len:Nat) (xs:List PV):DT :=
 match DV h pre with
 | some (vs,ss) =>
  bif (Nat.blt s 100000&&(Nat.blt A 100000&&!(A==s)))&&(!(dR s ss)&&!(dR A ss)) then
  .call (C f (cond fi.cfg.zJ (vs.map .p) (normArgs T fi.fn.params.toList vs)++[.ptr ah 0 0]) [.box [.slice (bV fi.cfg.vkeep) ks.length off len],.arr a ks xs]) fun r =>
   match tH T d [] 0 fi.cfg.rets fi.fn.resultTypes.toList r.1 with
   | some (rv,[])=>.ret { val:=qR rv,mD:=[(A,.arr a ks (FH r.2)),(s,.box [.slice A ks.length (zC r.2).Rz (zC r.2).sLen])],new:=nw,cut:=cond fi.cfg.vkeep [] [A],xE:=ss }
   | _=>.fail
  else .fail
 | none=>.fail
def JH (C:aA) (h:Nat→Option aJ) (d:Option Nat) (f:Nat) (args:List AV):DT :=
 match d,bI T.funcs f,qC args with
 | some d,some fi,some (pre,.ptr s 0 0)=>match h s with
  | some (.box [.slice A _ off len])=>match h A with
   | some (.arr a ks xs)=>KX T C h d f fi pre s A [] a ks off len xs
   | _=>.fail
  | some (.box [.p .nil])=>bif fi.cfg.vkeep then .fail else KX T C h d f fi pre s d [d] (ay T fi.cfg.Zl).1 (ay T fi.cfg.Zl).2 0 0 []
  | _=>.fail
 | _,_,_=>.fail
def vI (C:aA) (h:Nat→Option aJ) (d:Option Nat) (f:Nat) (args:List AV):DT :=
 bif (iY T f).Bd.is then KW (iY T f).Bd (iY T f).Hr (iY T f).KL h d args else
 bif (iY T f).vcall then JH T C h d f args else oO T C h d f args
def lT (env:List AV):Option Operand→Option AV
 | none=>none
 | some x=>some (aP env x)
def iq (env:List AV):List (Nat × Operand)→List (Nat × AV)
 | []=>[]
 | (i,x)::r=>(i,aP env x)::iq env r
def Wi:Option Nat→Bool
 | some d=>dR d T.fulls||dR (1000000+d) T.fulls
 | none=>false
def inLists:Option Nat→Bool
 | some d=>dR (1000000+d) T.fulls
 | none=>false
def bY (C:aA) (env:List AV) (h:Nat→Option aJ) (o:Oper):DT :=
 match o.op with
 | .move x=>.ret { val:=aP env x }
 | .assign x =>
  match o.dst,x,und T o.type with
  | some d,.const (.slice none 0 0),some (.slice e)=>.ret { val:=.slice d (ay T e).2.length 0 0,mD:=[(d,.arr (ay T e).1 (ay T e).2 [])],new:=[d] }
  | _,x,_=>.ret { val:=aP env x }
 | .pick c a b=>KQ (aP env c) (aP env a) (aP env b)
 | .alloc t=>Ht T o.dst t
 | .box _ v=>Qe o.dst (aP env v)
 | .build t parts=>Hu T t (iq env parts.toList)
 | .buildSlice t len parts=>bif Wi T o.dst then xI T (inLists T o.dst) h t len (iq env parts.toList) else vF T h o.dst t len (iq env parts.toList)
 | .load t a=>BH T h t (aP env a)
 | .store t a v=>Hw T h t (aP env a) (aP env v)
 | .binOp op t x y _=>FX T op t (isLit y) (aP env x) (aP env y)
 | .unOp op _ x=>KO op (aP env x)
 | .convert s t x=>BK T h o.dst s t (aP env x)
 | .makeFunc fn first caps=>zN fn (jK env first.toList) (jK env caps.toList)
 | .makeSlice t l c=>xM T o.dst t (aP env l) (aP env c)
 | .makeMap t r=>BI T o.dst t (lT env r)
 | .mapUpdate t m k v=>qQ T h t (aP env m) (aP env k) (aP env v)
 | .insert t m k v=>qQ T h t (aP env m) (aP env k) (aP env v)
 | .mapEntry t m k=>zM T h t (aP env m) (aP env k)
 | .entryStore _ m k v=>vH h (aP env m) (aP env k) (aP env v)
 | .lookup t m k ok=>Ey T h t (aP env m) (aP env k) ok
 | .slice t x lo hi mx=>match und T t with
  | some (.array _ _)=>.fail
  | _=>match mx,hi with
   | some _,none=>.fail
   | _,_=>H6 T t (aP env x) (lT env lo) (lT env hi) (lT env mx)
 | .fieldAddr t x f=>xJ T t (aP env x) f
 | .field t x f=>Hy T t (aP env x) f
 | .indexAddr t x i=>xK T t (aP env x) (aP env i)
 | .index t x i=>Hz T t (aP env x) (aP env i)
 | .extract x i=>BJ (aP env x) i
 | .call c =>
  match c.callee with
  | .builtin .len=>match c.args.toList,c.argTypes.toList with
   | [x],t::_=>CX T h t (aP env x)
   | _,_=>.fail
  | .builtin .append=>match c.args.toList,c.argTypes.toList with
   | [x,y],[t,t2]=>Ez T h o.dst t t2 (aP env x) (aP env y)
   | _,_=>.fail
  | .value f=>match aP env f with
   | .p (.fn f caps)=>vI T C h o.dst f (jK env c.args.toList++caps.map .p)
   | .fn f caps=>vI T C h o.dst f (jK env c.args.toList++caps)
   | _=>.fail
  | _=>.fail
 | _=>.fail
section
variable {α:Type}
def nR (m:Nat) (k:Nat→Option α):Option α :=
 match m with
 | 0=>k 0
 | m+1=>k (m+1)
def KY (n:Int) (k:Int→Option α):Option α :=
 match n with
 | .ofNat m=>nR m fun m=>k (.ofNat m)
 | .negSucc m=>nR m fun m=>k (.negSucc m)
mutual
def je (b:Bool):PV→(PV→Option α)→Option α
 | .bool c,k=>bif b then cond c (k (.bool true)) (k (.bool false)) else k (.bool c)
 | .int j n,k=>bif b then KY n fun n=>k (.int j n) else k (.int j n)
 | .str s,k=>k (.str s)
 | .agg cs,k=>jX b cs fun cs=>k (.agg cs)
 | .list a ks xs,k=>bif b then jX b xs fun xs=>k (.list a ks xs) else k (.list a ks xs)
 | .full a ks xs,k=>bif b then jX b xs fun xs=>k (.full a ks xs) else k (.full a ks xs)
 | .nil,k=>k .nil
 | .fn f cs,k=>bif b then jX b cs fun cs=>k (.fn f cs) else k (.fn f cs)
 | .ref cs,k=>jX b cs fun cs=>k (.ref cs)
 | .yQ,k=>k .yQ
 | .nH,k=>k .nH
 | .ifc,k=>k .ifc
 | .Ap,k=>k .Ap
 | .Es ks vs,k=>k (.Es ks vs)
 | .Ho,k=>k .Ho
def jX (b:Bool):List PV→(List PV→Option α)→Option α
 | [],k=>k []
 | v::r,k=>je b v fun v=>jX b r fun r=>k (v::r)
end
mutual
def jD (b:Bool):AV→(AV→Option α)→Option α
 | .undef,k=>k .undef
 | .p v,k=>bif b then je b v fun v=>k (.p v) else k (.p v)
 | .slice s z o l,k=>bif b then nR o fun o=>nR l fun l=>k (.slice s z o l) else k (.slice s z o l)
 | .bslice s o l,k=>bif b then nR o fun o=>nR l fun l=>k (.bslice s o l) else k (.bslice s o l)
 | .ptr s i o,k=>bif b then nR i fun i=>nR o fun o=>k (.ptr s i o) else k (.ptr s i o)
 | .pI a ks x o,k=>bif b then je b x fun x=>nR o fun o=>k (.pI a ks x o) else k (.pI a ks x o)
 | .fn f cs,k=>lu b cs fun cs=>k (.fn f cs)
 | .agg cs,k=>lu b cs fun cs=>k (.agg cs)
 | .nJ cs,k=>lu b cs fun cs=>k (.nJ cs)
 | .fresh a ks xs,k=>bif b then jX b xs fun xs=>k (.fresh a ks xs) else k (.fresh a ks xs)
 | .zq,k=>k .zq
 | .mref s,k=>k (.mref s)
def lu (b:Bool):List AV→(List AV→Option α)→Option α
 | [],k=>k []
 | v::r,k=>jD b v fun v=>lu b r fun r=>k (v::r)
end
def spine:List AV→(List AV→Option α)→Option α
 | [],k=>k []
 | v::r,k=>spine r fun r=>k (v::r)
def pV (b:Bool):aJ→(aJ→Option α)→Option α
 | .box cs,k=>lu b cs fun cs=>k (.box cs)
 | .arr a ks xs,k=>bif b then jX b xs fun xs=>k (.arr a ks xs) else k (.arr a ks xs)
 | .log on xs,k=>bif b then jX b xs fun xs=>k (.log on xs) else k (.log on xs)
 | .tb t c0 c1,k=>jD b c0 fun c0=>jD b c1 fun c1=>k (.tb t c0 c1)
 | .mp t es,k=>k (.mp t es)
 | .br e xs,k=>bif b then jX b xs fun xs=>k (.br e xs) else k (.br e xs)
def qE (b:Bool):List aJ→(List aJ→Option α)→Option α
 | [],k=>k []
 | x::r,k=>pV b x fun x=>qE b r fun r=>k (x::r)
def FY (b:Bool):List (Nat × aJ)→(List (Nat × aJ)→Option α)→Option α
 | [],k=>k []
 | (s,x)::r,k=>pV b x fun x=>FY b r fun r=>k ((s,x)::r)
def Qk:Heap→(Heap→Option α)→Option α
 | [],k=>k []
 | (s,x)::r,k=>Qk r fun r=>k ((s,x)::r)
def dU (st:St) (k:St→Option α):Option α :=
 spine st.env fun env=>Qk st.heap fun heap=>k { env,heap }
def FZ (b:Bool) (st:St) (d:Option Nat) (e:Eff) (k:St→Option α):Option α :=
 jD b e.val fun v=>FY b e.mD fun c=>dU (st.apply d { e with val:=v,mD:=c }) k
end
inductive Cls where
 | const | plain | pure | read | own (t:Nat) | store | heavy
def rF:Operand→Bool
 | .const _=>true
 | .func _=>true
 | _=>false
def ade (t:Nat):List Oper→Option Op
 | []=>none
 | o::r=>match o.dst with
  | some d=>bif d==t then some o.op else ade t r
  | none=>ade t r
def rootOf (all:List Oper):Nat→Nat→Option Nat
 | 0,_=>none
 | n+1,t=>match ade t all with
  | none=>some t
  | some (.alloc _)=>some t
  | some (.fieldAddr _ (.tmp u) _)=>rootOf all n u
  | _=>none
def KZ (t:Nat):List Oper→Bool
 | []=>false
 | o::r=>(match o.op,o.dst with
  | .slice _ _ _ _ (some _),some d=>bif d==t then true else KZ t r
  | _,_=>KZ t r)
def F5 (xs:List Operand) (all:List Oper):Bool :=
 match xs with
 | .tmp t::_=>KZ t all
 | .const (.slice none 0 0)::_=>true
 | _=>false
def H7 (t:TypeId):Bool:=match und T t with
 | some (.map _ _)=>true
 | _=>false
def Zo:Option Nat→Option Nat
 | some d=>bI T.owns d
 | none=>none
def Zp (t:Nat):Operand→Nat
 | .tmp v=>1000000+(1000*t+v)
 | _=>0
def yY (all:List Oper) (t:Nat) (v:Operand):Option Nat:=match bI T.owns (Zp t v) with
 | some s=>some s
 | none=>rootOf all 4 t
def Wj:Operand→Option Nat→Cls
 | .tmp u,some d=>bif dR (1000*d+u) T.calcs then .plain else .pure
 | _,_=>.pure
def aS (all:List Oper) (o:Oper):Cls :=
 match o.op with
 | .assign (.const (.slice none 0 0))=>.read
 | .assign x=>bif rF x then .const else .pure
 | .move x=>bif rF x then .const else Wj T x o.dst
 | .binOp ..=>.plain
 | .unOp ..=>.plain
 | .pick .. | .build .. | .makeFunc .. | .fieldAddr .. | .field .. | .indexAddr .. | .index .. | .extract .. | .nilCheck ..=>.pure
 | .slice t ..=>match und T t with
  | some (.array _ _)=>.read
  | _=>.pure
 | .alloc .. | .box .. | .buildSlice .. | .load .. | .makeSlice .. | .convert .. | .makeMap .. | .lookup ..=>.read
 | .mapUpdate ..=>.store
 | .insert ..=>.store
 | .store _ (.tmp t) v=>match yY T all t v with
  | some s=>.own s
  | none=>.store
 | .call c=>match c.callee with
  | .builtin .len=>bif c.argTypes.toList.any (H7 T) then .read else .pure
  | .builtin .min | .builtin .max | .builtin .cap=>.pure
  | .builtin .append=>bif F5 c.args.toList all then .read else .heavy
  | .builtin .copy=>.store
  | .value (.tmp _)=>match Zo T o.dst with
   | some s=>.own s
   | none=>.read
  | .value (.func f)=>bif (iY T f).DR||(((iY T f).shares&&!(iY T f).quiet)||(iY T f).Bd.writes) then .heavy else .read
  | .value _=>.read
  | _=>.heavy
 | _=>.heavy
def fG (all:List Oper) (o:Oper):List Nat :=
 match o.dst with
 | some d=>match o.op with
  | .assign (.const (.slice none 0 0))=>[d]
  | .alloc .. | .box .. | .buildSlice .. | .makeSlice .. | .convert .. | .makeMap ..=>[d]
  | .call c=>match c.callee with
   | .value _=>[d,d+1000,d+2000,d+3000]
   | .builtin .append=>bif F5 c.args.toList all then [d] else []
   | _=>[]
  | _=>[]
 | none=>[]
def Zq (all:List Oper) (o:Oper):List Nat :=
 match o.op with
 | .store _ (.tmp t) v=>match yY T all t v with
  | some s=>[s]
  | none=>[]
 | .call c=>match c.callee,Zo T o.dst with
  | .value (.tmp _),some s=>[s]
  | _,_=>[]
 | _=>[]
def pW (all:List Oper):List Oper→List Nat
 | []=>[]
 | o::r=>fG all o++pW all r
def Ql (ss:List Nat):List Nat→Bool
 | []=>true
 | x::r=>!(dR x ss)&&Ql ss r
def La (ss:List Nat):List (Nat × aJ)→Bool
 | []=>true
 | (k,_)::r=>dR k ss&&La ss r
def abg (ss:List Nat):List Nat→Bool
 | []=>true
 | x::r=>dR x ss&&abg ss r
def tmpsOf:List Operand→List Nat
 | []=>[]
 | .tmp t::r=>t::tmpsOf r
 | _::r=>tmpsOf r
def pX (ops:List Oper) (o:Oper):List Nat :=
 tmpsOf o.op.operands.toList++(match o.guard with
  | some (g,_)=>match (ops[g]?).bind (·.dst) with
   | some d=>[d]
   | none=>[]
  | none=>[])
def UU (ops:List Oper) (x y:Oper):Bool :=
 (match x.dst with
  | some d=>!(dR d (pX ops y))&&!(y.dst==some d)
  | none=>true) &&
 (match y.dst with
  | some d=>!(dR d (pX ops x))
  | none=>true)
def uw (all:List Oper) (hx ho:List Nat) (x o:Oper):Bool :=
 UU all x o&&(Ql (fG all x) (fG all o)&&(match aS T all x,aS T all o with
  | .const,_=>true
  | _,.const=>true
  | .plain,_=>true
  | _,.plain=>true
  | .pure,.heavy=>false
  | .heavy,.pure=>false
  | .pure,_=>true
  | _,.pure=>true
  | .read,.read=>true
  | .read,.own t=>dR t hx&&!(dR t (fG all x))
  | .own t,.read=>dR t ho&&!(dR t (fG all o))
  | _,_=>false))
def xP:List Nat→List Nat→List Nat
 | acc,[]=>acc
 | acc,x::r=>xP (bif dR x acc then acc else x::acc) r
def CZ (done:List (List Nat)) (o:Oper):List Nat :=
 (o.after.toList).foldl (fun acc e=>match e.ground with
   | .textOnly _=>acc
   | .gcOnly _=>acc
   | _=>xP (xP acc [e.on]) (done.getD e.on [])) []
def bH:List Oper→List (List Nat)→List (List Nat)
 | [],acc=>acc
 | o::r,acc=>bH r (acc++[CZ acc o])
def Lc (all:List Oper) (hd:List (List Nat)) (SE:List Nat) (j:Nat) (o:Oper):Nat→List Oper→Bool
 | _,[]=>true
 | i,x::r=>bif Nat.ble j i then true else
  (bif dR i SE then true else uw T all (hd.getD i []) (hd.getD j []) x o)&&Lc all hd SE j o (i+1) r
def C9 (j:Nat) (o:Oper):Bool :=
 o.after.toList.all fun e=>match e.ground with
  | .textOnly _=>true
  | .gcOnly _=>true
  | _=>Nat.blt e.on j
def xQ (all:List Oper) (tab hd:List (List Nat)):Nat→List Oper→Bool
 | _,[]=>true
 | j,o::r=>C9 j o&&Lc T all hd (tab.getD j []) j o 0 all&&xQ all tab hd (j+1) r
def uy (all:List Oper) (tab:List (List Nat)) (j:Nat):Nat→List Oper→List Nat
 | _,[]=>[]
 | i,o::r =>
  bif i==j||dR i (tab.getD j [])||dR j (tab.getD i []) then uy all tab j (i+1) r else fG all o++(Zq T all o++uy all tab j (i+1) r)
section
variable {α:Type}
def ji (U:List Nat) (h:Nat→Option aJ):Nat→Option aJ :=
 match U with
 | []=>h
 | U=>fun s=>bif dR s U then none else h s
def oP (all:List Oper) (g:Nat):Option Nat:=(all[g]?).bind (·.dst)
def gU:List Nat→Bool
 | []=>true
 | s::r=>Nat.blt s 100000&&gU r
def mF (h:Heap):List (Nat × aJ)→Bool
 | []=>true
 | (_,.log _ _)::_=>false
 | (s,_)::r=>bif s==ah then(match look h ah with
  | some (.log _ _)=>false
  | _=>mF h r) else mF h r
def AV.NI:AV→Bool
 | .p _=>true
 | .nJ []=>true
 | _=>false
def dI (draw:Bool) (cls:Cls) (ss:List Nat) (h:Heap) (e:Eff):Bool :=
 match draw,cls with
 | false,_=>mF h e.mD
 | true,.heavy=>true
 | true,.store=>e.cut.isEmpty&&(e.xE.isEmpty&&e.new.isEmpty)
 | true,.own t=>e.cut.isEmpty&&(e.xE.isEmpty&&(La [t] e.mD&&e.new.isEmpty))
 | true,.read=>e.cut.isEmpty&&(e.xE.isEmpty&&(La ss e.mD&&(abg ss e.new&&(present h e.new).isEmpty)))
 | true,.plain=>e.cut.isEmpty&&(e.xE.isEmpty&&(e.mD.isEmpty&&(e.new.isEmpty&&e.val.NI)))
 | true,_=>e.cut.isEmpty&&(e.xE.isEmpty&&(e.mD.isEmpty&&e.new.isEmpty))
def yieldOf (st:St) (o:Oper):Option (List PV × List PV) :=
 match o.op with
 | .call c=>match c.callee with
  | .value (.tmp t)=>match st.env.getD t .undef with
   | .zq=>match look st.heap ah,DV (look st.heap) (jK st.env c.args.toList) with
    | some (.log true xs),some (vs,_)=>some (xs,vs)
    | _,_=>none
   | _=>none
  | _=>none
 | _=>none
def ny (draw:Bool) (st:St) (o:Oper):Option (List PV × List PV):=match draw with | true=>none | false=>yieldOf st o
def iG (s:Nat):Heap→List Nat
 | []=>[]
 | (k,_)::h=>bif k==s then iG s h else k::iG s h
def Wn (h:Nat→Option aJ):AV→Option PV
 | .ptr s 0 0=>match h s with
  | some (.box cs)=>match Aq cs with
   | some vs=>some (.ref vs)
   | none=>none
  | _=>none
 | _=>none
def Qm (h:Nat→Option aJ) (ss:List Nat) (v:AV):AV:=match Wn h v with
 | some x=>.p x
 | none=>AV.kill ss v
def xR (h:Nat→Option aJ) (ss:List Nat):List AV→List AV
 | []=>[]
 | v::r=>Qm h ss v::xR h ss r
def iU (st:St) (d:Option Nat) (xs vs:List PV) (b:Bool):St :=
 let st1:St:={ env:=xR (ji [ah] (look st.heap)) (iG ah st.heap) st.env,heap:=(st.strike (iG ah st.heap)).heap }
 { env:=setEnv st1.env d (.p (.bool b)),heap:=put st1.heap ah (.log b (xs++[.agg vs])) }
def fork (no yes:Option α):Option α :=
 match no with
 | some _=>yes
 | none=>none
def dA (C:aA) (draw:Bool) (hd:List (List Nat)) (all:List Oper):List Oper→Nat→St→(St→Option α)→Option α
 | [],_,st,k=>k st
 | o::rest,j,st,k =>
  let go (st:St):Option α :=
   match ny draw st o with
   | some (xs,vs)=>fork (dU (iU st o.dst xs vs false) fun st=>dA C draw hd all rest (j+1) st k) (dU (iU st o.dst xs vs true) fun st=>dA C draw hd all rest (j+1) st k)
   | none=>(bY T C st.env (ji (hd.getD j []) (look st.heap)) o).run fun e =>
    bif gU (e.new++e.xE)&&dI draw (aS T all o) (fG all o) st.heap e then FZ T.strict st o.dst e fun st=>dA C draw hd all rest (j+1) st k else none
  let skip (st:St):Option α:=dU { st with env:=setEnv st.env o.dst (.nJ []) } fun st=>dA C draw hd all rest (j+1) st k
  match o.guard with
  | none=>go st
  | some (g,want) =>
   match oP all g with
   | none=>none
   | some t =>
    match st.env.getD t .undef with
    | .p (.bool b) =>
     cond b (bif want then go { st with env:=st.env.set t (.p (.bool true)) } else skip { st with env:=st.env.set t (.p (.bool true)) })
      (bif want then skip { st with env:=st.env.set t (.p (.bool false)) } else go { st with env:=st.env.set t (.p (.bool false)) })
    | .nJ []=>skip st
    | _=>none
def jE (nv:Nat) (hs:List Nat):List Oper→St→St
 | [],st=>st
 | o::r,st =>
  match o.op,o.dst with
  | .assign _,some d =>
   match st.env.getD d .undef with
   | .slice s _ _ _=>bif (Nat.ble nv s||(dR d hs&&!(s==d)))&&(Nat.blt d nv&&Nat.blt s 100000) then jE nv hs r (st.xH s d) else jE nv hs r st
   | _=>jE nv hs r st
  | _,_=>jE nv hs r st
def Wp:List Nat→Nat→Option Nat
 | [],_=>none
 | x::r,d=>bif Nat.ble 1000000 x&&Nat.beq ((x-1000000) / 1000) d then some ((x-1000000)%1000) else Wp r d
def Qn (ts:List Nat) (d:Nat):Option Nat:=bif dR d ts then some d else Wp ts d
def freezes (ts:List Nat):List Oper→St→St
 | [],st=>st
 | o::r,st =>
  match o.op,o.dst with
  | .assign _,some d =>
   match Qn ts d with
   | some x=>(match deep (look st.heap) (st.env.getD x .undef) with
    | some (v,ss)=>bif gU ss then freezes ts r { (st.strike ss) with env:=(st.strike ss).env.set x (.p v) } else freezes ts r st
    | none=>freezes ts r st)
   | none=>freezes ts r st
  | _,_=>freezes ts r st
def eF (hs:List Nat):List Oper→St→St
 | [],st=>st
 | o::r,st =>
  match o.op with
  | .store _ _ (.tmp x) =>
   match st.env.getD x .undef with
   | .slice s _ _ _=>bif dR x hs&&(Nat.blt s 5000&&Nat.blt x 5000) then eF hs r (st.xH s (5000+x)) else eF hs r st
   | _=>eF hs r st
  | .call _=>match o.dst with
   | some d=>match look st.heap d with
    | some (.br _ _)=>bif dR d hs&&Nat.blt d 5000 then eF hs r (st.xH d 7990) else eF hs r st
    | _=>eF hs r st
   | none=>eF hs r st
  | _=>eF hs r st
def settle (F:Bz) (ops:List Oper) (st:St):St:=freezes F.frzs ops (match F.fhomes with
 | []=>jE F.nvars F.homes ops st
 | h::hs=>eF (h::hs) ops (jE F.nvars F.homes ops st))
def pY:Code→Option Nat
 | .region id _ _=>some id
 | .seq a b=>match pY a with
  | some i=>some i
  | none=>pY b
 | .block _ c=>pY c
 | .loop c=>pY c
 | .scope c=>pY c
 | .rangeFunc _ _ a b=>match pY a with
  | some i=>some i
  | none=>pY b
 | _=>none
def cutAt:List (Nat × List Nat × List Nat)→Nat→Option (List Nat × List Nat)
 | [],_=>none
 | (i,l,s)::r,j=>bif i==j then some (l,s) else cutAt r j
def aB (F:Bz) (c:Code) (st:St):St :=
 match pY c with
 | none=>st
 | some i=>match cutAt F.cuts i with
  | none=>st
  | some (l,s)=>st.forget l s
def Qo:Kd→PV→Bool
 | .slice _ _,.nil=>false
 | k,v=>kindOk k v
def Dc:List Kd→List PV→Bool
 | [],[]=>true
 | k::ks,v::vs=>Qo k v&&Dc ks vs
 | _,_=>false
def OJ:Bool × List Kd→PV→Bool
 | (true,ks),.ref cs=>Dc ks cs
 | (false,[k]),v=>Qo k v
 | _,_=>false
def H8:List (Bool × List Kd)→List PV→Bool
 | [],[]=>true
 | s::r,v::vs=>OJ s v&&H8 r vs
 | _,_=>false
def PV.isFn (g:Nat) (qs:List (Bool × List Kd)):PV→Bool
 | .fn f cs=>f==g&&H8 qs cs
 | _=>false
def AV.isP:AV→Bool
 | .p _=>true
 | _=>false
def BL:List (Nat × List (Bool × List Kd))→Nat→St→(St→Option α)→Option α
 | [],_,_,_=>none
 | (g,qs)::r,t,st,k=>cond ((st.env.getD t .undef).isP&&PV.isFn g qs (st.env.getD t .undef).pv) (k { st with env:=st.env.set t (.p (.fn g (kY qs (st.env.getD t .undef).pv 0))) }) (BL r t st k)
def yZ:List (Nat × List (Nat × List (Bool × List Kd)))→St→(St→Option α)→Option α
 | [],st,k=>k st
 | (t,cs)::r,st,k=>BL cs t st fun st=>yZ r st k
def zO:List (Nat × List (Nat × List (Nat × List (Bool × List Kd))))→Nat→List (Nat × List (Nat × List (Bool × List Kd)))
 | [],_=>[]
 | (i,l)::r,j=>bif i==j then l else zO r j
def lU (fg:St→St) (body:St→(Ex→St→Option α)→Option α):Nat→St→(Ex→St→Option α)→Option α
 | 0,_,_=>none
 | m+1,st,k=>body st fun ex st' =>
  match ex with
  | .normal=>dU (fg st') fun st'=>lU fg body m st' k
  | .exit id=>k (.exit id) st'
  | .ret=>k .ret st'
def nS (b:Option aJ) (st:St) (k:St→Option α):Option α :=
 match look st.heap ah with
 | some (.log _ _)=>match b with
  | some (.log on xs)=>k { st with heap:=put st.heap ah (.log on xs) }
  | _=>none
 | _=>k st
def iT:Code→Bool
 | .seq a b=>iT a&&iT b
 | .cond _ a b=>iT a&&iT b
 | .block _ c=>iT c
 | .loop c=>iT c
 | .scope c=>iT c
 | .rangeFunc _ _ _ _=>false
 | _=>true
def fO:Code→List Nat
 | .region _ ops _=>ops.toList.filterMap (·.dst)
 | .seq a b=>fO a++fO b
 | .cond _ a b=>fO a++fO b
 | .block _ c=>fO c
 | .loop c=>fO c
 | .scope c=>fO c
 | .rangeFunc _ ps a b=>ps.toList++(fO a++fO b)
 | _=>[]
def opsOf:Code→List Oper
 | .region _ ops _=>ops.toList
 | .seq a b=>opsOf a++opsOf b
 | .cond _ a b=>opsOf a++opsOf b
 | .block _ c=>opsOf c
 | .loop c=>opsOf c
 | .scope c=>opsOf c
 | .rangeFunc _ _ a b=>opsOf a++opsOf b
 | _=>[]
def yOp (ys:List Nat) (o:Oper):Bool :=
 (match o.dst with
 | some t=>bif dR t ys then(match o.op with
  | .move (.tmp s)=>dR s ys
  | .assign (.tmp s)=>dR s ys
  | _=>false) else true
 | none=>true) &&
 (match o.op with
 | .call c=>match c.callee with
  | .value (.tmp t)=>dR t ys
  | _=>true
 | _=>true)
def abj (ys:List Nat):List Oper→Bool
 | []=>true
 | o::r=>yOp ys o&&abj ys r
def Qp (n:Nat):List Nat→Bool
 | []=>true
 | t::r=>(Nat.beq t 0||Nat.blt n t)&&Qp n r
def jm (fi:FI) (n:Nat):Bool:=match fi.fn.body with | some c=>iT c&&(Qp n fi.cfg.ys&&(abj fi.cfg.ys (opsOf c)&&!fi.cfg.vcall)) | none=>false
def jY:Code→Bool
 | .skip=>true
 | .region _ _ _=>true
 | .seq a b=>jY a&&jY b
 | _=>false
def tJ (ws:List Nat):Nat→List AV→List AV
 | _,[]=>[]
 | i,v::r=>(bif dR i ws then .undef else v)::tJ ws (i+1) r
def UW:Bool × List Kd→PV→PV
 | (true,ks),v=>.agg (dY ks v 0)
 | (false,[k]),v=>eta k v
 | _,v=>v
def Au:List (Bool × List Kd)→List Nat→PV→Nat→List AV→Option (List AV)
 | [],[],v,i,env=>bif Nat.beq v.cells.length i then some env else none
 | s::ss,t::ts,v,i,env=>bif au s.1 s.2 (v.cell i) then Au ss ts v (i+1) (env.set t (.p (UW s (v.cell i)))) else none
 | _,_,_,_,_=>none
def back (ws:List Nat) (st:St):St:={ st with env:=tJ ws 0 st.env }
def nT (fg:St→St) (ws:List Nat) (L:St→Option α) (k:Ex→St→Option α):Ex→St→Option α
 | .normal,st=>dU (fg (back ws st)) L
 | .exit id,st=>dU (back ws st) (k (.exit id))
 | .ret,st=>dU (back ws st) (k .ret)
def jf (fg:St→St) (ss:List (Bool × List Kd)) (ps ws:List Nat) (round:St→(Ex→St→Option α)→Option α):List PV→St→(Ex→St→Option α)→Option α
 | [],st,k=>k .normal st
 | v::xs,st,k =>
  match Au ss ps v 0 st.env with
  | none=>none
  | some env=>dU { st with env:=env } fun st=>round st (nT fg ws (fun st=>jf fg ss ps ws round xs st k) k)
def sQ (l:List aJ):List PV:=(l.headD (.box [])).ls
def F6 (l:List Nat):Nat→Bool
 | 0=>true
 | n+1=>dR n l&&F6 l n
def lI (tab:List (List Nat)) (j:Nat):Nat→List Oper→Bool
 | _,[]=>true
 | i,_::r=>(Nat.blt i j||F6 (tab.getD i []) i)&&lI tab j (i+1) r
def Qq (ys:List Nat):Nat→List Oper→Option Nat
 | _,[]=>none
 | i,o::r=>match o.op with
  | .call c=>match c.callee with
   | .value (.tmp t)=>bif dR t ys then some i else Qq ys (i+1) r
   | _=>Qq ys (i+1) r
  | _=>Qq ys (i+1) r
def UY (ys:List Nat) (ops:List Oper):Option Nat:=match ys with
 | []=>none
 | _=>match Qq ys 0 ops with
  | some j=>bif lI (bH ops []) j 0 ops then some j else none
  | none=>none
def y8 (a b:Code):Nat:=match pY (.seq a b) with
 | some i=>1000000+i
 | none=>0
def aK (C:aA) (F:FI) (n:Nat):Code→St→(Ex→St→Option α)→Option α
 | .skip,st,k=>k .normal st
 | .region id ops draw,st,k=>yZ (zO F.cfg.alts id) st fun st =>
  match draw with
  | false=>dA T C false [] ops.toList ops.toList 0 st fun st'=>dU (settle F.cfg ops.toList st') fun st'=>k .normal st'
  | true =>
   match bI F.hides id with
   | some hd=>dU (st.strike (present st.heap (pW ops.toList ops.toList))) fun st =>
    match UY F.cfg.ys ops.toList with
    | none=>dA T C true hd ops.toList ops.toList 0 st fun st'=>nS (look st.heap ah) st' fun st'=>dU (settle F.cfg ops.toList st') fun st'=>k .normal st'
    | some j=>dA T C true hd ops.toList (ops.toList.take j) 0 st fun st'=>nS (look st.heap ah) st' fun st'=>dA T C false [] ops.toList (ops.toList.drop j) j st' fun st'=>dU (settle F.cfg ops.toList st') fun st'=>k .normal st'
   | none=>none
 | .seq a b,st,k=>aK C F n a st fun ex st' =>
  match ex with
  | .normal=>aK C F n b (aB F.cfg b st') k
  | .exit id=>k (.exit id) st'
  | .ret=>k .ret st'
 | .cond c x y,st,k =>
  match aP st.env c with
  | .p (.bool b)=>cond b (aK C F n x st k) (aK C F n y st k)
  | _=>none
 | .block id c,st,k=>aK C F n c st fun ex st' =>
  match ex with
  | .normal=>k .normal st'
  | .exit i=>bif i==id then k .normal st' else k (.exit i) st'
  | .ret=>k .ret st'
 | .scope c,st,k=>aK C F n c st k
 | .loop c,st,k=>lU (aB F.cfg c) (fun st' k'=>aK C F n c st' k') n (aB F.cfg c st) k
 | .exit id,st,k=>k (.exit id) st
 | .ret,st,k=>k .ret st
 | .label _,st,k=>k .normal st
 | .rangeFunc f ps a b,st,k=>yZ (zO F.cfg.alts (y8 a b)) st fun st =>
  match aP st.env f with
  | .p (.fn g caps) =>
   match bI T.funcs g,jY a with
   | some fi,true =>
    bif jm fi caps.length then
    match C g (.zq::caps.map .p) [.log true []] with
    | some r => jf (aB F.cfg (.seq a b)) fi.cfg.yk ps.toList (ps.toList ++ (fO a ++ fO b))
        (fun st k=>aK C F n a st fun ex st' =>
          match ex with
          | .normal=>aK C F n b (aB F.cfg b st') k
          | .exit id=>k (.exit id) st'
          | .ret=>k .ret st') (sQ r.2) (aB F.cfg (.seq a b) st) k
    | none=>none
    else none
   | _,_=>none
  | _=>none
 | _,_,_=>none
end
def AV.Ld:AV→Option (List AV)
 | .p (.agg cs)=>some (cs.map .p)
 | .agg cs=>some cs
 | _=>none
def Wq (h:Nat→Option aJ) (a:Bool) (ks:List Kd):AV→Option (List PV × List Nat)
 | .slice s _ off len=>match h s with
  | some (.arr b ls xs)=>bif b==a&&Kd.xB ls ks&&Nat.blt s 100000 then some ((xs.drop off).take len,[s]) else none
  | _=>none
 | .p .nil=>some ([],[])
 | _=>none
def zQ (h:Nat→Option aJ) (m:dO) (t:TypeId) (v:AV):Option (AV × List Nat) :=
 match m with
 | .deep=>match deep h v with
  | some (x,ss)=>bif au (ay T t).1 (ay T t).2 x&&ss.all (fun s=>Nat.blt s 100000) then some (.p x,ss) else none
  | none=>none
 | .fresh=>match und T t with
  | some (.slice e) =>
   match v with
   | .slice s _ off len=>match h s with
    | some (.arr a ks xs) =>
     bif a==(ay T e).1&&Kd.xB ks (ay T e).2&&Nat.blt s 100000 then some (.fresh a ks ((xs.drop off).take len),[s]) else none
    | _=>none
   | .p .nil=>some (.fresh (ay T e).1 (ay T e).2 [],[])
   | _=>none
  | _=>none
 | .alias _=>none
 | .func g qs=>match deep h v with
  | some (.fn f cs,ss)=>bif (f==g&&zI qs cs)&&ss.all (fun s=>Nat.blt s 100000) then some (.p (.fn f cs),ss) else none
  | _=>none
 | .wP _ _=>none
 | .Js=>none
 | .Bv=>none
 | .DF=>match ay T t with
  | (true,ks)=>match qC ks,v.Ld with
   | some (ks,.slice a ls),some cs=>match qC cs with
    | some (cs,x)=>match Aq cs,Wq h a ls x with
     | some vs,some (xs,ss)=>bif bC ks vs then some (.agg (vs.map .p++[.fresh a ls xs]),ss) else none
     | _,_=>none
    | none=>none
   | _,_=>none
  | _=>none
def wQ (h:Heap):List dO→List TypeId→List AV→Option (List AV)
 | _,[],[]=>some []
 | ms,t::ts,v::vs =>
  match zQ T (look h) (ms.headD .deep) t v with
  | some (x,ss)=>match wQ (lS h ss) ms.tail ts vs with
   | some xs=>some (x::xs)
   | none=>none
  | none=>none
 | _,_,_=>none
def Zr:AV→AV→Bool
 | .p (.int k _),.p (.int j _)=>k==j
 | .p (.int _ _),_=>false
 | .p (.bool _),.p (.bool _)=>true
 | .p (.bool _),_=>false
 | .p (.str _),.p (.str _)=>true
 | .p (.str _),_=>false
 | .p (.list a ks _),.p (.list b ls _)=>a==b&&Kd.xB ks ls
 | .p (.list _ _ _),_=>false
 | _,_=>true
def IL:List AV→List AV→Bool
 | [],[]=>true
 | x::xs,y::ys=>Zr x y&&IL xs ys
 | _,_=>false
def backOk:aJ→aJ→Bool
 | .arr a ks _,.arr b ls _=>a==b&&Kd.xB ks ls
 | .box cs,.box ds=>IL cs ds
 | .log _ _,.log _ _=>true
 | _,_=>false
def Df:aJ→Bool
 | .log _ _=>true
 | b=>dS b
def y9 (h:Heap):Nat→List aJ→Option (List aJ)
 | _,[]=>some []
 | i,b0::r=>match look h (ah+i),y9 h (i+1) r with
  | some b,some bs=>bif Df b&&backOk b0 b then some (b::bs) else none
  | _,_=>none
def Ws (env:List AV) (h:Nat→Option aJ):ResultVar→Option AV
 | .tmp t=>some (env.getD t .undef)
 | .cell t ty=>match env.getD t .undef,ni T ty with
  | .ptr s 0 0,some n=>match h s with
   | some (.box cs)=>qP T ty n cs 0
   | _=>none
  | _,_=>none
def EC (env:List AV) (h:Nat→Option aJ):List ResultVar→Option (List AV)
 | []=>some []
 | r::rs=>match Ws T env h r,EC env h rs with
  | some v,some vs=>some (v::vs)
  | _,_=>none
def SG (F:Bz) (fn:Func) (bl:List aJ) (st:St):Option (List AV × List aJ) :=
 match EC T st.env (look st.heap) fn.results.toList with
 | none=>none
 | some vs =>
  match wQ T st.heap F.rets fn.resultTypes.toList vs,y9 st.heap 0 bl with
  | some rs,some bl=>lu T.strict rs fun rs=>qE T.strict bl fun bl=>some (rs,bl)
  | _,_=>none
def dM:Nat→List aJ→Heap
 | _,[]=>[]
 | i,b::r=>(ah+i,b)::dM (i+1) r
def tK (fn:Func) (args:List AV) (bl:List aJ):St :=
 { env:=args++List.replicate (fn.ntmps-args.length) .undef,heap:=dM 0 bl }
def DX (F:Bz) (bl:List aJ):Bool:=match F.vcall with
 | true=>match bl with
  | [.box [.slice _ _ _ _],.arr _ _ _]=>true
  | _=>false
 | false=>true
def Le (F:Bz) (fn:Func) (args:List AV) (bl:List aJ):St:=match F.vcall with
 | true=>{ env:=args++List.replicate (fn.ntmps-args.length) .undef,heap:=jd F.vkeep bl }
 | false=>tK fn args bl
def zf:List dO→Bool
 | []=>true
 | .deep::r=>zf r
 | _=>false
def adf (F:Bz) (fn:Func) (bl:List aJ) (st:St):Option (List AV × List aJ) :=
 match EC T st.env (look st.heap) fn.results.toList,bl with
 | some vs,[_,.arr a0 Wu _]=>match look st.heap ah with
  | some (.box [.slice X _ off len])=>match look st.heap X with
   | some (.arr a ks xs) =>
    bif (a==a0&&Kd.xB ks Wu)&&(zf F.rets&&(cond F.vkeep (X==100001) (Nat.blt X 100000))) then
    match wQ T (lS st.heap [ah,X]) F.rets fn.resultTypes.toList vs with
    | some rs=>lu T.strict rs fun rs=>qE T.strict [.box [.slice (bV F.vkeep) Wu.length off len],.arr a0 Wu xs] fun bl=>some (rs,bl)
    | none=>none
    else none
   | _=>none
  | _=>none
 | _,_=>none
def Xy (F:Bz) (fn:Func) (bl:List aJ) (st:St):Option (List AV × List aJ):=match F.vcall with
 | true=>adf T F fn bl st
 | false=>SG T F fn bl st
abbrev Ext:=Nat→Option (List AV→List aJ→Option (List AV × List aJ))
def jZ (X:Ext):Nat→aA
 | 0,_,_,_=>none
 | n+1,f,args,bl =>
  match bI T.funcs f with
  | none=>none
  | some fi =>
   match X f with
   | some s=>s args bl
   | none =>
   match fi.fn.body with
   | none=>none
   | some c=>bif DX fi.cfg bl then
    lu T.strict args fun args=>qE T.strict bl fun bl=>dU (Le fi.cfg fi.fn args bl) fun st =>
    aK T (jZ X n) fi n c st fun ex st =>
     match ex with
     | .exit _=>none
     | _=>Xy T fi.cfg fi.fn bl st
    else none
def zS (ops:List Oper):List (List Nat) :=
 let tab:=bH ops []
 (List.range ops.length).map fun j=>uy T ops tab j 0 ops
def mG:List (List Nat)→List (List Nat)→Bool
 | [],[]=>true
 | x::xs,y::ys=>x==y&&mG xs ys
 | _,_=>false
def iK (hides:List (Nat × List (List Nat))):Code→Bool
 | .region id ops true=>match bI hides id with
  | none=>true
  | some hd=>xQ T ops.toList (bH ops.toList []) hd 0 ops.toList&&mG hd (zS T ops.toList)
 | .seq a b=>iK hides a&&iK hides b
 | .cond _ a b=>iK hides a&&iK hides b
 | .block _ c=>iK hides c
 | .loop c=>iK hides c
 | .scope c=>iK hides c
 | .rangeFunc _ _ a b=>iK hides a&&iK hides b
 | _=>true
end
end Go.Skm
namespace Go.Skm
def PV.leaf:PV→Bool
 | .agg _=>false
 | _=>true
def AV.leaf:AV→Bool
 | .p v=>v.leaf
 | .agg _=>false
 | .nJ _=>false
 | .fresh _ _ _=>false
 | _=>true
def IQ (E:Array MapEntry) (k n:Nat):Prop:=E.size=n∧(∀ e∈E.toList,e.born<k)∧(E.toList.map (·.born)).Nodup∧(k=n∧∀ (i:Nat) (e:MapEntry),E[i]?=some e→e.born=i)
inductive VR (w:World) (M:Nat→Prop):PV→Value→Prop
 | bool (b:Bool):VR w M (.bool b) (.bool b)
 | int (k:IntKind) (n:Int):VR w M (.int k n) (.int k n)
 | str (s:ByteArray):VR w M (.str s) (.string s)
 | agg (cs : List PV) (vs : Array Value) (hn : vs.size = cs.length) (hl : ∀ c ∈ cs,c.leaf = true)
     (h:∀ (i:Nat) (c:PV),cs[i]?=some c→VR w M c (vs.getD i undef)):VR w M (.agg cs) (.agg vs)
 | list (a : Bool) (ks : List Kd) (xs : List PV) (b o cap : Nat) (f : Nat → Nat → Value) (hM : M b) (hcap : xs.length ≤ cap)
     (hc:∀ (i:Nat) (x:PV) (j:Nat) (c:PV),xs[i]?=some x→x.cells[j]?=some c→w.cell? ⟨b,o+i*ks.length+j,none⟩=some (f i j))
     (hv:∀ (i:Nat) (x:PV) (j:Nat) (c:PV),xs[i]?=some x→x.cells[j]?=some c→VR w M c (f i j))
     (hs:∀ x∈xs,au a ks x=true):VR w M (.list a ks xs) (.slice (some ⟨b,o,none⟩) xs.length cap)
 | kZ (a:Bool) (ks:List Kd) (base:Option Addr) (cap:Nat):VR w M (.list a ks []) (.slice base 0 cap)
 | full (a : Bool) (ks : List Kd) (xs : List PV) (b o : Nat) (f : Nat → Nat → Value) (hM : M b)
     (hc:∀ (i:Nat) (x:PV) (j:Nat) (c:PV),xs[i]?=some x→x.cells[j]?=some c→w.cell? ⟨b,o+i*ks.length+j,none⟩=some (f i j))
     (hv:∀ (i:Nat) (x:PV) (j:Nat) (c:PV),xs[i]?=some x→x.cells[j]?=some c→VR w M c (f i j))
     (hs:∀ x∈xs,au a ks x=true):VR w M (.full a ks xs) (.slice (some ⟨b,o,none⟩) xs.length xs.length)
 | F7 (a:Bool) (ks:List Kd) (base:Option Addr):VR w M (.full a ks []) (.slice base 0 0)
 | nil:VR w M .nil (.slice none 0 0)
 | fn (f : Nat) (cs : List PV) (vs : Array Value) (hn : vs.size = cs.length)
     (h:∀ (i:Nat) (c:PV),cs[i]?=some c→VR w M c (vs.getD i undef)):VR w M (.fn f cs) (.func (.func f) #[] vs)
 | ref (cs : List PV) (b o : Nat) (f : Nat → Value) (hM : M b) (hl : ∀ c ∈ cs,c.leaf = true)
     (hc:∀ (j:Nat) (c:PV),cs[j]?=some c→w.cell? ⟨b,o+j,none⟩=some (f j))
     (hv:∀ (j:Nat) (c:PV),cs[j]?=some c→VR w M c (f j)):VR w M (.ref cs) (.pointer (some ⟨b,o,none⟩))
 | yQ:VR w M .yQ (.pointer none)
 | nH:VR w M .nH .nilFunc
 | ifc (t:TypeId) (v:Value):VR w M .ifc (.iface t v)
 | Ap:VR w M .Ap .nilIface
 | Ho:VR w M .Ho (.map none)
 | Es (ks vs : List PV) (b : Nat) (E : Array MapEntry) (k : Nat) (hM : M b) (hw : w.heap[b]? = some (.map E k)) (hn : IQ E k ks.length) (hl : vs.length = ks.length)
     (hk:∀ (i:Nat) (x:PV) (e:MapEntry),ks[i]?=some x→E[i]?=some e→VR w M x e.key) (hv:∀ (i:Nat) (x:PV) (e:MapEntry),vs[i]?=some x→E[i]?=some e→VR w M x e.val):VR w M (.Es ks vs) (.map (some b))
theorem cell_of_heap {w w':World} {b i:Nat} (h:w'.heap[b]?=w.heap[b]?):w'.cell? ⟨b,i,none⟩=w.cell? ⟨b,i,none⟩:=by
 simp[World.cell?,h]
theorem VR.mono {w w':World} {M M':Nat→Prop} (hM:∀ b,M b→M' b∧w'.heap[b]?=w.heap[b]?) {v:PV} {c:Value} (h:VR w M v c):VR w' M' v c:=by
 induction h with
 | bool b=>exact .bool b
 | int k n=>exact .int k n
 | str s=>exact .str s
 | agg cs vs hn hl _ ih=>exact .agg cs vs hn hl ih
 | list a ks xs b o cap f hb hcap hc _ hs ih =>
  exact .list a ks xs b o cap f (hM b hb).1 hcap (fun i x j c h1 h2=>by rw[cell_of_heap (hM b hb).2];exact hc i x j c h1 h2) ih hs
 | kZ a ks base cap=>exact .kZ a ks base cap
 | full a ks xs b o f hb hc _ hs ih =>
  exact .full a ks xs b o f (hM b hb).1 (fun i x j c h1 h2=>by rw[cell_of_heap (hM b hb).2];exact hc i x j c h1 h2) ih hs
 | F7 a ks base=>exact .F7 a ks base
 | nil=>exact .nil
 | fn f cs vs hn _ ih=>exact .fn f cs vs hn ih
 | ref cs b o f hb hl hc _ ih =>
  exact .ref cs b o f (hM b hb).1 hl (fun j c h1=>by rw[cell_of_heap (hM b hb).2];exact hc j c h1) ih
 | yQ=>exact .yQ
 | nH=>exact .nH
 | ifc t v=>exact .ifc t v
 | Ap=>exact .Ap
 | Ho=>exact .Ho
 | Es ks vs b E k hb hw hn hl _ _ ih1 ih2=>exact .Es ks vs b E k (hM b hb).1 ((hM b hb).2.trans hw) hn hl ih1 ih2
theorem VR.one {w:World} {M:Nat→Prop} {v:PV} {c:Value} (h:VR w M v c) (hl:v.leaf=true):c.oneCell'=true:=by
 cases h<;>first | rfl | simp[PV.leaf]at hl
theorem VR.ED {w:World} {M:Nat→Prop} {v:PV} {c:Value} (h:VR w M v c) (hl:v.leaf=true):c.cells=#[c]:=by
 cases h<;>first | rfl | simp[PV.leaf]at hl
mutual
theorem Kd.beq_eq:∀ (x y:Kd),Kd.beq x y=true→x=y
 | .int j,.int k,h=>by simp[Kd.beq]at h;rw[h]
 | .bool,.bool,_=>rfl
 | .str,.str,_=>rfl
 | .slice a ks,.slice b ls,h=>by
  simp[Kd.beq]at h
  rw[h.1,Kd.mY ks ls h.2]
 | .other,.other,_=>rfl
 | .int _,.bool,h | .int _,.str,h | .int _,.slice _ _,h | .int _,.other,h
 | .bool,.int _,h | .bool,.str,h | .bool,.slice _ _,h | .bool,.other,h
 | .str,.int _,h | .str,.bool,h | .str,.slice _ _,h | .str,.other,h
 | .slice _ _,.int _,h | .slice _ _,.bool,h | .slice _ _,.str,h | .slice _ _,.other,h
 | .other,.int _,h | .other,.bool,h | .other,.str,h | .other,.slice _ _,h=>by simp[Kd.beq]at h
theorem Kd.mY:∀ (x y:List Kd),Kd.xB x y=true→x=y
 | [],[],_=>rfl
 | k::ks,l::ls,h=>by
  simp[Kd.xB]at h
  rw[Kd.beq_eq k l h.1,Kd.mY ks ls h.2]
 | [],_::_,h | _::_,[],h=>by simp[Kd.xB]at h
end
mutual
theorem Kd.beq_refl:∀ (x:Kd),Kd.beq x x=true
 | .int j=>by simp[Kd.beq]
 | .bool=>rfl
 | .str=>rfl
 | .slice a ks=>by simp[Kd.beq,Kd.jy ks]
 | .other=>rfl
theorem Kd.jy:∀ (x:List Kd),Kd.xB x x=true
 | []=>rfl
 | k::ks=>by simp[Kd.xB,Kd.beq_refl k,Kd.jy ks]
end
theorem iC {k:Kd} {v:PV} (h:kindOk k v=true):v.leaf=true:=by
 cases v<;>first | rfl | (cases k<;>simp[kindOk]at h)
theorem vJ {w:World} {M:Nat→Prop} {k:Kd} {v:PV} {c:Value} (hk:kindOk k v=true) (h:VR w M v c):VR w M (eta k v) c:=by
 cases k with
 | int j=>cases v<;>simp[kindOk]at hk;subst hk;exact h
 | bool=>cases v<;>simp[kindOk]at hk;exact h
 | str=>cases v<;>simp[kindOk]at hk;exact h
 | slice a ks =>
  cases v<;>simp[kindOk]at hk
  · obtain⟨rfl,h2⟩:=hk
    rw[← Kd.mY _ _ h2]at h
    exact h
  · cases h;exact .kZ a ks none 0
 | other=>exact h
theorem F8 {k:Kd} {v:PV} (hk:kindOk k v=true):(eta k v).leaf=true:=by
 cases k<;>first | rfl | exact iC hk
theorem Zt {k:Kd} {v:PV} (hk:kindOk k v=true):kindOk k (eta k v)=true:=by
 cases k with
 | slice a ks=>simp[eta,kindOk,Kd.jy]
 | other=>exact hk
 | _=>simp[eta,kindOk]
theorem fH:∀ {ks:List Kd} {vs:List PV},bC ks vs=true→ks.length=vs.length∧∀ (j:Nat) (k:Kd) (v:PV),ks[j]?=some k→vs[j]?=some v→kindOk k v=true
 | [],[],_=>⟨rfl,fun j k v h=>by simp at h⟩
 | k::ks,v::vs,h=>by
  simp[bC]at h
  obtain⟨h1,h2⟩:=fH h.2
  refine⟨by simp[h1],fun j k' v' hk hv=>?_⟩
  cases j with
  | zero=>simp at hk hv;subst hk;subst hv;exact h.1
  | succ j=>simp at hk hv;exact h2 j k' v' hk hv
 | [],_::_,h | _::_,[],h=>by simp[bC]at h
theorem lJ {a:Bool} {ks:List Kd} {x:PV} (h:au a ks x=true):bC ks x.cells=true:=by
 cases a with
 | true=>cases x<;>simp[au]at h;exact h
 | false =>
  match ks with
  | []=>simp[au]at h
  | [k] =>
   simp[au]at h
   have hl:=iC h
   cases x<;>first | (simp[PV.leaf]at hl;done) | simpa [PV.cells,bC] using h
  | _::_::_=>simp[au]at h
theorem bM {a:Bool} {ks:List Kd} {x:PV} (h:au a ks x=true):x.cells.length=ks.length:=(fH (lJ h)).1.symm
theorem qc {a:Bool} {ks:List Kd} {x:PV} (h:au a ks x=true) {j:Nat} {k:Kd} (hk:ks[j]?=some k):∃ c,x.cells[j]?=some c∧kindOk k c=true∧x.cell j=c:=by
 obtain⟨h1,h2⟩:=fH (lJ h)
 have hj:j<ks.length:=by
  have:=qLa.1 hk
  exact this.1
 have hj':j<x.cells.length:=by omega
 refine⟨x.cells[j],by simp,h2 j k _ hk (by simp),?_⟩
 cases x with
 | agg cs=>simp[PV.cells]at hj' ⊢;simp[PV.cell,List.getD,hj']
 | _=>simp[PV.cells]at hj' ⊢;simp[PV.cell]
def iL:PV→Value
 | .int .u8 n=>.int .u8 n
 | _=>undef
def Open (C:Array Value) (fr:Nat × Nat):Prop:=fr.1=fr.2∨C.size≤fr.1
theorem Open.at {C:Array Value} {fr:Nat × Nat} (h:Open C fr):∀ i,i<C.size→¬ (fr.1≤i∧i<fr.2):=by
 intro i hi hh
 rcases h with h | h<;>omega
theorem Open.size {C C':Array Value} {fr:Nat × Nat} (h:Open C fr) (hs:C'.size=C.size):Open C' fr:=by
 rcases h with h | h
 · exact .inl h
 · exact .inr (by omega)
def Room (w:World) (b n:Nat):Prop:=∃ C e fr,w.heap[b]?=some (.cells C e fr)∧n / 2≤C.size∧(n%2=0→Open C fr)
theorem Room.mk {w:World} {b n:Nat} {C:Array Value} {e:TypeId} {fr:Nat × Nat} (h:w.heap[b]?=some (.cells C e fr)) (hn:n≤C.size) (ho:Open C fr):Room w b (2*n):=⟨C,e,fr,h,by omega,fun _=>ho⟩
theorem Room.get {w:World} {b n:Nat} (h:Room w b (2*n)):∃ C e fr,w.heap[b]?=some (.cells C e fr)∧n≤C.size∧Open C fr:=by
 obtain⟨C,e,fr,h1,h2,h3⟩:=h
 exact⟨C,e,fr,h1,by omega,h3 (by omega)⟩
theorem Room.mkC {w:World} {b n:Nat} {C:Array Value} {e:TypeId} {fr:Nat × Nat} (h:w.heap[b]?=some (.cells C e fr)) (hn:n≤C.size):Room w b (2*n+1):=⟨C,e,fr,h,by omega,fun h=>by omega⟩
theorem Room.akr {w:World} {b n:Nat} (h:Room w b (2*n+1)):∃ C e fr,w.heap[b]?=some (.cells C e fr)∧n≤C.size:=by
 obtain⟨C,e,fr,h1,h2,h3⟩:=h
 exact⟨C,e,fr,h1,by omega⟩
def Past (n:Nat) (fr:Nat × Nat):Prop:=fr.1=fr.2∨fr.2≤n
theorem Past.mono {n m:Nat} {fr:Nat × Nat} (h:Past n fr) (hm:n≤m):Past m fr:=h.imp id fun h=>Nat.le_trans h hm
section
variable (w:World) (M:Nat→Prop) (β:Nat→Option (Nat × Nat)) (h:Nat→Option aJ)
inductive AR:AV→Value→Prop
 | undef (c:Value):AR .undef c
 | p (v:PV) (c:Value) (hv:VR w M v c):AR (.p v) c
 | slice (s off len : Nat) (a : Bool) (ks : List Kd) (xs : List PV) (b o cap : Nat) (hs : h s = some (.arr a ks xs)) (hl : off + len ≤ xs.length) (hb : β s = some (b,o))
     (hcap:len≤cap) (hr:Room w b (2*(o+(off+cap)*ks.length))):AR (.slice s ks.length off len) (.slice (some ⟨b,o+off*ks.length,none⟩) len cap)
 | sliceE (s off:Nat) (a:Bool) (ks:List Kd) (xs:List PV) (base:Option Addr) (hs:h s=some (.arr a ks xs)) (hl:off≤xs.length):AR (.slice s ks.length off 0) (.slice base 0 0)
 | bslice (s off len : Nat) (cs : List AV) (b o cap : Nat) (hs : h s = some (.box cs)) (hl : off + cap ≤ cs.length) (hb : β s = some (b,o))
     (hcap:len≤cap):AR (.bslice s off len) (.slice (some ⟨b,o+off,none⟩) len cap)
 | bsliceE (s off:Nat) (cs:List AV) (base:Option Addr) (hs:h s=some (.box cs)) (hl:off≤cs.length):AR (.bslice s off 0) (.slice base 0 0)
 | ptrB (s off:Nat) (cs:List AV) (b o:Nat) (hs:h s=some (.box cs)) (hb:β s=some (b,o)):AR (.ptr s 0 off) (.pointer (some ⟨b,o+off,none⟩))
 | ptrA (s idx off : Nat) (a : Bool) (ks : List Kd) (xs : List PV) (b o : Nat) (hs : h s = some (.arr a ks xs)) (hi : idx < xs.length) (hb : β s = some (b,o)) :
     AR (.ptr s idx off) (.pointer (some ⟨b,o+idx*ks.length+off,none⟩))
 | pI (a : Bool) (ks : List Kd) (x : PV) (off b o : Nat) (f : Nat → Value) (hM : M b) (hx : au a ks x = true)
     (hc:∀ (j:Nat) (c:PV),x.cells[j]?=some c→w.cell? ⟨b,o+j,none⟩=some (f j))
     (hv:∀ (j:Nat) (c:PV),x.cells[j]?=some c→VR w M c (f j)):AR (.pI a ks x off) (.pointer (some ⟨b,o+off,none⟩))
 | fn (f : Nat) (cs : List AV) (vs : Array Value) (hn : vs.size = cs.length)
     (hc:∀ (i:Nat) (c:AV),cs[i]?=some c→AR c (vs.getD i undef)):AR (.fn f cs) (.func (.func f) #[] vs)
 | agg (cs : List AV) (vs : Array Value) (hn : vs.size = cs.length) (hl : ∀ c ∈ cs,c.leaf = true)
     (hc:∀ (i:Nat) (c:AV),cs[i]?=some c→AR c (vs.getD i undef)):AR (.agg cs) (.agg vs)
 | nJ (cs : List AV) (vs : Array Value) (hn : vs.size = cs.length)
     (hc:∀ (i:Nat) (c:AV),cs[i]?=some c→AR c (vs.getD i undef)):AR (.nJ cs) (.tuple vs)
 | zq (l:Nat):AR .zq (.func (.yield l) #[] #[])
 | ptrT (s off:Nat) (t:TypeId) (c0 c1:AV) (b:Nat) (hs:h s=some (.tb t c0 c1)) (hb:β s=some (b,0)):AR (.ptr s 0 off) (.pointer (some ⟨b,off,none⟩))
 | EF (s:Nat) (t:TypeId) (es:List (PV × PV)) (b o:Nat) (hs:h s=some (.mp t es)) (hb:β s=some (b,o)):AR (.mref s) (.map (some b))
 | EG (s:Nat) (e:TypeId) (xs:List PV) (b cap:Nat) (hs:h s=some (.br e xs)) (hb:β s=some (b,0)) (hcap:xs.length≤cap) (h0:0<xs.length) (hr:Room w b (2*cap+1)):AR (.mref s) (.slice (some ⟨b,0,none⟩) xs.length cap)
 | vK (s:Nat) (e:TypeId) (hs:h s=some (.br e [])):AR (.mref s) (.slice none 0 0)
inductive BR (s:Nat):aJ→Prop
 | box (cs : List AV) (b o : Nat) (C : Array Value) (e : TypeId) (fr : Nat × Nat) (hb : β s = some (b,o)) (hw : w.heap[b]? = some (.cells C e fr)) (hn : o + cs.length ≤ C.size)
     (ho:Open C fr) (hl:∀ c∈cs,c.leaf=true) (hc:∀ (j:Nat) (c:AV),cs[j]?=some c→AR w M β h c (C.getD (o+j) undef)):BR s (.box cs)
 | gY (a:Bool) (ks:List Kd):BR s (.arr a ks [])
 | arr (a : Bool) (ks : List Kd) (xs : List PV) (b o : Nat) (C : Array Value) (e : TypeId) (fr : Nat × Nat) (hb : β s = some (b,o)) (hw : w.heap[b]? = some (.cells C e fr))
     (hn:o+xs.length*ks.length≤C.size) (ho:Open C fr) (hs:∀ x∈xs,au a ks x=true)
     (hc:∀ (i:Nat) (x:PV) (j:Nat) (c:PV),xs[i]?=some x→x.cells[j]?=some c→VR w M c (C.getD (o+i*ks.length+j) undef)):BR s (.arr a ks xs)
 | log (on:Bool) (xs:List PV):BR s (.log on xs)
 | tb (t : TypeId) (c0 c1 : AV) (b : Nat) (C : Array Value) (fr : Nat × Nat) (hb : β s = some (b,0)) (hw : w.heap[b]? = some (.cells C t fr)) (hn : C.size = 2) (ho : Open C fr)
     (hl0:c0.leaf=true) (hl1:c1.leaf=true) (h0:AR w M β h c0 (C.getD 0 undef)) (h1:AR w M β h c1 (C.getD 1 undef)):BR s (.tb t c0 c1)
 | mp (t : TypeId) (es : List (PV × PV)) (b o : Nat) (E : Array MapEntry) (k : Nat) (hb : β s = some (b,o)) (hw : w.heap[b]? = some (.map E k)) (hn : IQ E k es.length)
     (hc:∀ (i:Nat) (p:PV × PV) (e:MapEntry),es[i]?=some p→E[i]?=some e→VR w M p.1 e.key∧VR w M p.2 e.val):BR s (.mp t es)
 | EH (e:TypeId):BR s (.br e [])
 | br (e : TypeId) (xs : List PV) (b : Nat) (C : Array Value) (fr : Nat × Nat) (hb : β s = some (b,0)) (hw : w.heap[b]? = some (.cells C e fr)) (hn : xs.length ≤ C.size) (ho : Past xs.length fr)
     (hs:∀ x∈xs,au false [.int .u8] x=true) (hc:∀ (i:Nat) (x:PV),xs[i]?=some x→C.getD i undef=iL x):BR s (.br e xs)
end
def Like:aJ→aJ→Prop
 | .box cs,.box ds=>cs.length=ds.length
 | .arr a ks xs,.arr b ls ys=>a=b∧ks=ls∧xs.length≤ys.length
 | .log a _,.log b _=>a=b
 | .tb t _ _,.tb u _ _=>t=u
 | .mp t _,.mp u _=>t=u
 | .br e xs,.br f ys=>e=f∧xs.length=ys.length
 | _,_=>False
theorem Like.refl (x:aJ):Like x x:=by cases x<;>simp[Like]
def ae1:aJ→Nat→Prop
 | .br _ _,n=>n%2=1
 | .box _,_=>False
 | _,_=>True
theorem AR.ab5 {w w' : World} {M M' : Nat → Prop} {β β' : Nat → Option (Nat × Nat)} {h h' : Nat → Option aJ} (hM : ∀ b,M b → M' b ∧ w'.heap[b]? = w.heap[b]?)
    {v:AV} {c:Value} (hv:AR w M β h v c)
    (hs:∀ s blk,AV.refers [s] v=true→h s=some blk→∃ blk',h' s=some blk'∧Like blk blk'∧β' s=β s∧(∀ b o n,β s=some (b,o)→ae1 blk n→Room w b n→Room w' b n)):AR w' M' β' h' v c:=by
  have any:∀ (s:Nat) (cs:List AV) (i:Nat) (c:AV),cs[i]?=some c→AV.refers [s] c=true→AV.fK [s] cs=true:=by
   intro s cs
   induction cs with
   | nil=>intro i c hi;simp at hi
   | cons x r ih =>
    intro i c hi hr
    cases i with
    | zero=>simp at hi;subst hi;simp[AV.fK,hr]
    | succ i=>simp at hi;simp[AV.fK,ih i c hi hr]
  have me:∀ s:Nat,dR s [s]=true:=fun s=>by simp[dR]
  induction hv with
  | undef c=>exact .undef c
  | p v c hv=>exact .p v c (hv.mono hM)
  | slice s off len a ks xs b o cap h1 hl hb hcap hr =>
   obtain⟨blk',e1,e2,e3,e4⟩:=hs s _ (by simp[AV.refers,me]) h1
   cases blk' with
   | box cs=>exact e2.elim
   | log _ _=>exact e2.elim
   | tb _ _ _=>exact e2.elim
   | mp _ _=>exact e2.elim
   | br _ _=>exact e2.elim
   | arr a' ks' xs' =>
    obtain⟨rfl,rfl,h3⟩:=e2
    exact .slice s off len a ks xs' b o cap e1 (by omega) (e3▸hb) hcap (e4 _ _ _ hb trivial hr)
  | sliceE s off a ks xs base h1 hl =>
   obtain⟨blk',e1,e2,e3,e4⟩:=hs s _ (by simp[AV.refers,me]) h1
   cases blk' with
   | box cs=>exact e2.elim
   | log _ _=>exact e2.elim
   | tb _ _ _=>exact e2.elim
   | mp _ _=>exact e2.elim
   | br _ _=>exact e2.elim
   | arr a' ks' xs' =>
    obtain⟨rfl,rfl,h3⟩:=e2
    exact .sliceE s off a ks xs' base e1 (by omega)
  | bslice s off len cs b o cap h1 hl hb hcap =>
   obtain⟨blk',e1,e2,e3,e4⟩:=hs s _ (by simp[AV.refers,me]) h1
   cases blk' with
   | box cs'=>exact .bslice s off len cs' b o cap e1 (by have:cs.length=cs'.length:=e2;omega) (e3▸hb) hcap
   | arr _ _ _=>exact e2.elim
   | log _ _=>exact e2.elim
   | tb _ _ _=>exact e2.elim
   | mp _ _=>exact e2.elim
   | br _ _=>exact e2.elim
  | bsliceE s off cs base h1 hl =>
   obtain⟨blk',e1,e2,e3,e4⟩:=hs s _ (by simp[AV.refers,me]) h1
   cases blk' with
   | box cs'=>exact .bsliceE s off cs' base e1 (by have:cs.length=cs'.length:=e2;omega)
   | arr _ _ _=>exact e2.elim
   | log _ _=>exact e2.elim
   | tb _ _ _=>exact e2.elim
   | mp _ _=>exact e2.elim
   | br _ _=>exact e2.elim
  | ptrB s off cs b o h1 hb =>
   obtain⟨blk',e1,e2,e3,e4⟩:=hs s _ (by simp[AV.refers,me]) h1
   cases blk' with
   | box cs'=>exact .ptrB s off cs' b o e1 (e3▸hb)
   | arr _ _ _=>exact e2.elim
   | log _ _=>exact e2.elim
   | tb _ _ _=>exact e2.elim
   | mp _ _=>exact e2.elim
   | br _ _=>exact e2.elim
  | ptrA s idx off a ks xs b o h1 hi hb =>
   obtain⟨blk',e1,e2,e3,e4⟩:=hs s _ (by simp[AV.refers,me]) h1
   cases blk' with
   | box cs=>exact e2.elim
   | log _ _=>exact e2.elim
   | tb _ _ _=>exact e2.elim
   | mp _ _=>exact e2.elim
   | br _ _=>exact e2.elim
   | arr a' ks' xs' =>
    obtain⟨rfl,rfl,h3⟩:=e2
    exact .ptrA s idx off a ks xs' b o e1 (by omega) (e3▸hb)
  | pI a ks x off b o f hb hx hc hv =>
   exact .pI a ks x off b o f (hM b hb).1 hx (fun j c h1=>by rw[cell_of_heap (hM b hb).2];exact hc j c h1) (fun j c h1=>(hv j c h1).mono hM)
  | fn f cs vs hn _ ih=>exact .fn f cs vs hn fun i c hi=>ih i c hi fun s blk hr=>hs s blk (by simp only[AV.refers];exact any s cs i c hi hr)
  | agg cs vs hn hl _ ih=>exact .agg cs vs hn hl fun i c hi=>ih i c hi fun s blk hr=>hs s blk (by simp only[AV.refers];exact any s cs i c hi hr)
  | nJ cs vs hn _ ih=>exact .nJ cs vs hn fun i c hi=>ih i c hi fun s blk hr=>hs s blk (by simp only[AV.refers];exact any s cs i c hi hr)
  | zq l=>exact .zq l
  | ptrT s off t c0 c1 b h1 hb =>
   obtain⟨blk',e1,e2,e3,e4⟩:=hs s _ (by simp[AV.refers,me]) h1
   cases blk' with
   | box cs=>exact e2.elim
   | log _ _=>exact e2.elim
   | arr _ _ _=>exact e2.elim
   | mp _ _=>exact e2.elim
   | br _ _=>exact e2.elim
   | tb t' c0' c1'=>exact .ptrT s off t' c0' c1' b e1 (e3▸hb)
  | EF s t es b o h1 hb =>
   obtain⟨blk',e1,e2,e3,e4⟩:=hs s _ (by simp[AV.refers,me]) h1
   cases blk' with
   | box cs=>exact e2.elim
   | log _ _=>exact e2.elim
   | arr _ _ _=>exact e2.elim
   | tb _ _ _=>exact e2.elim
   | br _ _=>exact e2.elim
   | mp t' es'=>exact .EF s t' es' b o e1 (e3▸hb)
  | EG s e xs b cap h1 hb hcap h0 hr =>
   obtain⟨blk',e1,e2,e3,e4⟩:=hs s _ (by simp[AV.refers,me]) h1
   cases blk' with
   | box cs=>exact e2.elim
   | log _ _=>exact e2.elim
   | arr _ _ _=>exact e2.elim
   | tb _ _ _=>exact e2.elim
   | mp _ _=>exact e2.elim
   | br e' xs' =>
    obtain⟨rfl,h3⟩:=e2
    rw[h3]
    exact .EG s e xs' b cap e1 (e3▸hb) (by omega) (by omega) (e4 _ _ _ hb (show (2*cap+1)%2=1 by omega) hr)
  | vK s e h1 =>
   obtain⟨blk',e1,e2,e3,e4⟩:=hs s _ (by simp[AV.refers,me]) h1
   cases blk' with
   | box cs=>exact e2.elim
   | log _ _=>exact e2.elim
   | arr _ _ _=>exact e2.elim
   | tb _ _ _=>exact e2.elim
   | mp _ _=>exact e2.elim
   | br e' xs' =>
    obtain⟨rfl,h3⟩:=e2
    have:xs'=[]:=List.length_eq_zero_iff.1 (by simpa using h3.symm)
    subst this
    exact .vK s e e1
theorem AR.mono {w w' : World} {M M' : Nat → Prop} {β β' : Nat → Option (Nat × Nat)} {h h' : Nat → Option aJ} (hM : ∀ b,M b → M' b ∧ w'.heap[b]? = w.heap[b]?)
    {v:AV} {c:Value} (hv:AR w M β h v c)
    (hs:∀ s blk,AV.refers [s] v=true→h s=some blk→∃ blk',h' s=some blk'∧Like blk blk'∧β' s=β s∧(∀ b o n,β s=some (b,o)→Room w b n→Room w' b n)):AR w' M' β' h' v c :=
  hv.ab5 hM fun s blk h1 h2=>let ⟨blk',e1,e2,e3,e4⟩:=hs s blk h1 h2;⟨blk',e1,e2,e3,fun b o n h _ hr=>e4 b o n h hr⟩
structure Base where
 wd:World
 n0:Nat
 le:n0≤wd.heap.size
 gl:Option (List (Nat × Obj))
abbrev Base.heap (b:Base):=b.wd.heap
abbrev Base.os (b:Base):=b.wd.os
abbrev Base.tape (b:Base):=b.wd.tape
abbrev Base.output (b:Base):=b.wd.output
abbrev Base.drawn (b:Base):=b.wd.drawn
theorem Base.le' (b:Base):b.n0≤b.heap.size:=b.le
structure Rel (w0:Base) (Pr M0:Nat→Prop) (M:Nat→Prop) (β:Nat→Option (Nat × Nat)) (st:St) (a:Act) (w:World):Prop where
 lC:st.env.length≤a.tmps.size
 env:∀ (t:Nat) (v:AV),st.env[t]?=some v→AR w M β (look st.heap) v (a.tmps.getD t undef)
 heap:∀ s blk,look st.heap s=some blk→BR w M β (look st.heap) s blk
 own:∀ s b o,(look st.heap s).isSome=true→β s=some (b,o)→¬ M b∧b<w.heap.size∧((w0.heap.size≤b∨Pr b)∧(w0.n0≤b∨ah≤s))
 inj:∀ s s' b o o',(look st.heap s).isSome=true→(look st.heap s').isSome=true→β s=some (b,o)→β s'=some (b,o')→s=s'
 fB:∀ b,M b→b<w.heap.size
 jQ:∀ b,M b→M0 b∨(w0.n0≤b∧(w0.heap.size≤b∨Pr b))
 oD:∀ b,M0 b→M b
 keep:∀ b,b<w0.heap.size→¬ Pr b→w.heap[b]?=w0.heap[b]?
 room:∀ b n,b<w0.n0→Pr b→Room w0.wd b n→Room w b n
 size:w0.heap.size≤w.heap.size
 os:w.os=w0.os
 tape:w.tape=w0.tape
 output:w.output=w0.output
 glob:∀ p∈w0.gl.getD [],M p.1∧w.heap[p.1]?=some p.2
end Go.Skm
namespace Go.Skm
theorem jr {x:Nat}:∀ {l:List Nat},dR x l=true↔x∈l
 | []=>by simp[dR]
 | y::r=>by
  simp only[dR,List.mem_cons]
  by_cases h:x=y
  · simp[h]
  · have h':(x==y)=false:=by simpa using h
    simp[h',h,jr]
theorem dL {x:Nat} {l:List Nat}:dR x l=false↔x ∉ l:=by
 rw[← jr];simp
theorem aZ (hp:Heap) (s:Nat) (b:aJ) (x:Nat):look (put hp s b) x=if x=s then some b else look hp x:=by
 induction hp with
 | nil =>
  by_cases h:x=s
  · subst h;simp[put,look]
  · have h':(s==x)=false:=by simpa using fun e=>h e.symm
    simp[put,look,h,h']
 | cons p r ih =>
  obtain⟨k,c⟩:=p
  by_cases hk:k=s
  · subst hk
    by_cases h:x=k
    · subst h;simp[put,look]
    · have h':(k==x)=false:=by simpa using fun e=>h e.symm
      simp[put,look,h,h']
  · have hk':(k==s)=false:=by simpa using hk
    by_cases h:x=s
    · subst h
      have hx:(k==x)=false:=hk'
      simp only[put,hk',cond_false,look,ih,if_true]
    · by_cases hx:k=x
      · subst hx;simp[put,hk',look,h]
      · have hx':(k==x)=false:=by simpa using hx
        simp only[put,hk',cond_false,look,hx',ih,h,if_false]
theorem UZ (hp:Heap) (s x:Nat):look (drop1 hp s) x=if x=s then none else look hp x:=by
 induction hp with
 | nil=>simp[drop1,look]
 | cons p r ih =>
  obtain⟨k,c⟩:=p
  by_cases hk:k=s
  · subst hk
    by_cases h:x=k
    · subst h;simp[drop1,ih]
    · have h':(k==x)=false:=by simpa using fun e=>h e.symm
      simp[drop1,look,ih,h,h']
  · have hk':(k==s)=false:=by simpa using hk
    by_cases h:x=s
    · subst h
      have hx:(k==x)=false:=hk'
      simp[drop1,hk',look,ih]
    · by_cases hx:k=x
      · subst hx;simp[drop1,hk',look,h]
      · have hx':(k==x)=false:=by simpa using hx
        simp[drop1,hk',look,hx',ih,h]
theorem qg (x:Nat):∀ (ss:List Nat) (hp:Heap),look (lS hp ss) x=if x∈ss then none else look hp x
 | [],hp=>by simp[lS]
 | s::r,hp=>by
  simp only[lS,qg x r,UZ,List.mem_cons]
  by_cases h1:x∈r<;>by_cases h2:x=s<;>simp[h1,h2]
theorem fA (ss:List Nat) (x:Nat):∀ (hp:Heap),look (fE ss hp) x=(look hp x).map (aJ.kill ss)
 | []=>rfl
 | (k,b)::r=>by
  by_cases h:(k==x)=true
  · simp[fE,look,h]
  · have h':(k==x)=false:=by simpa using h
    simp[fE,look,h',fA ss x r]
theorem iP (ss:List Nat):∀ (env:List AV) (t:Nat),(fU ss env)[t]?=(env[t]?).map (AV.kill ss)
 | [],t=>by simp[fU]
 | v::r,0=>by simp[fU]
 | v::r,t+1=>by simp[fU,iP ss r t]
theorem ku (ss:List Nat):∀ (env:List AV),(fU ss env).length=env.length
 | []=>rfl
 | v::r=>by simp[fU,ku ss r]
theorem aJ.uz (ss:List Nat) (b:aJ):Like b (b.kill ss):=by
 cases b with
 | box cs=>simp[aJ.kill,Like,ku]
 | arr a ks xs=>exact Like.refl _
 | log on xs=>exact Like.refl _
 | tb t c0 c1=>exact rfl
 | mp t es=>exact Like.refl _
 | br e xs=>exact Like.refl _
theorem AV.OL {ss:List Nat} {v:AV} (h:v.leaf=true):(AV.kill ss v).leaf=true:=by
 unfold AV.kill
 cases AV.refers ss v with
 | true=>rfl
 | false=>exact h
mutual
theorem Lh {s:Nat} {ss:List Nat} (hs:s∈ss):∀ (v:AV),AV.refers ss v=false→AV.refers [s] v=false
 | .undef,_=>rfl
 | .p _,_=>rfl
 | .pI _ _ _ _,_=>rfl
 | .fresh _ _ _,_=>rfl
 | .zq,_=>rfl
 | .slice x _ _ _,h=>by
  simp only[AV.refers]at *;rw[dL]at *;simp;rintro rfl;exact h hs
 | .bslice x _ _,h=>by
  simp only[AV.refers]at *;rw[dL]at *;simp;rintro rfl;exact h hs
 | .ptr x _ _,h=>by
  simp only[AV.refers]at *;rw[dL]at *;simp;rintro rfl;exact h hs
 | .mref x,h=>by
  simp only[AV.refers]at *;rw[dL]at *;simp;rintro rfl;exact h hs
 | .fn _ cs,h=>by simp only[AV.refers]at *;exact qU hs cs h
 | .agg cs,h=>by simp only[AV.refers]at *;exact qU hs cs h
 | .nJ cs,h=>by simp only[AV.refers]at *;exact qU hs cs h
theorem qU {s:Nat} {ss:List Nat} (hs:s∈ss):∀ (cs:List AV),AV.fK ss cs=false→AV.fK [s] cs=false
 | [],_=>rfl
 | v::r,h=>by
  simp only[AV.fK,Bool.or_eq_false_iff]at *
  exact⟨Lh hs v h.1,qU hs r h.2⟩
end
section
variable {w0:Base} {Pr M0 M:Nat→Prop} {β:Nat→Option (Nat × Nat)} {st:St} {a:Act} {w:World}
theorem Rel.congr (r:Rel w0 Pr M0 M β st a w) {hp:Heap} (h:∀ s,look hp s=look st.heap s):Rel w0 Pr M0 M β { st with heap:=hp } a w:=by
 have e:look hp=look st.heap:=funext h
 exact⟨r.lC,by rw[e];exact r.env,by rw[e];exact r.heap,by rw[e];exact r.own,by rw[e];exact r.inj,r.fB,r.jQ,r.oD,r.keep,r.room,r.size,r.os,r.tape,r.output,r.glob⟩
theorem Rel.kill (r:Rel w0 Pr M0 M β st a w) (ss:List Nat):Rel w0 Pr M0 M β (st.kill ss) a w:=by
 cases ss with
 | nil=>exact r
 | cons s0 sr =>
  have hlk:∀ x,look (fE (s0::sr) st.heap) x=(look st.heap x).map (aJ.kill (s0::sr)):=fun x=>fA _ _ _
  have key:∀ (v:AV) (c:Value),AR w M β (look st.heap) v c→AR w M β (look (fE (s0::sr) st.heap)) (AV.kill (s0::sr) v) c:=by
   intro v c h
   unfold AV.kill
   cases hr:AV.refers (s0::sr) v with
   | true=>exact .undef c
   | false =>
    refine h.mono (fun b hb=>⟨hb,rfl⟩) fun s blk _ hl=>⟨blk.kill (s0::sr),?_,aJ.uz _ _,rfl,fun _ _ _ _ h=>h⟩
    rw[hlk,hl];rfl
  refine⟨by simp only[St.kill,ku];exact r.lC,?_,?_,?_,?_,r.fB,r.jQ,r.oD,r.keep,r.room,r.size,r.os,r.tape,r.output,r.glob⟩
  · intro t v hv
    simp only[St.kill,iP]at hv
    cases he:st.env[t]? with
    | none=>rw[he]at hv;simp at hv
    | some v'=>rw[he]at hv;simp at hv;subst hv;exact key _ _ (r.env t v' he)
  · intro s blk hb
    simp only[St.kill,hlk]at hb
    cases he:look st.heap s with
    | none=>rw[he]at hb;simp at hb
    | some b' =>
     rw[he]at hb;simp at hb;subst hb
     cases r.heap s b' he with
     | box cs b o C e fr h1 h2 h3 h4 h5 h6 =>
      refine .box _ b o C e fr h1 h2 (by rw[ku];exact h3) h4 ?_ ?_
      · intro c hc
        obtain⟨i,hi⟩:=List.mem_iff_getElem?.1 hc
        rw[iP]at hi
        cases hx:cs[i]? with
        | none=>rw[hx]at hi;simp at hi
        | some x =>
         rw[hx]at hi;simp at hi;subst hi
         unfold AV.kill
         cases AV.refers (s0::sr) x with
         | true=>rfl
         | false=>exact h5 x (qLe hx)
      · intro j c hc
        rw[iP]at hc
        cases hx:cs[j]? with
        | none=>rw[hx]at hc;simp at hc
        | some x=>rw[hx]at hc;simp at hc;subst hc;exact key _ _ (h6 j x hx)
     | gY a ks=>exact .gY a ks
     | log on ys=>exact .log on ys
     | arr a ks xs b o C e fr h1 h2 h3 h4 h5 h6=>exact .arr a ks xs b o C e fr h1 h2 h3 h4 h5 h6
     | tb t c0 c1 b C fr h1 h2 h3 h4 h5 h6 h7 h8=>exact .tb t _ _ b C fr h1 h2 h3 h4 (AV.OL h5) (AV.OL h6) (key _ _ h7) (key _ _ h8)
     | mp t es b o E k h1 h2 h3 h4=>exact .mp t es b o E k h1 h2 h3 h4
     | EH e=>exact .EH e
     | br e xs b C fr h1 h2 h3 h4 g5 g6=>exact .br e xs b C fr h1 h2 h3 h4 g5 g6
  · intro s b o hl hb
    simp only[St.kill,hlk,Option.isSome_map]at hl
    exact r.own s b o hl hb
  · intro s s' b o o' hl hl' h1 h2
    simp only[St.kill,hlk,Option.isSome_map]at hl hl'
    exact r.inj s s' b o o' hl hl' h1 h2
theorem qh {s:Nat} {ss:List Nat} (hs:s∈ss) (v:AV):AV.refers [s] (AV.kill ss v)=false:=by
 unfold AV.kill
 cases h:AV.refers ss v with
 | true=>rfl
 | false=>exact Lh hs v h
theorem Rel.strike (r : Rel w0 Pr M0 M β st a w) (ss : List Nat) {M' : Nat → Prop} (h1 : ∀ b,M b → M' b)
    (h2:∀ b,M' b→M b∨(w0.n0≤b∧∃ s o,s∈ss∧(look st.heap s).isSome=true∧β s=some (b,o))):Rel w0 Pr M0 M' β (st.strike ss) a w:=by
  have hsub:∀ b,M' b→b<w.heap.size:=fun b hb=>by
   rcases h2 b hb with h | ⟨_,s,o,_,h,h'⟩
   · exact r.fB b h
   · exact(r.own s b o h h').2.1
  have hnew:∀ b,M' b→M0 b∨(w0.n0≤b∧(w0.heap.size≤b∨Pr b)):=fun b hb=>by
   rcases h2 b hb with h | ⟨h,s,o,_,g1,g2⟩
   · exact r.jQ b h
   · exact .inr ⟨h,(r.own s b o g1 g2).2.2.1⟩
  cases ss with
  | nil =>
   have e : M' = M := funext fun b => propext ⟨fun hb => by rcases h2 b hb with h | ⟨_, s, o, h, _⟩; · exact h
                                                            · simp at h,h1 b⟩
   rw[e];exact r
  | cons s0 sr =>
   have rk:=r.kill (s0::sr)
   have hlk:∀ x,look (lS (fE (s0::sr) st.heap) (s0::sr)) x=if x∈s0::sr then none else look (fE (s0::sr) st.heap) x:=fun x=>qg x _ _
   have adg:∀ x,(look (fE (s0::sr) st.heap) x).isSome=(look st.heap x).isSome:=fun x=>by rw[fA];simp
   have key : ∀ (v : AV) (c : Value),(∀ s,s ∈ s0::sr → AV.refers [s] v = false) → AR w M β (look (fE (s0::sr) st.heap)) v c →
       AR w M' β (look (lS (fE (s0::sr) st.heap) (s0::sr))) v c:=by
     intro v c hr h
     refine h.mono (fun b hb=>⟨h1 b hb,rfl⟩) fun s blk hrs hl=>⟨blk,?_,Like.refl _,rfl,fun _ _ _ _ h=>h⟩
     rw[hlk,if_neg (fun hm=>by rw[hr s hm]at hrs;cases hrs)];exact hl
   refine⟨rk.lC,?_,?_,?_,?_,hsub,hnew,fun b hb=>h1 b (r.oD b hb),r.keep,r.room,r.size,r.os,r.tape,r.output,fun p hp=>⟨h1 _ (r.glob p hp).1,(r.glob p hp).2⟩⟩
   · intro t v hv
     refine key v _ ?_ (rk.env t v hv)
     intro s hs
     simp only[St.strike,iP]at hv
     cases he:st.env[t]? with
     | none=>rw[he]at hv;simp at hv
     | some v'=>rw[he]at hv;simp at hv;subst hv;exact qh hs v'
   · intro s blk hb
     simp only[St.strike,hlk]at hb
     by_cases hm:s∈s0::sr
     · rw[if_pos hm]at hb;cases hb
     · rw[if_neg hm]at hb
       have hb':=hb
       rw[fA]at hb'
       cases he:look st.heap s with
       | none=>rw[he]at hb';simp at hb'
       | some b' =>
        rw[he]at hb';simp at hb'
        cases rk.heap s blk hb with
        | box cs b o C e fr g1 g2 g3 g4 g5 g6 =>
         refine .box _ b o C e fr g1 g2 g3 g4 g5 fun j c hc=>key c _ ?_ (g6 j c hc)
         intro s' hs'
         cases b' with
         | arr a ks xs=>simp[aJ.kill]at hb'
         | log on xs=>simp[aJ.kill]at hb'
         | tb t c0 c1=>simp[aJ.kill]at hb'
         | mp t es=>simp[aJ.kill]at hb'
         | br e xs=>simp[aJ.kill]at hb'
         | box ds =>
          simp only[aJ.kill,aJ.box.injEq]at hb'
          rw[← hb',iP]at hc
          cases hx:ds[j]? with
          | none=>rw[hx]at hc;simp at hc
          | some x=>rw[hx]at hc;simp at hc;subst hc;exact qh hs' x
        | gY a ks=>exact .gY a ks
        | log on ys=>exact .log on ys
        | arr a ks xs b o C e fr g1 g2 g3 g4 g5 g6=>exact .arr a ks xs b o C e fr g1 g2 g3 g4 g5 fun i x j c hi hj=>(g6 i x j c hi hj).mono fun b hb=>⟨h1 b hb,rfl⟩
        | tb t c0 c1 b C fr g1 g2 g3 g4 g5 g6 g7 g8 =>
         cases b' with
         | arr a ks xs=>simp[aJ.kill]at hb'
         | log on xs=>simp[aJ.kill]at hb'
         | box ds=>simp[aJ.kill]at hb'
         | mp t es=>simp[aJ.kill]at hb'
         | br e xs=>simp[aJ.kill]at hb'
         | tb t' d0 d1 =>
          simp only[aJ.kill,aJ.tb.injEq]at hb'
          obtain⟨rfl,rfl,rfl⟩:=hb'
          exact .tb _ _ _ b C fr g1 g2 g3 g4 g5 g6 (key _ _ (fun s' hs'=>qh hs' d0) g7) (key _ _ (fun s' hs'=>qh hs' d1) g8)
        | mp t es b o E k g1 g2 g3 g4=>exact .mp t es b o E k g1 g2 g3 fun i p e hi he=>⟨(g4 i p e hi he).1.mono fun b hb=>⟨h1 b hb,rfl⟩,(g4 i p e hi he).2.mono fun b hb=>⟨h1 b hb,rfl⟩⟩
        | EH e=>exact .EH e
        | br e xs b C fr g1 g2 g3 g4 g5 g6=>exact .br e xs b C fr g1 g2 g3 g4 g5 g6
   · intro s b o hl hb
     simp only[St.strike,hlk]at hl
     by_cases hm:s∈s0::sr
     · rw[if_pos hm]at hl;cases hl
     · rw[if_neg hm,adg]at hl
       obtain⟨g1,g2,g3⟩:=r.own s b o hl hb
       refine⟨fun hM=>?_,g2,g3⟩
       rcases h2 b hM with h | ⟨_,s',o',hs',hl',hb'⟩
       · exact g1 h
       · exact hm (by rw[r.inj s s' b o o' hl hl' hb hb'];exact hs')
   · intro s s' b o o' hl hl' h3 h4
     simp only[St.strike,hlk]at hl hl'
     by_cases hm:s∈s0::sr
     · rw[if_pos hm]at hl;cases hl
     · by_cases hm':s'∈s0::sr
       · rw[if_pos hm']at hl';cases hl'
       · rw[if_neg hm,adg]at hl
         rw[if_neg hm',adg]at hl'
         exact r.inj s s' b o o' hl hl' h3 h4
theorem Rel.setEnv (r : Rel w0 Pr M0 M β st a w) (d : Option Nat) {v : AV} {c : Value} (h : AR w M β (look st.heap) v c) :
    Rel w0 Pr M0 M β { st with env:=Skm.setEnv st.env d v } (a.put d c) w:=by
  cases d with
  | none=>exact r
  | some d =>
   refine⟨by simp only[Skm.setEnv,Act.put,List.length_set,Array.size_setIfInBounds];exact r.lC,?_,r.heap,r.own,r.inj,r.fB,r.jQ,r.oD,r.keep,r.room,r.size,r.os,r.tape,r.output,r.glob⟩
   intro t u hu
   have ht:t<st.env.length:=by
    have:=(qLa.1 hu).1
    simpa [Skm.setEnv] using this
   have ht':t<a.tmps.size:=by have:=r.lC;omega
   by_cases hd:d=t
   · subst hd
     simp[Skm.setEnv,ht]at hu
     subst hu
     simpa [Act.put,ht'] using h
   · simp only[Skm.setEnv,List.getElem?_set_ne hd]at hu
     simpa [Act.put,hd,qAe hd] using r.env t u hu
theorem Rel.Wv (r : Rel w0 Pr M0 M β st a w) {env : List AV} (hl : env.length = st.env.length) (h : ∀ (t : Nat) (v : AV),env[t]? = some v → v = .undef ∨ st.env[t]? = some v) :
    Rel w0 Pr M0 M β { st with env:=env } a w :=
  ⟨by simpa [hl] using r.lC, fun t v hv => by rcases h t v hv with rfl | h'; · exact .undef _
                                              · exact r.env t v h',r.heap,r.own,r.inj,r.fB,r.jQ,r.oD,r.keep,r.room,r.size,r.os,r.tape,r.output,r.glob⟩
end
end Go.Skm
namespace Go.Skm
theorem Jt {P:Program} {w w':World} {at_ k:Addr} {u:TypeId} {v:Value} {at1:Bool} {l:List Addr} (h:w.viewStore P at_ u k v at1=.ok (w',l)):w'.drawn=w.drawn:=by
 unfold World.viewStore at h
 simp only[bind,Except.bind,pure,Except.pure]at h
 repeat' (split at h<;>try (cases h;done))
 all_goals (first | (cases h;rfl) | (simp only[throw,throwThe,MonadExceptOf.throw]at h;cases h))
theorem H9 {α:Type}:∀ (a:Ask α) (w:World),w.drawn≤(w.ask a).2.drawn
 | .done a,w=>Nat.le_refl _
 | .ask what range k,w=>by
  unfold World.ask
  simp only
  split
  · exact H9 _ w
  · exact Nat.le_trans (Nat.le_succ _) (H9 _ { w with drawn:=w.drawn+1 })
theorem Xz {P:Program} {α:Type}:∀ (s:Sem α) {w w':World} {a:α},s.run P w=.ok a w'→w.drawn≤w'.drawn:=by
 intro s
 induction s with
 | pure a=>intro w w' b h;simp only[Sem.run]at h;cases h;exact Nat.le_refl _
 | load m a k ih =>
  intro w w' b h
  simp only[Sem.run]at h
  split at h
  · exact ih _ h
  · split at h
    · exact ih _ h
    · cases h
 | store m a v k ih =>
  intro w w' b h
  have key:(match w.cell? a with
   | some _ => if w.frozen? a then .halt (.unsupported (.unsafePointer "a write to bytes that a string shares")) w else k.run P (w.setCell a v)
   | none=>match w.farStore P a v (m==.atomic) with
    | .ok (w,_)=>k.run P w
    | .error h=>.halt h w)=Result.ok b w':=by
   cases v<;>first | exact h | (simp only[Sem.run]at h;cases h)
  split at key
  · split at key
    · cases key
    · exact ih (w:=w.setCell a v) key
  · split at key
    · rename_i w2 l hw
      have:w2.drawn=w.drawn:=by
       unfold World.farStore at hw
       split at hw
       · split at hw
         · rename_i r hr
           cases hw
           exact Jt hr
         · cases hw
       · cases hw
      rw[← this];exact ih key
    · cases key
 | new o k ih=>intro w w' b h;simp only[Sem.run]at h;exact ih _ (w:={ w with heap:=w.heap.push o }) h
 | shape r k ih=>intro w w' b h;simp only[Sem.run]at h;exact ih _ h
 | freeze a n k ih =>
  intro w w' b h
  simp only[Sem.run]at h
  have:=ih h
  unfold World.freeze at this
  split at this<;>exact this
 | frozen a k ih=>intro w w' b h;simp only[Sem.run]at h;exact ih _ h
 | getObj r k ih =>
  intro w w' b h
  simp only[Sem.run]at h
  split at h
  · cases h
  · exact ih _ h
  · cases h
 | setObj r o k ih =>
  intro w w' b h
  simp only[Sem.run]at h
  split at h
  · cases h
  · exact ih (w:={ w with heap:=w.heap.setIfInBounds r o }) h
  · cases h
 | choose q k ih =>
  intro w w' b h
  simp only[Sem.run]at h
  split at h
  · exact ih _ h
  · exact Nat.le_trans (Nat.le_succ _) (ih _ (w:={ w with drawn:=w.drawn+1 }) h)
 | sys c k ih =>
  intro w w' b h
  simp only[Sem.run]at h
  refine Nat.le_trans ?_ (ih _ h)
  unfold World.sys
  have:=H9 (Kernel.perform c w.os) w
  split
  · exact Nat.le_refl _
  · rename_i r os w2 hr
    rw[hr]at this
    exact this
 | program k ih=>intro w w' b h;simp only[Sem.run]at h;exact ih _ h
 | mark m k ih=>intro w w' b h;simp only[Sem.run]at h;exact ih h
 | halt h0=>intro w w' b h;simp only[Sem.run]at h;cases h
section
variable {w0:Base} {Pr M0 M:Nat→Prop} {β:Nat→Option (Nat × Nat)} {st:St} {a:Act} {w:World}
theorem Room.of_block {w w':World} {b n:Nat} (h:w'.heap[b]?=w.heap[b]?) (hr:Room w b n):Room w' b n:=by
 obtain⟨C,e,fr,h1,h2,h3⟩:=hr
 exact⟨C,e,fr,by rw[h];exact h1,h2,h3⟩
theorem Room.mono {w:World} {b n m:Nat} (hr:Room w b (2*n)) (h:m≤n):Room w b (2*m):=by
 obtain⟨C,e,fr,h1,h2,h3⟩:=hr.get
 exact Room.mk h1 (by omega) h3
theorem Rel.world (r : Rel w0 Pr M0 M β st a w) {w' : World} {M' : Nat → Prop} (hsz : w.heap.size ≤ w'.heap.size) (hos : w'.os = w.os) (htp : w'.tape = w.tape) (hop : w'.output = w.output)
    (hb:∀ b,b<w.heap.size→(M b∨(∃ s o,(look st.heap s).isSome=true∧β s=some (b,o))∨(b<w0.heap.size∧¬ Pr b))→w'.heap[b]?=w.heap[b]?)
    (hrm:∀ b n,b<w0.n0→b<w.heap.size→Pr b→Room w b n→Room w' b n) (h1:∀ b,M b→M' b) (h2:∀ b,M' b→M b∨(w.heap.size≤b∧b<w'.heap.size)):Rel w0 Pr M0 M' β st a w':=by
  have hM:∀ b,M b→M' b∧w'.heap[b]?=w.heap[b]?:=fun b h=>⟨h1 b h,hb b (r.fB b h) (.inl h)⟩
  have hB:∀ s b o,(look st.heap s).isSome=true→β s=some (b,o)→w'.heap[b]?=w.heap[b]?:=fun s b o h3 h4=>hb b (r.own s b o h3 h4).2.1 (.inr (.inl ⟨s,o,h3,h4⟩))
  have key:∀ (v:AV) (c:Value),AR w M β (look st.heap) v c→AR w' M' β (look st.heap) v c:=fun v c h =>
   h.mono hM fun s blk _ hl=>⟨blk,hl,Like.refl _,rfl,fun b o n h3 hr=>hr.of_block (hB s b o (by rw[hl];rfl) h3)⟩
  refine⟨r.lC,fun t v h=>key _ _ (r.env t v h),?_,?_,r.inj,?_,?_,fun b h=>h1 b (r.oD b h),?_,fun b n h3 h4 h5=>hrm b n h3 (by have:=r.size;have:=w0.le';omega) h4 (r.room b n h3 h4 h5),by have:=r.size;omega,hos.trans r.os,htp.trans r.tape,hop.trans r.output,fun p hp=>⟨(hM _ (r.glob p hp).1).1,(hM _ (r.glob p hp).1).2.trans (r.glob p hp).2⟩⟩
  · intro s blk hl
    have hi:(look st.heap s).isSome=true:=by rw[hl];rfl
    cases r.heap s blk hl with
    | box cs b o C e fr g1 g2 g3 g4 g5 g6=>exact .box _ b o C e fr g1 (by rw[hB s b o hi g1];exact g2) g3 g4 g5 fun j c hc=>key _ _ (g6 j c hc)
    | gY a ks=>exact .gY a ks
    | log on ys=>exact .log on ys
    | arr a ks xs b o C e fr g1 g2 g3 g4 g5 g6=>exact .arr a ks xs b o C e fr g1 (by rw[hB s b o hi g1];exact g2) g3 g4 g5 fun i x j c hx hc=>(g6 i x j c hx hc).mono hM
    | tb t c0 c1 b C fr g1 g2 g3 g4 g5 g6 g7 g8=>exact .tb t c0 c1 b C fr g1 (by rw[hB s b 0 hi g1];exact g2) g3 g4 g5 g6 (key _ _ g7) (key _ _ g8)
    | mp t es b o E k g1 g2 g3 g4=>exact .mp t es b o E k g1 (by rw[hB s b o hi g1];exact g2) g3 fun i p e hi he=>⟨(g4 i p e hi he).1.mono hM,(g4 i p e hi he).2.mono hM⟩
    | EH e=>exact .EH e
    | br e xs b C fr g1 g2 g3 g4 g5 g6=>exact .br e xs b C fr g1 (by rw[hB s b 0 hi g1];exact g2) g3 g4 g5 g6
  · intro s b o hl h3
    obtain⟨g1,g2,g3⟩:=r.own s b o hl h3
    refine⟨fun hm=>?_,by omega,g3⟩
    rcases h2 b hm with h | h
    · exact g1 h
    · omega
  · intro b h
    rcases h2 b h with h | h
    · have:=r.fB b h;omega
    · omega
  · intro b h
    rcases h2 b h with h | h
    · exact r.jQ b h
    · right;have:=r.size;have:=w0.le';exact⟨by omega,.inl (by omega)⟩
  · intro b h3 h4
    rw[hb b (by have:=r.size;omega) (.inr (.inr ⟨h3,h4⟩)),r.keep b h3 h4]
theorem Rel.lay (r : Rel w0 Pr M0 M β st a w) {s : Nat} {blk : aJ} (hs : look st.heap s = none) {p : Option (Nat × Nat)}
    (hp:∀ b o,p=some (b,o)→¬ M b∧b<w.heap.size∧((w0.heap.size≤b∨Pr b)∧(w0.n0≤b∨ah≤s))∧(∀ s' o',(look st.heap s').isSome=true→β s'≠some (b,o')))
    (hb:BR w M (fun x=>if x=s then p else β x) (fun x=>if x=s then some blk else look st.heap x) s blk) :
    Rel w0 Pr M0 M (fun x=>if x=s then p else β x) { st with heap:=put st.heap s blk } a w:=by
  have hlk:look (put st.heap s blk)=fun x=>if x=s then some blk else look st.heap x:=funext fun x=>aZ _ _ _ _
  have key:∀ (v:AV) (c:Value),AR w M β (look st.heap) v c→AR w M (fun x=>if x=s then p else β x) (look (put st.heap s blk)) v c:=by
   intro v c h
   refine h.mono (fun b hb=>⟨hb,rfl⟩) fun s' blk' _ hl=>?_
   have hne:s'≠s:=by rintro rfl;rw[hs]at hl;cases hl
   exact⟨blk',by rw[hlk];simp only[if_neg hne];exact hl,Like.refl _,by simp only[if_neg hne],fun _ _ _ _ h=>h⟩
  refine⟨r.lC,fun t v h=>key _ _ (r.env t v h),?_,?_,?_,r.fB,r.jQ,r.oD,r.keep,r.room,r.size,r.os,r.tape,r.output,r.glob⟩
  · intro s' b' hl
    by_cases hne:s'=s
    · subst hne
      rw[hlk]at hl;simp only[if_true,qOa]at hl;subst hl
      show BR w M _ (look (put st.heap s' blk)) s' blk
      rw[hlk];exact hb
    · simp only[hlk,if_neg hne]at hl
      cases r.heap s' b' hl with
      | box cs b o C e fr g1 g2 g3 g4 g5 g6=>exact .box _ b o C e fr (by simp only[if_neg hne];exact g1) g2 g3 g4 g5 fun j c hc=>key _ _ (g6 j c hc)
      | gY a ks=>exact .gY a ks
      | log on ys=>exact .log on ys
      | arr a ks xs b o C e fr g1 g2 g3 g4 g5 g6=>exact .arr a ks xs b o C e fr (by simp only[if_neg hne];exact g1) g2 g3 g4 g5 g6
      | tb t c0 c1 b C fr g1 g2 g3 g4 g5 g6 g7 g8=>exact .tb t c0 c1 b C fr (by simp only[if_neg hne];exact g1) g2 g3 g4 g5 g6 (key _ _ g7) (key _ _ g8)
      | mp t es b o E k g1 g2 g3 g4=>exact .mp t es b o E k (by simp only[if_neg hne];exact g1) g2 g3 g4
      | EH e=>exact .EH e
      | br e xs b C fr g1 g2 g3 g4 g5 g6=>exact .br e xs b C fr (by simp only[if_neg hne];exact g1) g2 g3 g4 g5 g6
  · intro s' b o hl h1
    by_cases hne:s'=s
    · subst hne;simp only[if_true]at h1
      obtain⟨g1,g2,g3,_⟩:=hp b o h1
      exact⟨g1,g2,g3⟩
    · simp only[hlk,if_neg hne]at hl h1;exact r.own s' b o hl h1
  · intro s' s'' b o o' hl hl' h1 h2
    by_cases hne:s'=s
    · subst hne
      by_cases hne':s''=s'
      · exact hne'.symm
      · simp only[if_true,if_neg hne']at h1 h2
        simp only[hlk,if_neg hne']at hl'
        exact absurd h2 ((hp b o h1).2.2.2 s'' o' hl')
    · by_cases hne':s''=s
      · subst hne'
        simp only[if_true,if_neg hne]at h1 h2
        simp only[hlk,if_neg hne]at hl
        exact absurd h1 ((hp b o' h2).2.2.2 s' o hl)
      · simp only[if_neg hne,if_neg hne']at h1 h2
        simp only[hlk,if_neg hne]at hl
        simp only[hlk,if_neg hne']at hl'
        exact r.inj s' s'' b o o' hl hl' h1 h2
theorem Rel.adh (r : Rel w0 Pr M0 M β st a w) {s b : Nat} {blk blk' : aJ} {o : Nat} {w' : World} {C C' : Array Value} {e : TypeId} {fr fr' : Nat × Nat}
    (hs:look st.heap s=some blk) (hl:Like blk blk') (hb:β s=some (b,o)) (hw:w.heap[b]?=some (.cells C e fr)) (hw':w'.heap=w.heap.setIfInBounds b (.cells C' e fr')) (hfr:Open C fr→Open C' fr')
    (hC:C'.size=C.size) (hos:w'.os=w.os) (htp:w'.tape=w.tape) (hop:w'.output=w.output)
    (hB:(∀ (v:AV) (c:Value),AR w M β (look st.heap) v c→AR w' M β (fun x=>if x=s then some blk' else look st.heap x) v c)→(∀ (v:PV) (c:Value),VR w M v c→VR w' M v c) →
      w'.heap[b]?=some (.cells C' e fr')→BR w' M β (fun x=>if x=s then some blk' else look st.heap x) s blk') :
    Rel w0 Pr M0 M β { st with heap:=put st.heap s blk' } a w':=by
  have hi:(look st.heap s).isSome=true:=by rw[hs];rfl
  obtain⟨o1,o2,o3⟩:=r.own s b o hi hb
  have hlk:look (put st.heap s blk')=fun x=>if x=s then some blk' else look st.heap x:=funext fun x=>aZ _ _ _ _
  have hsz:w'.heap.size=w.heap.size:=by rw[hw'];simp
  have hne:∀ b',b'≠b→w'.heap[b']?=w.heap[b']?:=fun b' h=>by rw[hw',qAe (fun e=>h e.symm)]
  have hself:w'.heap[b]?=some (.cells C' e fr'):=by rw[hw'];simp[o2]
  have hM:∀ b',M b'→M b'∧w'.heap[b']?=w.heap[b']?:=fun b' h=>⟨h,hne b' fun e=>o1 (e▸h)⟩
  have hroom:∀ b' n,Room w b' n→Room w' b' n:=by
   intro b' n hr
   by_cases h:b'=b
   · subst h
     obtain⟨C1,e1,Ug,h1,h2,h3⟩:=hr
     rw[hw]at h1;cases h1
     exact⟨C',e,fr',hself,by omega,fun h=>hfr (h3 h)⟩
   · exact hr.of_block (hne b' h)
  have key:∀ (v:AV) (c:Value),AR w M β (look st.heap) v c→AR w' M β (fun x=>if x=s then some blk' else look st.heap x) v c:=by
   intro v c h
   refine h.mono hM fun s' b' _ h1=>?_
   by_cases h2:s'=s
   · subst h2;rw[hs]at h1;cases h1
     exact⟨blk',by simp,hl,rfl,fun b o n _ hr=>hroom b n hr⟩
   · exact⟨b',by simp only[if_neg h2];exact h1,Like.refl _,rfl,fun b o n _ hr=>hroom b n hr⟩
  refine⟨r.lC,fun t v h=>by rw[hlk];exact key _ _ (r.env t v h),?_,?_,?_,fun b' h=>by rw[hsz];exact r.fB b' h,r.jQ,r.oD,?_,fun b' n h1 h2 h3=>hroom b' n (r.room b' n h1 h2 h3),by rw[hsz];exact r.size,hos.trans r.os,htp.trans r.tape,hop.trans r.output,fun p hp=>⟨(hM _ (r.glob p hp).1).1,(hM _ (r.glob p hp).1).2.trans (r.glob p hp).2⟩⟩
  · intro s' b' h1
    show BR w' M β (look (put st.heap s blk')) s' b'
    by_cases h2:s'=s
    · subst h2
      simp only[hlk,if_true,qOa]at h1;subst h1
      rw[hlk];exact hB key (fun v c h=>h.mono hM) hself
    · simp only[hlk,if_neg h2]at h1
      have hi':(look st.heap s').isSome=true:=by rw[h1];rfl
      rw[hlk]
      cases r.heap s' b' h1 with
      | box cs b1 o1 C1 e1 Ug g1 g2 g3 g4 g5 g6 =>
       exact .box _ b1 o1 C1 e1 Ug g1 (by rw[hne b1 fun e=>h2 (r.inj s' s b _ _ hi' hi (e▸g1) hb)];exact g2) g3 g4 g5 fun j c hc=>key _ _ (g6 j c hc)
      | gY a ks=>exact .gY a ks
      | log on ys=>exact .log on ys
      | arr a ks xs b1 o1 C1 e1 Ug g1 g2 g3 g4 g5 g6 =>
       exact .arr a ks xs b1 o1 C1 e1 Ug g1 (by rw[hne b1 fun e=>h2 (r.inj s' s b _ _ hi' hi (e▸g1) hb)];exact g2) g3 g4 g5 fun i x j c hx hc=>(g6 i x j c hx hc).mono hM
      | tb t c0 c1 b1 C1 Ug g1 g2 g3 g4 g5 g6 g7 g8 =>
       exact .tb t c0 c1 b1 C1 Ug g1 (by rw[hne b1 fun e=>h2 (r.inj s' s b _ _ hi' hi (e▸g1) hb)];exact g2) g3 g4 g5 g6 (key _ _ g7) (key _ _ g8)
      | mp t es b1 o1 E k g1 g2 g3 g4 =>
       exact .mp t es b1 o1 E k g1 (by rw[hne b1 fun e=>h2 (r.inj s' s b _ _ hi' hi (e▸g1) hb)];exact g2) g3 fun i p e hi he=>⟨(g4 i p e hi he).1.mono hM,(g4 i p e hi he).2.mono hM⟩
      | EH e=>exact .EH e
      | br e xs b1 C fr g1 g2 g3 g4 g5 g6=>exact .br e xs b1 C fr g1 (by rw[hne b1 fun e=>h2 (r.inj s' s b _ _ hi' hi (e▸g1) hb)];exact g2) g3 g4 g5 g6
  · intro s' b' o' h1 h2
    rw[hsz]
    by_cases h3:s'=s
    · subst h3;exact r.own s' b' o' hi h2
    · simp only[hlk,if_neg h3]at h1;exact r.own s' b' o' h1 h2
  · intro s' s'' b' o1 o2 h1 h2 h3 h4
    have hx:∀ x,(look (put st.heap s blk') x).isSome=true→(look st.heap x).isSome=true:=by
     intro x hx
     by_cases h:x=s
     · subst h;exact hi
     · simpa only[hlk,if_neg h] using hx
    exact r.inj s' s'' b' o1 o2 (hx _ h1) (hx _ h2) h3 h4
  · intro b' h1 h2
    rw[hne b' ?_,r.keep b' h1 h2]
    rintro rfl
    rcases o3.1 with h | h
    · omega
    · exact h2 h
theorem Rel.write (r : Rel w0 Pr M0 M β st a w) {s b : Nat} {blk blk' : aJ} {o : Nat} {w' : World} {C C' : Array Value} {e : TypeId} {fr : Nat × Nat}
    (hs:look st.heap s=some blk) (hl:Like blk blk') (hb:β s=some (b,o)) (hw:w.heap[b]?=some (.cells C e fr)) (hw':w'.heap=w.heap.setIfInBounds b (.cells C' e fr))
    (hC:C'.size=C.size) (hos:w'.os=w.os) (htp:w'.tape=w.tape) (hop:w'.output=w.output)
    (hB:(∀ (v:AV) (c:Value),AR w M β (look st.heap) v c→AR w' M β (fun x=>if x=s then some blk' else look st.heap x) v c)→(∀ (v:PV) (c:Value),VR w M v c→VR w' M v c) →
      w'.heap[b]?=some (.cells C' e fr)→BR w' M β (fun x=>if x=s then some blk' else look st.heap x) s blk') :
    Rel w0 Pr M0 M β { st with heap:=put st.heap s blk' } a w' :=
  r.adh hs hl hb hw hw' (fun h=>h.size hC) hC hos htp hop hB
end
theorem OM {w:World} {M:Nat→Prop} {v:Value} {x:PV} (h:Qd v=some x):VR w M x v∧x.leaf=true:=by
 unfold Qd at h
 split at h<;>first | (cases h;refine⟨?_,rfl⟩;constructor) | cases h
theorem IU {w:World} {M:Nat→Prop}:∀ {l:List Value} {xs:List PV},yV l=some xs→xs.length=l.length∧(∀ x∈xs,x.leaf=true)∧∀ (i:Nat) (x:PV),xs[i]?=some x→∃ v,l[i]?=some v∧VR w M x v
 | [],xs,h=>by simp[yV]at h;subst h;simp
 | v::r,xs,h=>by
  simp only[yV]at h
  split at h
  · rename_i x ys h1 h2
    cases h
    obtain⟨g1,g2,g3⟩:=IU (w:=w) (M:=M) h2
    obtain⟨k1,k2⟩:=OM (w:=w) (M:=M) h1
    refine⟨by simp[g1],?_,?_⟩
    · intro y hy
      rcases List.mem_cons.1 hy with rfl | hy
      · exact k2
      · exact g2 y hy
    · intro i y hi
      cases i with
      | zero=>simp at hi;subst hi;exact⟨v,by simp,k1⟩
      | succ i=>simp at hi;simpa using g3 i y hi
  · cases h
theorem vM {w:World} {M:Nat→Prop} {v:Value} {x:PV} (h:ofValue v=some x):VR w M x v:=by
 unfold ofValue at h
 split at h
 · rename_i cs
   cases h1:yV cs.toList with
   | none=>rw[h1]at h;cases h
   | some ys =>
    rw[h1]at h;cases h
    obtain⟨g1,g2,g3⟩:=IU (w:=w) (M:=M) h1
    refine .agg ys cs (by simpa using g1.symm) g2 fun i c hi=>?_
    obtain⟨v,h4,h5⟩:=g3 i c hi
    have:cs.getD i undef=v:=by
     have:cs[i]?=some v:=by simpa using h4
     simp[this]
    rw[this];exact h5
 · exact(OM h).1
section
variable {w0:Base} {Pr M0 M:Nat→Prop} {β:Nat→Option (Nat × Nat)} {st:St} {a:Act} {w:World}
theorem abk {env:List AV} {t:Nat}:env.getD t .undef=.undef∨env[t]?=some (env.getD t .undef):=by
 by_cases h:t<env.length
 · right;simp[h]
 · left;simp[List.getD,List.getElem?_eq_none (by omega:env.length≤t)]
theorem Rel.slot (r:Rel w0 Pr M0 M β st a w) (t:Nat):AR w M β (look st.heap) (st.env.getD t .undef) (a.tmps.getD t undef):=by
 rcases abk (env:=st.env) (t:=t) with h | h
 · rw[h];exact .undef _
 · exact r.env t _ h
theorem Rel.aP (r:Rel w0 Pr M0 M β st a w) (x:Operand):AR w M β (look st.heap) (Skm.aP st.env x) (a.eval x):=by
 cases x with
 | tmp t=>exact r.slot t
 | const v =>
  simp only[Skm.aP,Act.eval]
  split
  · rename_i x h;exact .p _ _ (vM h)
  · exact .undef _
 | global g=>exact .undef _
 | func f=>exact .p _ _ (.fn f [] #[] rfl fun i c h=>by simp at h)
end
end Go.Skm
namespace Go.Skm
def wR (e:TypeId) (w:World) (v:Value) (q:Option (Nat × Nat)) (cs:List Value):Prop :=
 (q=none∧cs=[]∧v=.slice none 0 0) ∨
 ∃ b cap C fr,q=some (b,0)∧v=.slice (some ⟨b,0,none⟩) cs.length cap∧cs.length≤cap∧0<cs.length∧w.heap[b]?=some (.cells C e fr)∧cap≤C.size∧Past cs.length fr∧∀ (j:Nat) (c:Value),cs[j]?=some c→C.getD j undef=c
def sU (l:List UInt8):List Value:=l.map fun x=>.int .u8 x.toNat
structure Am (e:TypeId) (w:World) (t:TypeId) (b:Nat) (q:Option (Nat × Nat)) (cs:List Value) (C:Array Value) (fr:Nat × Nat):Prop where
 hw:w.heap[b]?=some (.cells C t fr)
 hn:C.size=2
 ho:Open C fr
 h0:C.getD 0 undef=.pointer none∨C.getD 0 undef=.pointer (some ⟨b,0,none⟩)
 h1:wR e w (C.getD 1 undef) q cs
 bytes:∀ c∈cs,∃ n,c=.int .u8 n
 ne:∀ o,q≠some (b,o)
structure F9 (N:Prop) (w:World) (b:Nat) (q:Option (Nat × Nat)) (w':World):Prop where
 keep:∀ k,k<w.heap.size→k≠b→(∀ o,q≠some (k,o))→w'.heap[k]?=w.heap[k]?
 size:w.heap.size≤w'.heap.size
 os:w'.os=w.os
 tape:w'.tape=w.tape
 output:w'.output=w.output
 drawn:N→w.drawn≤w'.drawn
structure xA (N:Prop) (e:TypeId) (w:World) (t:TypeId) (b:Nat) (q:Option (Nat × Nat)) (cs:List Value) (fr:Nat × Nat) (w':World):Prop extends F9 N w b q w' where
 put:∃ v' q',w'.heap[b]?=some (.cells #[.pointer (some ⟨b,0,none⟩),v'] t fr)∧wR e w' v' q' cs∧∀ g o,q'=some (g,o)→g≠b∧((∃ o',q=some (g,o'))∨w.heap.size≤g)
def KF (P:Program) (G:Bool→World→Prop) (f:FuncId) (ts:List TypeId) (e:TypeId):Prim→Prop
 | .none=>True
 | .aa5 => ∀ t ∈ ts,∀ (w : World) (b : Nat) (q : Option (Nat × Nat)) (cs : List Value) (C : Array Value) (fr : Nat × Nat) (x : ByteArray),Am e w t b q cs C fr → cs.length + x.size ≤ 2147483648 →
     Calls P f #[.pointer (some ⟨b,0,none⟩),.string x] w fun r w'=>r=.returned (.tuple #[.int .i64 x.size,.nilIface])∧xA True e w t b q (cs++sU x.data.toList) fr w'
 | .ab3 => ∀ t ∈ ts,∀ (w : World) (b : Nat) (q : Option (Nat × Nat)) (cs : List Value) (C : Array Value) (fr : Nat × Nat) (n : Int),Am e w t b q cs C fr → cs.length + 1 ≤ 2147483648 →
     Calls P f #[.pointer (some ⟨b,0,none⟩),.int .u8 n] w fun r w'=>r=.returned .nilIface∧xA True e w t b q (cs++[.int .u8 n]) fr w'
 | .str => ∀ t ∈ ts,∀ (w : World) (b : Nat) (q : Option (Nat × Nat)) (l : List UInt8) (C : Array Value) (fr : Nat × Nat),Am e w t b q (sU l) C fr → l.length ≤ 2147483648 →
     Calls P f #[.pointer (some ⟨b,0,none⟩)] w fun r w'=>r=.returned (.string ⟨l.toArray⟩)∧F9 True w b q w'∧w'.heap[b]?=w.heap[b]?∧∀ g o,q=some (g,o)→∃ C e fr fr',w.heap[g]?=some (.cells C e fr)∧w'.heap[g]?=some (.cells C e fr')∧Past l.length fr'
 | .RU lf => ∀ t ∈ ts,∀ (w : World) (b : Nat) (q : Option (Nat × Nat)) (cs : List Value) (C : Array Value) (fr : Nat × Nat) (xs ys : List PV) (g1 o1 g2 o2 : Nat),Am e w t b q cs C fr →
     (∀ (i:Nat) (x:PV),xs[i]?=some x→∃ s,x=.str s∧w.cell? ⟨g1,o1+i,none⟩=some (.string s))→(∀ (i:Nat) (y:PV),ys[i]?=some y→∃ n,(y=.int .i64 n∧-9223372036854775808≤n∧n≤9223372036854775807)∧w.cell? ⟨g2,o2+i,none⟩=some (.int .i64 n)) →
     0<xs.length→0<ys.length→g1<w.heap.size→g2<w.heap.size→g1≠b→g2≠b→(∀ o,q≠some (g1,o))→(∀ o,q≠some (g2,o))→cs.length+(lf xs ys).size≤2147483648→∀ s:Bool,G s w →
     Calls P f #[.pointer (some ⟨b,0,none⟩),.slice (some ⟨g1,o1,none⟩) xs.length xs.length,.slice (some ⟨g2,o2,none⟩) ys.length ys.length] w fun r w'=>r=.returned (.tuple #[])∧xA (s=false) e w t b q (cs++sU (lf xs ys).data.toList) fr w'
structure bJ (P:Program) (T:Tab):Prop where
 types:∀ t i,bI T.types t=some i→lM P t=some i
 funcs : ∀ f fi, bI T.funcs f = some fi → P.funcs[f]? = some fi.fn ∧ (fi.fn.name == "runtime.NumGoroutine") = false ∧ (∀ c, fi.fn.body = some c → iK T fi.hides c = true) ∧
  (fi.cfg.DR=false→fi.cfg.shares=false→nP T fi.cfg.rets fi.fn.resultTypes.toList=true)
 mixed:P.follows .mixedOrders=true
 nvars:∀ f fi,bI T.funcs f=some fi→fi.cfg.nvars≤100000
 ae2:∀ f fi,bI T.funcs f=some fi→fi.cfg.Bd.is=true→(∃ c,fi.fn.body=some c)∧KF P T.glob f fi.cfg.Hr fi.cfg.KL fi.cfg.Bd
section
variable {P:Program} {T:Tab} (ok:bJ P T)
include ok
theorem bJ.ti {t : TypeId} {i : TI} (h : bI T.types t = some i) : ∃ d j,P.underlying t = some d ∧ P.info? t = some j ∧
    i={ desc:=d,size:=j.size,bytes:=j.bytes,agg:=tC P t,sh:=bg P 8 t,zero:=j.zero.bind ofValue,plain:=KN P t }:=by
  have:=ok.types t i h
  unfold lM at this
  split at this
  · rename_i d j h1 h2
    exact⟨d,j,h1,h2,by simpa using this.symm⟩
  · cases this
theorem bJ.und {t:TypeId} {d:TypeDesc} (h:Skm.und T t=some d):P.underlying t=some d:=by
 unfold Skm.und at h
 cases h1:bI T.types t with
 | none=>rw[h1]at h;cases h
 | some i =>
  obtain⟨d',j,h2,_,h4⟩:=ok.ti h1
  rw[h1]at h;subst h4;simp at h;subst h;exact h2
theorem bJ.size {t:TypeId} {n:Nat} (h:ni T t=some n):∃ i,P.info? t=some i∧i.size=n:=by
 unfold ni at h
 cases h1:bI T.types t with
 | none=>rw[h1]at h;cases h
 | some i =>
  obtain⟨d',j,_,h3,h4⟩:=ok.ti h1
  rw[h1]at h;subst h4;simp at h;exact⟨j,h3,h⟩
theorem bJ.bytes {t:TypeId} {n:Nat} (h:FT T t=some n):∃ i,P.info? t=some i∧i.bytes=n:=by
 unfold FT at h
 cases h1:bI T.types t with
 | none=>rw[h1]at h;cases h
 | some i =>
  obtain⟨d',j,_,h3,h4⟩:=ok.ti h1
  rw[h1]at h;subst h4;simp at h;exact⟨j,h3,h⟩
theorem bJ.zero {t:TypeId} {z:PV} (h:DU T t=some z):∃ i v,P.info? t=some i∧i.zero=some v∧ofValue v=some z:=by
 unfold DU at h
 cases h1:bI T.types t with
 | none=>rw[h1]at h;cases h
 | some i =>
  obtain⟨d',j,_,h3,h4⟩:=ok.ti h1
  rw[h1]at h;subst h4;simp at h
  cases h5:j.zero with
  | none=>rw[h5]at h;cases h
  | some v=>rw[h5]at h;exact⟨j,v,h3,h5,by simpa using h⟩
theorem bJ.agg {t:TypeId} {n:Nat} (h:ni T t=some n):Zm T t=tC P t:=by
 unfold ni at h
 unfold Zm
 cases h1:bI T.types t with
 | none=>rw[h1]at h;cases h
 | some i =>
  obtain⟨d',j,_,h3,h4⟩:=ok.ti h1
  subst h4;rfl
theorem bJ.plain {t:TypeId} (h:BD T t=true):KN P t=true:=by
 unfold BD at h
 cases h1:bI T.types t with
 | none=>rw[h1]at h;cases h
 | some i =>
  obtain⟨d',j,_,h3,h4⟩:=ok.ti h1
  rw[h1]at h;subst h4;exact h
end
theorem aX {P:Program} {t:TypeId} {d:TypeDesc} (h:P.underlying t=some d) (w:World):(underlying t).run P w=.ok d w:=by
 simp[underlying,h]
theorem nU {P:Program} {t:TypeId} {i:TypeInfo} (h:P.info? t=some i) (w:World):(typeInfo t).run P w=.ok i w:=by
 simp[typeInfo,h]
theorem fP {P:Program} {t:TypeId} {i:TypeInfo} (h:P.info? t=some i) (w:World):(sizeOf t).run P w=.ok i.size w:=by
 simp[sizeOf,nU h]
theorem kD {P:Program} {t:TypeId} {d:TypeDesc} (h:P.underlying t=some d) (w:World):(isAgg t).run P w=.ok (tC P t) w:=by
 unfold isAgg tC
 simp only[h,Sem.run_bind,aX h,qRa]
 cases d<;>rfl
structure aj (P:Program) (w:World) (M:Nat→Prop) (β:Nat→Option (Nat × Nat)) (h:Nat→Option aJ) (D:DT) (sem:Sem Value):Prop where
 Zu:∀ (α:Type) (k:Eff→Option α) (r:α),D.run k=some r→∃ v c,k { val:=v }=some r∧AR w M β h v c∧sem.run P w=.ok c w
theorem Wx {α:Type} {c:Bool} {x:DT} {k:Eff→Option α} {r:α} (h:(chk c x).run k=some r):c=true∧x.run k=some r:=by
 cases c
 · simp[chk,DT.run]at h
 · exact⟨rfl,by simpa [chk,DT.run] using h⟩
section
variable {P:Program} {T:Tab} {w:World} {M:Nat→Prop} {β:Nat→Option (Nat × Nat)} {h:Nat→Option aJ}
theorem aj.ret {v:AV} {c:Value} {sem:Sem Value} (h1:AR w M β h v c) (h2:sem.run P w=.ok c w):aj P w M β h (.ret { val:=v }) sem :=
 ⟨fun _ _ _ hk=>⟨v,c,hk,h1,h2⟩⟩
theorem aj.fail {sem:Sem Value}:aj P w M β h .fail sem:=⟨fun _ _ _ hk=>by simp[DT.run]at hk⟩
theorem aj.chk {c:Bool} {D:DT} {sem:Sem Value} (h1:c=true→aj P w M β h D sem):aj P w M β h (Skm.chk c D) sem :=
 ⟨fun α k r hk=>by obtain⟨h2,h3⟩:=Wx hk;exact(h1 h2).Zu α k r h3⟩
theorem aj.ite {c:Bool} {D E:DT} {sem:Sem Value} (h1:c=true→aj P w M β h D sem) (h2:c=false→aj P w M β h E sem):aj P w M β h (.ite c D E) sem:=by
 refine⟨fun α k r hk=>?_⟩
 cases c
 · exact(h2 rfl).Zu α k r (by simpa [DT.run] using hk)
 · exact(h1 rfl).Zu α k r (by simpa [DT.run] using hk)
theorem AR.DY {k:IntKind} {n:Int} {c:Value} (h1:AR w M β h (.p (.int k n)) c):c=.int k n:=by
 cases h1;rename_i h2;cases h2;rfl
theorem AR.zT {b:Bool} {c:Value} (h1:AR w M β h (.p (.bool b)) c):c=.bool b:=by
 cases h1;rename_i h2;cases h2;rfl
theorem AR.OO {s:ByteArray} {c:Value} (h1:AR w M β h (.p (.str s)) c):c=.string s:=by
 cases h1;rename_i h2;cases h2;rfl
theorem AR.int (k:IntKind) (n:Int):AR w M β h (.p (.int k n)) (.int k n):=.p _ _ (.int k n)
theorem AR.bool (b:Bool):AR w M β h (.p (.bool b)) (.bool b):=.p _ _ (.bool b)
theorem AR.str (s:ByteArray):AR w M β h (.p (.str s)) (.string s):=.p _ _ (.str s)
theorem Lj:∀ (x y:List UInt8),zK x y=Op.bytesLess x y
 | [],[]=>rfl
 | _::_,[]=>rfl
 | [],_::_=>rfl
 | a::x,b::y=>by simp[zK,Op.bytesLess,Lj x y]
theorem adi {op:UnOp} {x:AV} {c:Value} (hx:AR w M β h x c):aj P w M β h (KO op x) (Op.unary op c):=by
 unfold KO
 split
 · rw[hx.DY]
   exact aj.ret (.int _ _) (by simp[Op.unary,Op.intArith])
 · rw[hx.zT]
   exact aj.ret (.bool _) (by simp[Op.unary])
 · exact aj.fail
theorem U0 {op:BinOp} {j:IntKind} {a b:Int} {v:PV} (hv:UN op j a b=some v) (t:TypeId):∃ c,VR w M v c∧(binOp op t (.int j a) (.int j b)).run P w=.ok c w:=by
 unfold UN at hv
 split at hv<;>first
  | (cases hv;exact⟨_,.int _ _,by simp[binOp,Op.intArith,Op.intBits]⟩)
  | (cases hv;exact⟨_,.bool _,by simp[binOp,Op.intCmp]⟩)
  | cases hv
theorem U1 {op:BinOp} {a b:ByteArray} {v:PV} (hv:UO op a b=some v) (t:TypeId):∃ c,VR w M v c∧(binOp op t (.string a) (.string b)).run P w=.ok c w:=by
 unfold UO at hv
 split at hv<;>first
  | (cases hv;exact⟨_,.bool _,by simp[binOp,Op.stringOp,Lj]⟩)
  | cases hv
theorem XA (ok : bJ P T) {d : Nat} {t : TypeId} {x y : PV} {vx vy : Value} {b : Bool} (hl : vw (und T t) x y = some b) (hx : VR w M x vx) (hy : VR w M y vy) :
    (Op.equalIn (d+1) t vx vy).run P w=.ok b w:=by
  unfold vw at hl
  split at hl
  · cases hx;cases hy
    split at hl
    · rename_i h
      rename_i j1 x1 k1 y1 _ _
      by_cases hjk:j1=k1
      · subst hjk
        simp at hl;subst hl
        exact run_equalIn_int w d t _ _ _ _ (ok.und h)
      · have:(j1==k1)=false:=by simpa using hjk
        simp[this]at hl
    · cases hl
  · cases hx;cases hy
    split at hl
    · rename_i h
      cases hl
      exact run_equalIn_bool w d t _ _ (ok.und h)
    · cases hl
  · cases hx;cases hy
    split at hl
    · rename_i h
      cases hl
      rw[run_equalIn_string w d t _ _ (ok.und h),beq_toListBytes]
    · cases hl
  · cases hl
theorem getD_some {vs:Array Value} {i:Nat} (h:i<vs.size):vs[i]?=some (vs.getD i undef):=by
 rw[qAd h];simp[Array.getD,h]
def Rep (P:Program) (w:World) (M:Nat→Prop) (t:TypeId) (xs:List PV) (v:Value):Prop :=
 if tC P t=true then ∃ vs:Array Value,v=.agg vs∧vs.size=xs.length∧∀ (i:Nat) (c:PV),xs[i]?=some c→VR w M c (vs.getD i undef) else ∃ x,xs=[x]∧VR w M x v
theorem WC (ok : bJ P T) {g : TypeId → List PV → List PV → Option Bool} {gp : TypeId → Bool} {d : Nat} {xs ys : Array Value}
    (hg:∀ t as bs b va vb,gp t=true→g t as bs=some b→Rep P w M t as va→Rep P w M t bs vb→(Op.equalIn d t va vb).run P w=.ok b w) (hu:∀ t,gp t=true→∃ dd,P.underlying t=some dd)
    (h1:∀ t,gp t=true→tC P t=false→∀ as bs b,g t as bs=some b→∃ x y,as=[x]∧bs=[y]) :
    ∀ (fs:List Field) (o:Nat) (as bs:List PV) (r:Bool),JE (fun t=>(P.info? t).map (·.size)) gp o fs=true →
    (∀ (i:Nat) (c:PV),as[i]?=some c→VR w M c (xs.getD (o+i) undef))→(∀ (i:Nat) (c:PV),bs[i]?=some c→VR w M c (ys.getD (o+i) undef)) →
    o+as.length=xs.size→o+bs.length=ys.size→NH (ni T) g fs as bs=some r→(Op.eqFields d xs ys fs).run P w=.ok r w
  | [],o,as,bs,r,_,_,_,_,_,he=>by
   cases as<;>cases bs<;>simp[NH]at he
   subst he;simp[Op.eqFields]
  | f::fs,o,as,bs,r,hp,ha,hb,h3,h4,he=>by
   unfold NH at he
   unfold JE at hp
   cases hn:ni T f.type with
   | none=>rw[hn]at he;simp at he
   | some n =>
   obtain⟨ti,hti,hsz⟩:=ok.size hn
   rw[hn]at he
   simp only at he
   cases abl:(Nat.ble n as.length&&Nat.ble n bs.length) with
   | false=>rw[abl]at he;cases he
   | true =>
   rw[abl,cond_true]at he
   rw[qBa,Nat.ble_eq,Nat.ble_eq]at abl
   obtain⟨hl1,hl2⟩:=abl
   simp only[hti,Option.map_some,hsz,qBa,beq_iff_eq,bne_iff_ne,ne_eq]at hp
   obtain⟨hoff,hname,hgp,hrest⟩:=hp
   cases hl:g f.type (as.take n) (bs.take n) with
   | none=>rw[hl]at he;simp at he
   | some b1 =>
   cases hr:NH (ni T) g fs (as.drop n) (bs.drop n) with
   | none=>rw[hl,hr]at he;simp at he
   | some b2 =>
   rw[hl,hr]at he
   simp only[qOa]at he
   obtain⟨dd,hdd⟩:=hu _ hgp
   have hpart:∀ (zs:Array Value) (cs:List PV),n≤cs.length→(tC P f.type=false→∃ x,cs.take n=[x])→(∀ (i:Nat) (c:PV),cs[i]?=some c→VR w M c (zs.getD (o+i) undef))→o+cs.length=zs.size→∃ v,(part f.type zs f.offset).run P w=.ok v w∧Rep P w M f.type (cs.take n) v:=by
    intro zs cs hle hone hc hsize
    cases hagg:tC P f.type with
    | true =>
     refine⟨.agg (zs.extract o (o+n)),?_,?_⟩
     · simp only[part,Sem.run_bind,kD hdd,hagg,qRa,if_true,fP hti,hsz,hoff,Sem.run_pure]
     · unfold Rep
       rw[if_pos hagg]
       refine⟨_,rfl,by simp only[Array.size_extract,List.length_take];omega,fun i c hi=>?_⟩
       rw[List.getElem?_take]at hi
       split at hi
       · rename_i hlt
         have hlen:=(qLa.1 hi).1
         have:=hc i c hi
         have e:(zs.extract o (o+n)).getD i undef=zs.getD (o+i) undef:=by
          have h1:i<(zs.extract o (o+n)).size:=by simp only[Array.size_extract];omega
          have h2:o+i<zs.size:=by omega
          simp only[Array.getD,h1,h2,dite_true]
          exact Array.getElem_extract ..
         rw[e];exact this
       · cases hi
    | false =>
     obtain⟨x,hx⟩:=hone hagg
     have hx0:cs[0]?=some x:=by
      have:(cs.take n)[0]?=some x:=by rw[hx];rfl
      rw[List.getElem?_take]at this
      split at this
      · exact this
      · cases this
     have hlen:=(qLa.1 hx0).1
     refine⟨zs.getD o undef,?_,?_⟩
     · simp only[part,Sem.run_bind,kD hdd,hagg,qRa,Bool.false_eq_true,if_false,hoff,getD_some (by omega:o<zs.size),Sem.run_pure]
     · unfold Rep
       rw[hagg,if_neg (by simp)]
       exact⟨x,hx,by simpa using hc 0 x hx0⟩
   have hone:tC P f.type=false→(∃ x,as.take n=[x])∧∃ y,bs.take n=[y]:=by
    intro hag
    obtain⟨x,y,e1,e2⟩:=h1 _ hgp hag _ _ _ hl
    exact⟨⟨x,e1⟩,⟨y,e2⟩⟩
   obtain⟨va,pa,ra⟩:=hpart xs as hl1 (fun hag=>(hone hag).1) ha h3
   obtain⟨vb,pb,rb⟩:=hpart ys bs hl2 (fun hag=>(hone hag).2) hb h4
   have heq:=hg _ _ _ _ _ _ hgp hl ra rb
   simp only[Op.eqFields,hname,ne_eq,not_false_eq_true,if_true,Sem.run_bind,pa,pb,heq,qRa,Sem.run_ite]
   cases b1
   · simp at he;subst he;rfl
   · simp at he;subst he
     exact WC ok hg hu h1 fs (o+n) (as.drop n) (bs.drop n) b2 hrest (fun i c hi=>by
      rw[List.getElem?_drop]at hi
      have:=ha (n+i) c hi
      rwa[show o+(n+i)=o+n+i by omega]at this) (fun i c hi=>by
      rw[List.getElem?_drop]at hi
      have:=hb (n+i) c hi
      rwa[show o+(n+i)=o+n+i by omega]at this) (by simp only[List.length_drop];omega) (by simp only[List.length_drop];omega) hr
theorem U2 (ok:bJ P T):∀ (n d:Nat) (t:TypeId) (as bs:List PV) (b:Bool) (va vb:Value),BA P n t=true→OG T n t as bs=some b→Rep P w M t as va→Rep P w M t bs vb→(Op.equalIn (d+n) t va vb).run P w=.ok b w
 | 0,d,t,as,bs,b,va,vb,hp,_,_,_=>by simp[BA]at hp
 | n+1,d,t,as,bs,b,va,vb,hp,he,ra,rb=>by
  unfold OG at he
  unfold BA at hp
  split at he
  · rename_i fs hu
    have hu:=ok.und hu
    rw[hu]at hp
    simp only[qBa,qBb]at hp
    have hagg:tC P t=true:=by unfold tC;rw[hu]
    unfold Rep at ra rb
    rw[if_pos hagg]at ra rb
    obtain⟨vs,rfl,e1,h1⟩:=ra
    obtain⟨us,rfl,e2,h2⟩:=rb
    have hfs:P.fieldsOf t=fs:=by simp[Program.fieldsOf,hu]
    rw[← Nat.add_assoc,run_equalIn_struct w (d+n) t vs us (by rw[hfs];exact hu) hp.1,hfs]
    refine WC ok (g:=OG T n) (gp:=BA P n) (fun t as bs b va vb h1 h2 h3 h4=>U2 ok n d t as bs b va vb h1 h2 h3 h4) (fun t ht=>?_) (fun t ht hag as bs b hb=>?_) fs.toList 0 as bs b hp.2 (fun i c hi=>by simpa using h1 i c hi) (fun i c hi=>by simpa using h2 i c hi) (by omega) (by omega) he
    · cases n with
      | zero=>simp[BA]at ht
      | succ n =>
       unfold BA at ht
       cases hh:P.underlying t with
       | none=>rw[hh]at ht;simp at ht
       | some dd=>exact⟨dd,rfl⟩
    · cases n with
      | zero=>simp[OG]at hb
      | succ n =>
       unfold OG at hb
       split at hb
       · rename_i fs' hu'
         have:=ok.und hu'
         unfold tC at hag
         rw[this]at hag
         simp at hag
       · split at hb
         · exact⟨_,_,rfl,rfl⟩
         · cases hb
  · rename_i hns
    split at he
    · rename_i x y
      have hagg:tC P t=false:=by
       unfold tC
       cases hh:P.underlying t with
       | none=>rfl
       | some dd =>
        rw[hh]at hp
        cases dd<;>first
         | rfl
         | (simp at hp;done)
         | (rename_i fs
            exfalso
            cases hu:und T t with
            | none=>rw[hu]at he;unfold vw at he;cases x<;>cases y<;>simp at he
            | some d2 =>
             have:=ok.und hu
             rw[hh]at this
             cases this
             exact hns fs hu)
      unfold Rep at ra rb
      rw[hagg,if_neg (by simp)]at ra rb
      obtain⟨x',e1,hx⟩:=ra
      obtain⟨y',e2,hy⟩:=rb
      cases e1
      cases e2
      exact XA ok (d:=d+n) he hx hy
    · cases he
theorem Zv (ok : bJ P T) {op : BinOp} {t : TypeId} {x y : AV} {c d : Value} (ox oy : Operand) (hx : AR w M β h x c) (hy : AR w M β h y d) :
    aj P w M β h (yX T op t x y) (do eqGuard op t ox oy c d;binOp op t c d):=by
  have guard:∀ (e1 e2:Value),(∀ u v,e1≠.agg u∨e2≠.agg v)→(e1≠.nilIface∨e2≠.nilIface)→(eqGuard op t ox oy e1 e2).run P w=.ok () w:=by
   intro e1 e2 h1 h2
   cases op<;>first
    | (simp[eqGuard];done)
    | (cases e1 <;> first
        | (simp[eqGuard];done)
        | (cases e2<;>first | (simp[eqGuard];done) | (rcases h1 _ _ with h1 | h1<;>exact absurd rfl h1) | (rcases h2 with h2 | h2<;>exact absurd rfl h2)))
  unfold yX
  split
  · rename_i j a i b
    rw[hx.DY,hy.DY]
    have g:=guard (.int j a) (.int i b) (by simp) (by simp)
    split
    · refine aj.chk fun hb=>aj.ret (.int _ _) ?_
      have hb':¬ b<0:=by simpa using hb
      simp only[Sem.run_bind,g,qRa,binOp,Op.shift,if_neg hb']
      simp
    · refine aj.chk fun hb=>aj.ret (.int _ _) ?_
      have hb':¬ b<0:=by simpa using hb
      simp only[Sem.run_bind,g,qRa,binOp,Op.shift,if_neg hb']
      simp
    · refine aj.chk fun hj=>aj.chk fun hb=>aj.ret (.int _ _) ?_
      have hj':j=i:=by simpa using hj
      have hb':¬ b=0:=by simpa using hb
      subst hj'
      simp[g,binOp,Op.intDiv,hb']
    · refine aj.chk fun hj=>aj.chk fun hb=>aj.ret (.int _ _) ?_
      have hj':j=i:=by simpa using hj
      have hb':¬ b=0:=by simpa using hb
      subst hj'
      simp[g,binOp,Op.intDiv,hb']
    · refine aj.chk fun hj=>?_
      have hj':j=i:=by simpa using hj
      subst hj'
      split
      · rename_i v hv
        obtain⟨e,h1,h2⟩:=U0 (P:=P) (w:=w) (M:=M) hv t
        exact aj.ret (.p _ _ h1) (by simp only[Sem.run_bind,g,qRa];exact h2)
      · exact aj.fail
  · rename_i a b
    rw[hx.OO,hy.OO]
    have g:=guard (.string a) (.string b) (by simp) (by simp)
    split
    · refine aj.chk fun hb=>aj.ret (.str _) ?_
      have hb':a.size+b.size≤4611686018427387904:=by simpa using hb
      have:¬ ((a.size+b.size:Nat):Int) > IntKind.i64.max:=by
       have:IntKind.i64.max=9223372036854775807:=by decide
       rw[this];omega
      simp only[Sem.run_bind,g,qRa,binOp,Op.stringOp,if_neg this]
      rfl
    · split
      · rename_i v hv
        obtain⟨e,h1,h2⟩:=U1 (P:=P) (w:=w) (M:=M) hv t
        exact aj.ret (.p _ _ h1) (by simp only[Sem.run_bind,g,qRa];exact h2)
      · exact aj.fail
  · rename_i a b
    rw[hx.zT,hy.zT]
    have g:=guard (.bool a) (.bool b) (by simp) (by simp)
    split
    · rename_i hu
      exact aj.ret (.bool _) (by simp[g,binOp,run_equal_bool w t a b (ok.und hu)])
    · rename_i hu
      exact aj.ret (.bool _) (by simp[g,binOp,run_equal_bool w t a b (ok.und hu)])
    · exact aj.fail
  · rename_i as bs
    cases hx with
    | p _ _ hx =>
    cases hy with
    | p _ _ hy =>
    cases hx with
    | agg _ vs hn1 hl1 h1 =>
    cases hy with
    | agg _ us hn2 hl2 h2 =>
    refine aj.chk fun hp=>?_
    have hp:=ok.plain hp
    split
    · rename_i fs hu
      have hu:=ok.und hu
      have hfs:P.fieldsOf t=fs:=by simp[Program.fieldsOf,hu]
      unfold KN at hp
      rw[hu]at hp
      simp only[qBa,qBb]at hp
      obtain⟨hp1,hp3⟩:=hp
      have hagg:tC P t=true:=by unfold tC;rw[hu]
      have g:(eqGuard op t ox oy (.agg vs) (.agg us)).run P w=.ok () w:=run_eqGuard_agg w op t ox oy vs us hp3
      have main:∀ r,OG T 4 t as bs=some r→(Op.equalIn 10000 t (.agg vs) (.agg us)).run P w=.ok r w:=by
       intro r hr
       exact U2 ok 4 9996 t as bs r (.agg vs) (.agg us) hp1 hr (by unfold Rep;rw[if_pos hagg];exact⟨vs,rfl,hn1,h1⟩) (by unfold Rep;rw[if_pos hagg];exact⟨us,rfl,hn2,h2⟩)
      split
      · rename_i r hr
        exact aj.ret (.bool _) (by simp only[Sem.run_bind,g,qRa,run_eql_struct w t vs us,main r hr])
      · rename_i r hr
        exact aj.ret (.bool _) (by simp only[Sem.run_bind,g,qRa,run_neq_struct w t vs us,main r hr])
      · exact aj.fail
    · exact aj.fail
  · exact aj.fail
theorem EI (ok : bJ P T) {op : BinOp} {t : TypeId} {x y : AV} {c d : Value} (ox oy : Operand) (hx : AR w M β h x c) (hy : AR w M β h y d) :
    aj P w M β h (zL T op t (isLit oy) x y) (do eqGuard op t ox oy c d;binOp op t c d):=by
  have guard:∀ (e1 e2:Value),(∀ u v,e1≠.agg u∨e2≠.agg v)→(e1≠.nilIface∨e2≠.nilIface)→(eqGuard op t ox oy e1 e2).run P w=.ok () w:=by
   intro e1 e2 h1 h2
   cases op<;>first
    | (simp[eqGuard];done)
    | (cases e1 <;> first
        | (simp[eqGuard];done)
        | (cases e2<;>first | (simp[eqGuard];done) | (rcases h1 _ _ with h1 | h1<;>exact absurd rfl h1) | (rcases h2 with h2 | h2<;>exact absurd rfl h2)))
  unfold zL
  split
  · rename_i x
    cases hy with
    | p _ _ hy =>
    cases hy
    cases hx with
    | p _ _ hx =>
    have hg:=guard c .nilFunc (fun _ _=>.inr (by simp)) (.inr (by simp))
    have run:∀ (p r:Array TypeId) (b:Bool),P.underlying t=some (.func p r b)→x.isF=true→(Op.equal t c .nilFunc).run P w=.ok x.Bq w:=by
     intro p r b hu hf
     have key:∀ d,(Op.equalIn (d+1) t c .nilFunc).run P w=.ok x.Bq w:=fun d=>by
      cases hx<;>first | (simp[PV.isF]at hf;done) | simp[Op.equalIn,aX hu,PV.Bq]
     exact key 9999
    have hb:∀ o,(o=.eql∨o=.neq)→binOp o t c .nilFunc=(match o with | .eql=>(do pure (.bool (← Op.equal t c .nilFunc)):Sem Value) | _=>(do pure (.bool (!(← Op.equal t c .nilFunc))):Sem Value)):=by
     intro o ho
     rcases ho with rfl | rfl<;>(cases hx<;>rfl)
    split
    · rename_i hu
      refine aj.chk fun hf=>aj.ret (.p _ _ (.bool _)) ?_
      simp only[Sem.run_bind,hg,qRa,hb .eql (.inl rfl),run _ _ _ (ok.und hu) hf,Sem.run_pure]
    · rename_i hu
      refine aj.chk fun hf=>aj.ret (.p _ _ (.bool _)) ?_
      simp only[Sem.run_bind,hg,qRa,hb .neq (.inr rfl),run _ _ _ (ok.und hu) hf,Sem.run_pure]
    · exact aj.fail
  · rename_i x
    cases hy with
    | p _ _ hy =>
    cases hy
    cases hx with
    | p _ _ hx =>
    have hg:isLit oy=true→(eqGuard op t ox oy c .nilIface).run P w=.ok () w:=by
     intro hl
     cases oy<;>simp[isLit]at hl
     cases op<;>first | (simp[eqGuard];done) | (cases c<;>simp[eqGuard])
    have run:∀ ms,P.underlying t=some (.interface ms)→x.isI=true→(Op.equal t c .nilIface).run P w=.ok x.KJ w:=by
     intro ms hu hf
     have key:∀ d,(Op.equalIn (d+1) t c .nilIface).run P w=.ok x.KJ w:=fun d=>by
      cases hx<;>first | (simp[PV.isI]at hf;done) | simp[Op.equalIn,aX hu,PV.KJ]
     exact key 9999
    have hb:∀ o,(o=.eql∨o=.neq)→binOp o t c .nilIface=(match o with | .eql=>(do pure (.bool (← Op.equal t c .nilIface)):Sem Value) | _=>(do pure (.bool (!(← Op.equal t c .nilIface))):Sem Value)):=by
     intro o ho
     rcases ho with rfl | rfl<;>(cases hx<;>rfl)
    split
    · rename_i hu
      refine aj.chk fun hf=>?_
      simp only[qBa]at hf
      refine aj.ret (.p _ _ (.bool _)) ?_
      simp only[Sem.run_bind,hg hf.1,qRa,hb .eql (.inl rfl),run _ (ok.und hu) hf.2,Sem.run_pure]
    · rename_i hu
      refine aj.chk fun hf=>?_
      simp only[qBa]at hf
      refine aj.ret (.p _ _ (.bool _)) ?_
      simp only[Sem.run_bind,hg hf.1,qRa,hb .neq (.inr rfl),run _ (ok.und hu) hf.2,Sem.run_pure]
    · exact aj.fail
  · rename_i a ks xs
    cases hy with
    | p _ _ hy =>
    cases hy
    cases hx with
    | p _ _ hx =>
    have hg:=guard c (.slice none 0 0) (fun _ _=>.inr (by simp)) (.inr (by simp))
    have run:∀ e,P.underlying t=some (.slice e)→0<xs.length→(Op.equal t c (.slice none 0 0)).run P w=.ok false w:=by
     intro e hu hl
     have key:∀ d,(Op.equalIn (d+1) t c (.slice none 0 0)).run P w=.ok false w:=fun d=>by
      cases hx with
      | list=>simp[Op.equalIn,aX hu]
      | kZ=>simp at hl
     exact key 9999
    have hb:∀ o,(o=.eql∨o=.neq)→binOp o t c (.slice none 0 0)=(match o with | .eql=>(do pure (.bool (← Op.equal t c (.slice none 0 0))):Sem Value) | _=>(do pure (.bool (!(← Op.equal t c (.slice none 0 0)))):Sem Value)):=by
     intro o ho
     rcases ho with rfl | rfl<;>(cases hx<;>rfl)
    split
    · rename_i hu
      refine aj.chk fun hf=>aj.ret (.p _ _ (.bool _)) ?_
      simp only[Sem.run_bind,hg,qRa,hb .eql (.inl rfl),run _ (ok.und hu) (Nat.le_of_ble_eq_true hf),Sem.run_pure]
    · rename_i hu
      refine aj.chk fun hf=>aj.ret (.p _ _ (.bool _)) ?_
      simp only[Sem.run_bind,hg,qRa,hb .neq (.inr rfl),run _ (ok.und hu) (Nat.le_of_ble_eq_true hf),Sem.run_pure]
      rfl
    · exact aj.fail
  · exact aj.fail
theorem abm (ok : bJ P T) {op : BinOp} {t : TypeId} {x y : AV} {c d : Value} (ox oy : Operand) (hx : AR w M β h x c) (hy : AR w M β h y d) :
    aj P w M β h (FX T op t (isLit oy) x y) (do eqGuard op t ox oy c d;binOp op t c d):=by
  unfold FX
  split
  · exact EI ok ox oy hx hy
  · exact EI ok ox oy hx hy
  · exact EI ok ox oy hx hy
  · exact Zv ok ox oy hx hy
end
end Go.Skm
