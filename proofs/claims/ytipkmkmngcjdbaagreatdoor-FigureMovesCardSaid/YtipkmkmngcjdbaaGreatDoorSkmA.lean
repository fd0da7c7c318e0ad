/-
  A machine that runs this program's functions on pure values, and the proof that what it returns is true of the program; no condition beside the hypotheses of each.
-/
import Derived.Orders
import Derived.WalkKit
namespace Go.Skm
inductive Kd where
 | int (k:IntKind)
 | bool
 | str
 | slice (a:Bool) (ks:List Kd)
 | other
 deriving Inhabited
mutual
def Kd.beq:Kd→Kd→Bool
 | .int j,.int k=>j==k
 | .bool,.bool=>true
 | .str,.str=>true
 | .slice a ks,.slice b ls=>a==b&&Kd.wL ks ls
 | .other,.other=>true
 | _,_=>false
def Kd.wL:List Kd→List Kd→Bool
 | [],[]=>true
 | k::ks,l::ls=>Kd.beq k l&&Kd.wL ks ls
 | _,_=>false
end
inductive PV where
 | bool (b:Bool)
 | int (k:IntKind) (n:Int)
 | str (s:ByteArray)
 | agg (cs:List PV)
 | list (a:Bool) (ks:List Kd) (xs:List PV)
 | full (a:Bool) (ks:List Kd) (xs:List PV)
 | nil
 | fn (f:Nat) (caps:List PV)
 | ref (cs:List PV)
 | zS
 | jL
 | Xf
 | oO
 | zX (ks vs:List PV)
 | Po
 deriving Inhabited
def PV.cells:PV→List PV
 | .agg cs=>cs
 | v=>[v]
def PV.cell:PV→Nat→PV
 | .agg cs,j=>cs.getD j .nil
 | v,_=>v
def PV.toInt:PV→Int
 | .int _ n=>n
 | _=>0
def PV.toBool:PV→Bool
 | .bool b=>b
 | _=>false
def PV.toStr:PV→ByteArray
 | .str s=>s
 | _=>ByteArray.empty
def PV.toList:PV→List PV
 | .list _ _ xs=>xs
 | .full _ _ xs=>xs
 | _=>[]
def PV.cap:PV→Nat→PV
 | .fn _ cs,j=>cs.getD j .nil
 | _,_=>.nil
def PV.dL:PV→Nat→PV
 | .ref cs,j=>cs.getD j .nil
 | v,_=>v
def PV.isF:PV→Bool
 | .fn _ _=>true
 | .jL=>true
 | _=>false
def PV.Ar:PV→Bool
 | .jL=>true
 | _=>false
def PV.isI:PV→Bool
 | .Xf=>true
 | .oO=>true
 | _=>false
def PV.JQ:PV→Bool
 | .oO=>true
 | _=>false
def eta:Kd→PV→PV
 | .int k,v=>.int k v.toInt
 | .bool,v=>.bool v.toBool
 | .str,v=>.str v.toStr
 | .slice a ks,v=>.list a ks v.toList
 | .other,v=>v
def eF:List Kd→PV→Nat→List PV
 | [],_,_=>[]
 | k::ks,x,j=>eta k (x.cell j)::eF ks x (j+1)
def kindOk:Kd→PV→Bool
 | .int j,.int k _=>j==k
 | .bool,.bool _=>true
 | .str,.str _=>true
 | .slice a ks,.list b ls _=>a==b&&Kd.wL ks ls
 | .slice _ _,.nil=>true
 | .other,.agg _=>false
 | .other,_=>true
 | _,_=>false
def bH:List Kd→List PV→Bool
 | [],[]=>true
 | k::ks,v::vs=>kindOk k v&&bH ks vs
 | _,_=>false
def wO:List Kd→PV→Nat→List PV
 | [],_,_=>[]
 | k::ks,x,j=>eta k (x.dL j)::wO ks x (j+1)
def Pq:Bool × List Kd→PV→PV
 | (true,ks),v=>.ref (wO ks v 0)
 | (false,[k]),v=>eta k v
 | _,v=>v
def lI:List (Bool × List Kd)→PV→Nat→List PV
 | [],_,_=>[]
 | s::r,x,j=>Pq s (x.cap j)::lI r x (j+1)
def QY:Bool × List Kd→PV→Bool
 | (true,ks),.ref cs=>bH ks cs
 | (false,[k]),v=>kindOk k v
 | _,_=>false
def vg:List (Bool × List Kd)→List PV→Bool
 | [],[]=>true
 | s::r,v::vs=>QY s v&&vg r vs
 | _,_=>false
def PV.acZ:PV→Bool
 | .agg _=>false
 | _=>true
def aA:Bool→List Kd→PV→Bool
 | true,ks,.agg cs=>bH ks cs
 | true,_,_=>false
 | false,[k],v=>kindOk k v
 | false,_,_=>false
inductive AV where
 | undef
 | p (v:PV)
 | slice (s z off len:Nat)
 | bslice (s off len:Nat)
 | ptr (s idx off:Nat)
 | mO (a:Bool) (ks:List Kd) (x:PV) (off:Nat)
 | fn (f:Nat) (caps:List AV)
 | agg (cs:List AV)
 | mG (vs:List AV)
 | fresh (a:Bool) (ks:List Kd) (xs:List PV)
 | sJ
 | mref (s:Nat)
 deriving Inhabited
inductive aI where
 | box (cs:List AV)
 | arr (a:Bool) (ks:List Kd) (xs:List PV)
 | log (on:Bool) (xs:List PV)
 | tb (t:TypeId) (c0 c1:AV)
 | mp (t:TypeId) (es:List (PV × PV))
 | br (e:TypeId) (xs:List PV)
 deriving Inhabited
abbrev Heap:=List (Nat × aI)
structure St where
 env:List AV
 heap:Heap
inductive Ex where
 | normal
 | exit (id:Nat)
 | ret
structure Eff where
 val:AV
 lJ:List (Nat × aI):=[]
 new:List Nat:=[]
 cut:List Nat:=[]
 wP:List Nat:=[]
def look:Heap→Nat→Option aI
 | [],_=>none
 | (k,b)::h,s=>bif k==s then some b else look h s
def put:Heap→Nat→aI→Heap
 | [],s,b=>[(s,b)]
 | (k,c)::h,s,b=>bif k==s then(s,b)::h else(k,c)::put h s b
def drop1:Heap→Nat→Heap
 | [],_=>[]
 | (k,c)::h,s=>bif k==s then drop1 h s else(k,c)::drop1 h s
def cZ:Heap→List (Nat × aI)→Heap
 | h,[]=>h
 | h,(s,b)::r=>cZ (put h s b) r
def l9:Heap→List Nat→Heap
 | h,[]=>h
 | h,s::r=>l9 (drop1 h s) r
def dZ:Nat→List Nat→Bool
 | _,[]=>false
 | x,y::r=>bif x==y then true else dZ x r
mutual
def AV.refers (ss:List Nat):AV→Bool
 | .slice s _ _ _=>dZ s ss
 | .bslice s _ _=>dZ s ss
 | .ptr s _ _=>dZ s ss
 | .mref s=>dZ s ss
 | .fn _ cs=>AV.fK ss cs
 | .agg cs=>AV.fK ss cs
 | .mG cs=>AV.fK ss cs
 | _=>false
def AV.fK (ss:List Nat):List AV→Bool
 | []=>false
 | v::r=>AV.refers ss v||AV.fK ss r
end
def AV.kill (ss:List Nat) (v:AV):AV:=bif AV.refers ss v then .undef else v
def fP (ss:List Nat):List AV→List AV
 | []=>[]
 | v::r=>AV.kill ss v::fP ss r
def aI.kill (ss:List Nat):aI→aI
 | .box cs=>.box (fP ss cs)
 | .tb t c0 c1=>.tb t (AV.kill ss c0) (AV.kill ss c1)
 | b=>b
def fD (ss:List Nat):Heap→Heap
 | []=>[]
 | (k,b)::h=>(k,b.kill ss)::fD ss h
def St.kill (ss:List Nat) (st:St):St :=
 match ss with
 | []=>st
 | _=>{ env:=fP ss st.env,heap:=fD ss st.heap }
def setEnv (env:List AV) (d:Option Nat) (v:AV):List AV :=
 match d with
 | some d=>env.set d v
 | none=>env
def St.strike (ss:List Nat) (st:St):St :=
 match ss with
 | []=>st
 | ss=>{ env:=fP ss st.env,heap:=l9 (fD ss st.heap) ss }
def present (h:Heap):List Nat→List Nat
 | []=>[]
 | s::r=>match look h s with
  | some _=>s::present h r
  | none=>present h r
def St.apply (st:St) (d:Option Nat) (e:Eff):St :=
 let st1:=(st.strike (present st.heap e.new++e.wP)).kill e.cut
 { env:=setEnv st1.env d e.val,heap:=cZ st1.heap e.lJ }
def wQ (s d x:Nat):Nat:=bif x==s then d else x
mutual
def AV.ren (s d:Nat):AV→AV
 | .slice x z o l=>.slice (wQ s d x) z o l
 | .bslice x o l=>.bslice (wQ s d x) o l
 | .ptr x i o=>.ptr (wQ s d x) i o
 | .mref x=>.mref (wQ s d x)
 | .fn f cs=>.fn f (AV.CS s d cs)
 | .agg cs=>.agg (AV.CS s d cs)
 | .mG cs=>.mG (AV.CS s d cs)
 | v=>v
def AV.CS (s d:Nat):List AV→List AV
 | []=>[]
 | v::r=>AV.ren s d v::AV.CS s d r
end
def aI.ren (s d:Nat):aI→aI
 | .box cs=>.box (AV.CS s d cs)
 | .tb t c0 c1=>.tb t (AV.ren s d c0) (AV.ren s d c1)
 | b=>b
def oC (s d:Nat):Heap→Heap
 | []=>[]
 | (k,b)::h=>(wQ s d k,b.ren s d)::oC s d h
def St.Au (st:St) (s d:Nat):St :=
 let st1:=st.strike [d]
 { env:=AV.CS s d st1.env,heap:=oC s d st1.heap }
def qW (live:List Nat):Nat→List AV→List AV
 | _,[]=>[]
 | i,v::r=>(bif dZ i live then v else .undef)::qW live (i+1) r
def Gh (sites:List Nat):Heap→List Nat
 | []=>[]
 | (k,_)::h=>bif dZ k sites then Gh sites h else k::Gh sites h
def St.forget (st:St) (live sites:List Nat):St :=
 let st1:St:={ st with env:=qW live 0 st.env }
 st1.strike (Gh sites st1.heap)
inductive dX where
 | deep
 | fresh
 | alias (j:Nat)
 | func (g:Nat) (ss:List (Bool × List Kd))
 | vk (g:Nat) (ss:List (Bool × List Kd))
 | IW
 | DI
 | yc
 deriving Inhabited
inductive Prim where
 | none
 | Zb
 | Zc
 | str
 deriving Inhabited
def Prim.is:Prim→Bool
 | .none=>false
 | _=>true
def Prim.writes:Prim→Bool
 | .Zb=>true
 | .Zc=>true
 | _=>false
structure Aw where
 zD:Bool:=false
 shares:Bool:=false
 yR:Bool:=false
 rets:List dX:=[]
 nvars:Nat:=0
 yk:List (Bool × List Kd):=[]
 ys:List Nat:=[]
 cuts:List (Nat × List Nat × List Nat):=[]
 alts:List (Nat × List (Nat × List (Nat × List (Bool × List Kd)))):=[]
 frzs:List Nat:=[]
 zT:Prim:=.none
 Gi:List TypeId:=[]
 JR:TypeId:=0
 homes:List Nat:=[]
 quiet:Bool:=false
 fhomes:List Nat:=[]
 vcall:Bool:=false
 vkeep:Bool:=false
 Zd:TypeId:=0
 deriving Inhabited
structure TI where
 desc:TypeDesc
 size:Nat
 bytes:Nat
 agg:Bool
 sh:Bool × List Kd
 zero:Option PV
 plain:Bool
structure FI where
 fn:Func
 cfg:Aw
 hides:List (Nat × List (List Nat)):=[]
structure Tab where
 types:List (Nat × TI)
 funcs:List (Nat × FI)
 strict:Bool:=false
 owns:List (Nat × Nat):=[]
 calcs:List Nat:=[]
def bG {β:Type}:List (Nat × β)→Nat→Option β
 | [],_=>none
 | (k,x)::r,s=>bif k==s then some x else bG r s
def Pv:Value→Option PV
 | .bool b=>some (.bool b)
 | .int k n=>some (.int k n)
 | .string s=>some (.str s)
 | .slice none 0 0=>some .nil
 | .pointer none=>some .zS
 | .nilFunc=>some .jL
 | .nilIface=>some .oO
 | .map none=>some .Po
 | _=>none
def yg:List Value→Option (List PV)
 | []=>some []
 | v::r=>match Pv v,yg r with
  | some x,some xs=>some (x::xs)
  | _,_=>none
def ofValue:Value→Option PV
 | .agg cs=>(yg cs.toList).map .agg
 | v=>Pv v
section
variable (P:Program)
def tY (t:TypeId):Bool :=
 match P.underlying t with
 | some (.struct _)=>true
 | some (.array _ _)=>true
 | _=>false
def aX:Nat→TypeId→Bool × List Kd
 | 0,_=>(false,[.other])
 | n+1,t =>
  match P.underlying t with
  | some (.int k)=>(false,[.int k])
  | some .bool=>(false,[.bool])
  | some .string=>(false,[.str])
  | some (.slice e)=>(false,[.slice (aX n e).1 (aX n e).2])
  | some (.struct fs)=>(true,fs.toList.flatMap fun f=>(aX n f.type).2)
  | some (.array len e)=>(true,(List.replicate len (aX n e).2).flatten)
  | _=>(false,[.other])
def I8 (sz:TypeId→Option Nat) (g:TypeId→Bool):Nat→List Field→Bool
 | _,[]=>true
 | o,f::r=>match sz f.type with
  | some n => f.offset == o && (f.name != "_" && (g f.type && I8 sz g (o + n) r))
  | none=>false
def Az:Nat→TypeId→Bool
 | 0,_=>false
 | n+1,t=>match P.underlying t with
  | some (.int _)=>true
  | some .bool=>true
  | some .string=>true
  | some (.struct fs)=>!(P.stoodInHeld t)&&I8 (fun t=>(P.info? t).map (·.size)) (Az n) 0 fs.toList
  | _=>false
def JU (t:TypeId):Bool :=
 match P.underlying t with
 | some (.struct _)=>Az P 4 t&&!(P.eqGuardType P.depth t)
 | _=>false
def nO (t:TypeId):Option TI :=
 match P.underlying t,P.info? t with
 | some d,some i=>some { desc:=d,size:=i.size,bytes:=i.bytes,agg:=tY P t,sh:=aX P 8 t,zero:=i.zero.bind ofValue,plain:=JU P t }
 | _,_=>none
end
section
variable (T:Tab)
def und (t:TypeId):Option TypeDesc:=(bG T.types t).map (·.desc)
def mP (t:TypeId):Option Nat:=(bG T.types t).map (·.size)
def EL (t:TypeId):Option Nat:=(bG T.types t).map (·.bytes)
def Ze (t:TypeId):Bool:=match bG T.types t with | some i=>i.agg | none=>false
def aB (t:TypeId):Bool × List Kd:=match bG T.types t with | some i=>i.sh | none=>(false,[])
def Hz (t:TypeId):Option PV:=(bG T.types t).bind (·.zero)
def Gj (t:TypeId):Bool:=match bG T.types t with | some i=>i.plain | none=>false
def iZ (f:Nat):Aw:=match bG T.funcs f with | some i=>i.cfg | none=>{}
def aU (env:List AV):Operand→AV
 | .tmp t=>env.getD t .undef
 | .const v=>match ofValue v with
  | some x=>.p x
  | none=>.undef
 | .func f=>.p (.fn f [])
 | .global _=>.undef
def jw (env:List AV):List Operand→List AV
 | []=>[]
 | x::r=>aU env x::jw env r
def zF:List AV→Option (List PV)
 | []=>some []
 | .p v::r=>match zF r with
  | some vs=>some (v::vs)
  | none=>none
 | _=>none
def zG (cs:List AV):AV :=
 match zF cs with
 | some vs=>.p (.agg vs)
 | none=>.agg cs
def AV.BJ:List AV→Bool
 | []=>true
 | .undef::_=>false
 | .sJ::_=>false
 | .mG _::_=>false
 | .fresh _ _ _::_=>false
 | .agg _::_=>false
 | _::r=>AV.BJ r
def AV.ok:AV→Bool
 | .undef=>false
 | .sJ=>false
 | .mG _=>false
 | .fresh _ _ _=>false
 | .agg cs=>AV.BJ cs
 | _=>true
def AV.cells:AV→List AV
 | .p (.agg cs)=>cs.map .p
 | .agg cs=>cs
 | v=>[v]
def Uc:PV→Kd
 | .int j _=>.int j
 | .bool _=>.bool
 | .str _=>.str
 | _=>.other
def EM (cs:List AV):Option (Kd × List PV) :=
 match zF cs with
 | some (v::vs)=>bif (v::vs).all (kindOk (Uc v)) then some (Uc v,v::vs) else none
 | _=>none
def HY (h:Nat→Option aI):AV→Option (PV × List Nat)
 | .p v=>some (v,[])
 | .slice s _ off len=>match h s with
  | some (.arr a ks xs)=>some (.list a ks ((xs.drop off).take len),[s])
  | _=>none
 | .bslice s off len=>match h s with
  | some (.box cs)=>match EM cs with
   | some (kd,vs)=>some (.list false [kd] ((vs.drop off).take len),[s])
   | none=>none
  | _=>none
 | .mref s=>match h s with
  | some (.mp _ es)=>some (.zX (es.map (·.1)) (es.map (·.2)),[s])
  | _=>none
 | _=>none
def vw (h:Nat→Option aI):List AV→Option (List PV × List Nat)
 | []=>some ([],[])
 | v::r=>match HY h v,vw h r with
  | some (x,s),some (xs,ss)=>some (x::xs,s++ss)
  | _,_=>none
def EN (h:Nat→Option aI):AV→Option (PV × List Nat)
 | .ptr s 0 0=>match h s with
  | some (.box cs)=>match vw h cs with
   | some (vs,ss)=>some (.ref vs,s::ss)
   | none=>none
  | _=>none
 | v=>HY h v
def AA (h:Nat→Option aI):List AV→Option (List PV × List Nat)
 | []=>some ([],[])
 | v::r=>match EN h v,AA h r with
  | some (x,s),some (xs,ss)=>some (x::xs,s++ss)
  | _,_=>none
def deep (h:Nat→Option aI):AV→Option (PV × List Nat)
 | .agg cs=>match vw h cs with
  | some (vs,ss)=>some (.agg vs,ss)
  | none=>none
 | .fn f cs=>match AA h cs with
  | some (vs,ss)=>some (.fn f vs,ss)
  | none=>none
 | v=>EN h v
def C9 (h:Nat→Option aI):List AV→Option (List PV × List Nat)
 | []=>some ([],[])
 | v::r=>match deep h v,C9 h r with
  | some (x,s),some (xs,ss)=>some (x::xs,s++ss)
  | _,_=>none
def NQ (h:Nat→Option aI):AV→Option (Option (Bool × List Kd) × Nat × List PV)
 | .slice s _ off len=>match h s with
  | some (.arr a ks xs)=>some (some (a,ks),len,(xs.drop off).take len)
  | _=>none
 | .bslice s off len=>match h s with
  | some (.box cs)=>match EM cs with
   | some (kd,vs)=>some (some (false,[kd]),len,(vs.drop off).take len)
   | none=>none
  | _=>none
 | .p (.list a ks xs)=>some (some (a,ks),xs.length,xs)
 | .p (.full a ks xs)=>some (some (a,ks),xs.length,xs)
 | .p .nil=>some (none,0,[])
 | .p (.str s)=>some (some (false,[.int .u8]),s.size,s.data.toList.map fun b=>.int .u8 b.toNat)
 | _=>none
def yS (o:Option (Bool × List Kd)) (a:Bool) (ks:List Kd):Bool :=
 match o with
 | none=>true
 | some (b,ls)=>a==b&&Kd.wL ks ls
def Ud (op:BinOp) (k:IntKind) (x y:Int):Option PV :=
 match op with
 | .add=>some (.int k (k.wrap (x+y)))
 | .sub=>some (.int k (k.wrap (x-y)))
 | .mul=>some (.int k (k.wrap (x*y)))
 | .and=>some (.int k (k.wrap (BitVec.ofInt k.bits x &&& BitVec.ofInt k.bits y).toNat))
 | .or=>some (.int k (k.wrap (BitVec.ofInt k.bits x ||| BitVec.ofInt k.bits y).toNat))
 | .xor=>some (.int k (k.wrap (BitVec.ofInt k.bits x ^^^ BitVec.ofInt k.bits y).toNat))
 | .andNot=>some (.int k (k.wrap (BitVec.ofInt k.bits x &&& ~~~(BitVec.ofInt k.bits y)).toNat))
 | .eql=>some (.bool (x==y))
 | .neq=>some (.bool (x != y))
 | .lss=>some (.bool (decide (x<y)))
 | .leq=>some (.bool (decide (x≤y)))
 | .gtr=>some (.bool (decide (x > y)))
 | .geq=>some (.bool (decide (x ≥ y)))
 | _=>none
def yT:List UInt8→List UInt8→Bool
 | _,[]=>false
 | [],_::_=>true
 | a::x,b::y=>decide (a<b)||(a==b&&yT x y)
def Ue (op:BinOp) (x y:ByteArray):Option PV :=
 match op with
 | .eql=>some (.bool (x.toList==y.toList))
 | .neq=>some (.bool !(x.toList==y.toList))
 | .lss=>some (.bool (yT x.toList y.toList))
 | .leq=>some (.bool (yT x.toList y.toList||x.toList==y.toList))
 | .gtr=>some (.bool !(yT x.toList y.toList||x.toList==y.toList))
 | .geq=>some (.bool !(yT x.toList y.toList))
 | _=>none
def JV (d:Option TypeDesc):PV→PV→Option Bool
 | .int j x,.int k y=>match d with
  | some (.int _)=>bif j==k then some (x==y) else none
  | _=>none
 | .bool x,.bool y=>match d with
  | some .bool=>some (x==y)
  | _=>none
 | .str x,.str y=>match d with
  | some .string=>some (x==y)
  | _=>none
 | _,_=>none
def MK (sz:TypeId→Option Nat) (g:TypeId→List PV→List PV→Option Bool):List Field→List PV→List PV→Option Bool
 | [],[],[]=>some true
 | f::fs,xs,ys=>match sz f.type with
  | some n=>bif Nat.ble n xs.length&&Nat.ble n ys.length then(match g f.type (xs.take n) (ys.take n),MK sz g fs (xs.drop n) (ys.drop n) with
   | some a,some b=>some (a&&b)
   | _,_=>none) else none
  | none=>none
 | _,_,_=>none
def OX:Nat→TypeId→List PV→List PV→Option Bool
 | 0,_,_,_=>none
 | n+1,t,xs,ys=>match und T t with
  | some (.struct fs)=>MK (mP T) (OX n) fs.toList xs ys
  | d=>match xs,ys with
   | [x],[y]=>JV d x y
   | _,_=>none
def vC:Nat→List Field→Bool
 | _,[]=>true
 | o, f :: r => (f.offset == o && (f.name != "_" && Nat.beq ((mP T f.type).getD 0) 1)) && ((match und T f.type with
  | some (.int _)=>true
  | _=>false)&&vC (o+1) r)
def BK (t:TypeId):Bool :=
 Gj T t&&match und T t with
 | some (.struct fs)=>vC T 0 fs.toList
 | _=>false
def nFields (t:TypeId):Nat:=match und T t with
 | some (.struct fs)=>fs.size
 | _=>0
def PV.Zf:PV→Option (List PV)
 | .agg cs=>some cs
 | _=>none
def oq (t:TypeId) (k:List PV):List (PV × PV)→Option (Option Nat)
 | []=>some none
 | p::r=>match p.1.Zf with
  | some c=>match OX T 4 t k c with
   | some true=>some (some 0)
   | some false=>(oq t k r).map fun i=>i.map (·+1)
   | none=>none
  | none=>none
def yK (es:List (PV × PV)) (k v:PV):Option Nat→List (PV × PV)
 | some i=>es.set i ((es.getD i (.nil,.nil)).1,v)
 | none=>es++[(k,v)]
inductive DT where
 | fail
 | ret (e:Eff)
 | ite (c:Bool) (x y:DT)
 | call (o:Option (List AV × List aI)) (f:List AV × List aI→DT)
def DT.run {α:Type} (k:Eff→Option α):DT→Option α
 | .fail=>none
 | .ret e=>k e
 | .ite c x y=>cond c (DT.run k x) (DT.run k y)
 | .call o f=>match o with
  | some r=>DT.run k (f r)
  | none=>none
abbrev jo (a b:Int):Bool:=decide (a<b)
abbrev leI (a b:Int):Bool:=decide (a≤b)
abbrev Dt (a b:Int):Bool:=decide (a > b)
abbrev wJ (a b:Int):Bool:=decide (a ≥ b)
abbrev eqI (a b:Int):Bool:=decide (a=b)
abbrev Qr (a b:Nat):Bool:=decide (a≤b)
def chk (c:Bool) (x:DT):DT:=.ite c x .fail
def isLit:Operand→Bool
 | .const _=>true
 | _=>false
def yh (op:BinOp) (t:TypeId) (x y:AV):DT :=
 match x,y with
 | .p (.int j a),.p (.int i b) =>
  match op with
  | .shl=>chk (!(decide (b<0)))<|.ret { val:=.p (.int j (j.wrap (a*2 ^ (min b.toNat j.bits)))) }
  | .shr=>chk (!(decide (b<0)))<|.ret { val:=.p (.int j (a.fdiv (2 ^ (min b.toNat j.bits)))) }
  | .quo=>chk (j==i)<|chk (!(decide (b=0)))<|.ret { val:=.p (.int j (j.wrap (a.tdiv b))) }
  | .rem=>chk (j==i)<|chk (!(decide (b=0)))<|.ret { val:=.p (.int j (a.tmod b)) }
  | op=>chk (j==i)<|match Ud op j a b with
   | some v=>.ret { val:=.p v }
   | none=>.fail
 | .p (.str a),.p (.str b) =>
  match op with
  | .add=>chk (decide (a.size+b.size≤4611686018427387904))<|.ret { val:=.p (.str (a++b)) }
  | op=>match Ue op a b with
   | some v=>.ret { val:=.p v }
   | none=>.fail
 | .p (.bool a),.p (.bool b) =>
  match op,und T t with
  | .eql,some .bool=>.ret { val:=.p (.bool (a==b)) }
  | .neq,some .bool=>.ret { val:=.p (.bool (!(a==b))) }
  | _,_=>.fail
 | .p (.agg a),.p (.agg b) =>
  chk (Gj T t) <|
   match und T t with
   | some (.struct _) =>
    match op,OX T 4 t a b with
    | .eql,some r=>.ret { val:=.p (.bool r) }
    | .neq,some r=>.ret { val:=.p (.bool (!r)) }
    | _,_=>.fail
   | _=>.fail
 | _,_=>.fail
def yU (op:BinOp) (t:TypeId) (kc:Bool) (x y:AV):DT :=
 match y,x with
 | .p .jL,.p x =>
  match op,und T t with
  | .eql,some (.func _ _ _)=>chk x.isF<|.ret { val:=.p (.bool x.Ar) }
  | .neq,some (.func _ _ _)=>chk x.isF<|.ret { val:=.p (.bool (!x.Ar)) }
  | _,_=>.fail
 | .p .oO,.p x =>
  match op,und T t with
  | .eql,some (.interface _)=>chk (kc&&x.isI)<|.ret { val:=.p (.bool x.JQ) }
  | .neq,some (.interface _)=>chk (kc&&x.isI)<|.ret { val:=.p (.bool (!x.JQ)) }
  | _,_=>.fail
 | .p .nil,.p (.list _ _ xs) =>
  match op,und T t with
  | .eql,some (.slice _)=>chk (Nat.blt 0 xs.length)<|.ret { val:=.p (.bool false) }
  | .neq,some (.slice _)=>chk (Nat.blt 0 xs.length)<|.ret { val:=.p (.bool true) }
  | _,_=>.fail
 | _,_=>.fail
def EO (op:BinOp) (t:TypeId) (kc:Bool) (x y:AV):DT :=
 match y with
 | .p .jL=>yU T op t kc x y
 | .p .oO=>yU T op t kc x y
 | .p .nil=>yU T op t kc x y
 | _=>yh T op t x y
def JW (op:UnOp) (x:AV):DT :=
 match op,x with
 | .neg,.p (.int j n)=>.ret { val:=.p (.int j (j.wrap (0-n))) }
 | .not,.p (.bool b)=>.ret { val:=.p (.bool (!b)) }
 | _,_=>.fail
def JX (c a b:AV):DT :=
 match c with
 | .p (.bool c) =>
  match a,b with
  | .p (.bool x),.p (.bool y)=>.ret { val:=.p (.bool (cond c x y)) }
  | a,b=>.ite c (.ret { val:=a }) (.ret { val:=b })
 | _=>.fail
def abD (t:TypeId):PV→aI
 | .agg [.zS,.nil]=>.tb t (.p .zS) (.p .nil)
 | z=>.box ((AV.p z).cells)
def Gl (d:Option Nat) (t:TypeId):DT :=
 match d,Hz T t with
 | some d,some z=>.ret { val:=.ptr d 0 0,lJ:=[(d,abD t z)],new:=[d] }
 | _,_=>.fail
def Px (d:Option Nat) (v:AV):DT :=
 match d with
 | some d=>chk (v.ok&&!(AV.refers [d] v))<|.ret { val:=.ptr d 0 0,lJ:=[(d,.box v.cells)],new:=[d] }
 | none=>.fail
def patch {β:Type} (cs:List β) (off:Nat) (vs:List β):List β:=cs.take off++vs++cs.drop (off+vs.length)
def Dc (place:Nat→Option (Nat × Nat)):List AV→List (Nat × AV)→Option (List AV)
 | cs,[]=>some cs
 | cs,(i,v)::r=>match place i with
  | none=>none
  | some (off,size) =>
   bif v.cells.length==size&&Nat.ble (off+size) cs.length&&v.ok then Dc place (patch cs off v.cells) r else none
def fF:List Field→List (Option (Nat × Nat))
 | []=>[]
 | f::r=>((mP T f.type).map fun n=>(f.offset,n))::fF r
def Gm (t:TypeId) (parts:List (Nat × AV)):DT :=
 match Hz T t,und T t with
 | some (.agg zs),some (.struct fs) =>
  chk ((fF T fs.toList).all Option.isSome) <|
  match Dc (fun i=>((fF T fs.toList)[i]?).bind id) (zs.map .p) parts with
  | some cs=>.ret { val:=zG cs }
  | none=>.fail
 | some (.agg zs),some (.array _ e) =>
  match mP T e with
  | some n=>match Dc (fun i=>some (i*n,n)) (zs.map .p) parts with
   | some cs=>.ret { val:=zG cs }
   | none=>.fail
  | none=>.fail
 | _,_=>.fail
def QZ (h:Nat→Option aI) (a:Bool) (ks:List Kd):List PV→List Nat→List (Nat × AV)→Option (List PV × List Nat)
 | xs,ss,[]=>some (xs,ss)
 | xs,ss,(i,v)::r=>match deep h v with
  | some (x,s)=>bif aA a ks x&&Nat.blt i xs.length then QZ h a ks (xs.set i x) (ss++s) r else none
  | none=>none
def vF (h:Nat→Option aI) (d:Option Nat) (t:TypeId) (len:Nat) (parts:List (Nat × AV)):DT :=
 match d,und T t with
 | some d,some (.slice e) =>
  match Hz T e,mP T e with
  | some z,some n =>
   let sh:=aB T e
   chk (n==sh.2.length&&aA sh.1 sh.2 z&&Nat.ble (len*n) 16777216) <|
    match QZ h sh.1 sh.2 (List.replicate len z) [] parts with
    | some (xs,ss)=>.ret { val:=.slice d n 0 len,lJ:=[(d,.arr sh.1 sh.2 xs)],new:=[d],wP:=ss }
    | none=>.fail
  | _,_=>.fail
 | _,_=>.fail
def Py (t:TypeId) (n:Nat) (a:Bool) (ks:List Kd) (x:PV) (off:Nat):Option PV :=
 bif Nat.ble (off+n) ks.length then
  bif Ze T t then(bif a then some (.agg (eF ((ks.drop off).take n) x off)) else none)
  else bif Nat.beq n 1 then(match (ks.drop off).head? with
   | some kd=>some (eta kd (x.cell off))
   | none=>none) else none
 else none
def qX (t:TypeId) (n:Nat) (cs:List AV) (off:Nat):Option AV :=
 bif Nat.ble (off+n) cs.length then
  bif Ze T t then some (zG ((cs.drop off).take n)) else(bif Nat.beq n 1 then some (cs.getD off .undef) else none)
 else none
def AB (h:Nat→Option aI) (t:TypeId) (ptr:AV):DT :=
 match mP T t with
 | none=>.fail
 | some n =>
  match ptr with
  | .ptr s idx off=>match h s with
   | some (.box cs)=>match qX T t n cs off with
    | some v=>.ret { val:=v }
    | none=>.fail
   | some (.arr a ks xs)=>match Py T t n a ks (xs.getD idx .nil) off with
    | some v=>.ret { val:=.p v }
    | _=>.fail
   | _=>.fail
  | .mO a ks x off=>match Py T t n a ks x off with
   | some v=>.ret { val:=.p v }
   | none=>.fail
  | .p (.ref cs)=>match qX T t n (cs.map .p) 0 with
   | some v=>.ret { val:=v }
   | none=>.fail
  | _=>.fail
def Gn (h:Nat→Option aI) (t:TypeId) (ptr v:AV):DT :=
 match mP T t with
 | none=>.fail
 | some n =>
  chk (v.cells.length==n) <|
   match ptr with
   | .ptr s idx off=>match h s with
    | some (.box cs) =>
     chk (v.ok&&(Nat.beq idx 0&&Nat.ble (off+n) cs.length))<|.ret { val:=.undef,lJ:=[(s,.box (patch cs off v.cells))] }
    | some (.arr a ks xs) =>
     match deep h v with
     | some (x,ss) =>
      match a with
      | true =>
       chk (bH ((ks.drop off).take n) x.cells&&(Nat.ble (off+n) ks.length&&!(dZ s ss))) <|
        .ret { val:=.undef,lJ:=[(s,.arr a ks (xs.set idx (.agg (patch (eF ks (xs.getD idx .nil) 0) off x.cells))))],wP:=ss }
      | false =>
       chk (aA a ks x&&(Nat.beq off 0&&(Nat.beq n 1&&!(dZ s ss))))<|.ret { val:=.undef,lJ:=[(s,.arr a ks (xs.set idx x))],wP:=ss }
     | none=>.fail
    | _=>.fail
   | _=>.fail
def wR (t:TypeId) (ptr:AV) (f:Nat):DT :=
 match und T t with
 | some (.struct fs) =>
  match fs[f]? with
  | some fd =>
   match mP T fd.type with
   | some (_+1) =>
    match ptr with
    | .ptr s idx off=>.ret { val:=.ptr s idx (off+fd.offset) }
    | .mO a ks x off=>.ret { val:=.mO a ks x (off+fd.offset) }
    | .p (.ref cs)=>.ret { val:=.mO true (cs.map Uc) (.agg cs) fd.offset }
    | _=>.fail
   | _=>.fail
  | none=>.fail
 | _=>.fail
def Gp (t:TypeId) (x:AV) (f:Nat):DT :=
 match und T t with
 | some (.struct fs) =>
  match fs[f]? with
  | some fd =>
   match mP T fd.type,x with
   | some n,.p (.agg cs)=>match qX T fd.type n (cs.map .p) fd.offset with
    | some v=>.ret { val:=v }
    | none=>.fail
   | some n,.agg cs=>match qX T fd.type n cs fd.offset with
    | some v=>.ret { val:=v }
    | none=>.fail
   | _,_=>.fail
  | none=>.fail
 | _=>.fail
def Pz (f:Nat→AV) (i:Int):Nat→Nat→DT
 | 0,_=>.fail
 | m+1,j=>.ite (decide (i=(j:Int))) (.ret { val:=f j }) (Pz f i m (j+1))
def wS (t:TypeId) (x:AV) (i:AV):DT :=
 match i with
 | .p (.int _ i) =>
  match und T t with
  | some (.slice e) =>
   match mP T e with
   | none=>.fail
   | some n =>
   match x with
   | .slice s z off len=>chk (z==n)<|chk (decide (0≤i)&&decide (i<(len:Int)))<|.ret { val:=.ptr s (off+i.toNat) 0 }
   | .bslice s off len=>chk (n==1)<|chk (decide (0≤i)&&decide (i<(len:Int)))<|.ret { val:=.ptr s 0 (off+i.toNat) }
   | .p (.list a ks xs)=>chk (ks.length==n)<|chk (decide (0≤i)&&decide (i<(xs.length:Int)))<|.ret { val:=.mO a ks (xs.getD i.toNat .nil) 0 }
   | .p (.full a ks xs)=>chk (ks.length==n)<|chk (decide (0≤i)&&decide (i<(xs.length:Int)))<|.ret { val:=.mO a ks (xs.getD i.toNat .nil) 0 }
   | _=>.fail
  | some (.array n e) =>
   match x,mP T e with
   | .ptr s idx off,some m=>chk (decide (0≤i)&&decide (i<(n:Int)))<|bif Nat.ble n 8 then Pz (fun j=>.ptr s idx (off+j*m)) i n 0 else .ret { val:=.ptr s idx (off+i.toNat*m) }
   | .mO a ks y off,some m=>chk (decide (0≤i)&&decide (i<(n:Int)))<|.ret { val:=.mO a ks y (off+i.toNat*m) }
   | _,_=>.fail
  | _=>.fail
 | _=>.fail
def Gq (t:TypeId) (x:AV) (i:AV):DT :=
 match i with
 | .p (.int _ i) =>
  match und T t,x with
  | some .string,.p (.str s)=>chk (decide (0≤i)&&decide (i<(s.size:Int)))<|.ret { val:=.p (.int .u8 ((s.data.getD i.toNat 0).toNat:Int)) }
  | some (.array n e),.p (.agg cs) =>
   match (aB T e).2,mP T e with
   | [kd],some 1 =>
    chk (cs.all (kindOk kd)&&Nat.beq cs.length n&&!(Ze T e)) <|
     chk (decide (0≤i)&&decide (i<(n:Int)))<|.ret { val:=.p (eta kd (cs.getD i.toNat .nil)) }
   | _,some m =>
    chk (Nat.ble n 8&&((List.range n).all (fun j=>(qX T e m (cs.map .p) (j*m)).isSome))) <|
     chk (decide (0≤i)&&decide (i<(n:Int)))<|Pz (fun j=>(qX T e m (cs.map .p) (j*m)).getD .undef) i n 0
   | _,_=>.fail
  | _,_=>.fail
 | _=>.fail
def wU (d:Option Nat) (t:TypeId) (len cap:AV):DT :=
 match d,und T t,len,cap with
 | some d,some (.slice e),.p (.int _ l),.p (.int _ c) =>
  match Hz T e,mP T e,EL T e with
  | some z,some n,some tK =>
   let sh:=aB T e
   chk (n==sh.2.length&&aA sh.1 sh.2 z&&Nat.ble tK 16384) <|
    chk (decide (0≤l)&&(decide (l≤c)&&decide (c≤2147483648))) <|
     .ret { val:=.slice d n 0 l.toNat,lJ:=[(d,.arr sh.1 sh.2 (List.replicate l.toNat z))],new:=[d] }
  | _,_,_=>.fail
 | _,_,_,_=>.fail
def bound (dflt:Int):Option AV→Option Int
 | none=>some dflt
 | some (.p (.int _ n))=>some n
 | _=>none
def AL (d:Option Nat) (t:TypeId) (hint:Option AV):DT :=
 match d,und T t,hint with
 | some d,some (.map _ _),none=>.ret { val:=.mref d,lJ:=[(d,.mp t [])],new:=[d] }
 | _,_,_=>.fail
def wV (h:Nat→Option aI) (t:TypeId) (m k v:AV):DT :=
 match und T t,m,k,v with
 | some (.map kt _),.mref s,.p (.agg kc),.p v=>match h s with
  | some (.mp u es) =>
   chk (BK T kt&&(v.acZ&&Nat.beq kc.length (nFields T kt))) <|
   chk ((oq T kt kc es).isSome)<|.ret { val:=.undef,lJ:=[(s,.mp u (yK es (.agg kc) v ((oq T kt kc es).getD none)))] }
  | _=>.fail
 | _,_,_,_=>.fail
def Gs (t:TypeId) (x:AV) (lo hi mx:Option AV):DT :=
 match und T t with
 | some .string =>
  match x,mx with
  | .p (.str s),none =>
   match bound 0 lo,bound s.size hi with
   | some l,some u=>chk (decide (0≤l)&&(decide (l≤u)&&decide (u≤(s.size:Int))))<|.ret { val:=.p (.str (s.extract l.toNat u.toNat)) }
   | _,_=>.fail
  | _,_=>.fail
 | some (.slice e) =>
  match mP T e with
  | none=>.fail
  | some n =>
  match x with
  | .slice s z off len =>
   match bound 0 lo,bound len hi,bound len mx with
   | some l,some u,some m =>
    chk (z==n)<|chk (decide (0≤l)&&(decide (l≤u)&&(decide (u≤m)&&decide (m≤(len:Int)))))<|.ret { val:=.slice s z (off+l.toNat) (u-l).toNat }
   | _,_,_=>.fail
  | .bslice s off len =>
   match bound 0 lo,bound len hi,bound len mx with
   | some l,some u,some m =>
    chk (n==1)<|chk (decide (0≤l)&&(decide (l≤u)&&(decide (u≤m)&&decide (m≤(len:Int)))))<|.ret { val:=.bslice s (off+l.toNat) (u-l).toNat }
   | _,_,_=>.fail
  | .p (.list a ks xs) =>
   match bound 0 lo,bound xs.length hi,bound xs.length mx with
   | some l,some u,some m =>
    chk (ks.length==n)<|chk (decide (0≤l)&&(decide (l≤u)&&(decide (u≤m)&&decide (m≤(xs.length:Int))))) <|
     match mx with
     | none=>.ret { val:=.p (.list a ks ((xs.drop l.toNat).take (u-l).toNat)) }
     | some _=>.ite (decide (u=m)) (.ret { val:=.p (.full a ks ((xs.drop l.toNat).take (u-l).toNat)) })
      (.ret { val:=.p (.list a ks ((xs.drop l.toNat).take (u-l).toNat)) })
   | _,_,_=>.fail
  | .p .nil =>
   match bound 0 lo,bound 0 hi,bound 0 mx with
   | some l,some u,some m=>chk (decide (l=0)&&(decide (u=0)&&decide (m=0)))<|.ret { val:=.p .nil }
   | _,_,_=>.fail
  | _=>.fail
 | _=>.fail
def yV (h:Nat→Option aI) (n:Nat) (e:TypeId) (x:AV) (lo hi mx:Option AV):DT :=
 match x,mx,mP T e with
 | .ptr s 0 off,none,some 1 =>
  match h s with
  | some (.box cs) =>
   match bound 0 lo,bound n hi with
   | some l,some u =>
    chk (Nat.ble (off+n) cs.length)<|chk (decide (0≤l)&&(decide (l≤u)&&decide (u≤(n:Int))))<|.ret { val:=.bslice s (off+l.toNat) (u-l).toNat }
   | _,_=>.fail
  | _=>.fail
 | _,_,_=>.fail
def EP (x:AV):DT :=
 match x with
 | .ptr s i o=>.ret { val:=.ptr s i o }
 | .mO a ks y o=>.ret { val:=.mO a ks y o }
 | .p (.ref cs)=>.ret { val:=.p (.ref cs) }
 | .p (.fn f cs)=>.ret { val:=.p (.fn f cs) }
 | .fn f cs=>.ret { val:=.fn f cs }
 | _=>.fail
def AO (x:AV) (i:Nat):DT :=
 match x with
 | .mG vs=>match vs[i]? with
  | some v=>.ret { val:=v }
  | none=>.fail
 | _=>.fail
def ac0:AV→Bool
 | .slice _ _ _ _=>true
 | .p (.list _ _ _)=>true
 | _=>false
def bytesOf (xs:List PV):ByteArray:=⟨(xs.map fun x=>UInt8.ofNat x.toInt.toNat).toArray⟩
def AP (h:Nat→Option aI) (d:Option Nat) (src dst:TypeId) (x:AV):DT :=
 match x with
 | .p (.int _ n)=>match und T src,und T dst with
  | some _,some (.int j)=>.ret { val:=.p (.int j (j.wrap n)) }
  | _,_=>.fail
 | .p (.str s)=>match und T src,und T dst with
  | some _,some .string=>.ret { val:=.p (.str s) }
  | some .string,some (.slice e) =>
   match und T e,d with
   | some (.int .u8),some d=>.ret { val:=.slice d 1 0 s.size,lJ:=[(d,.arr false [.int .u8] (s.data.toList.map fun b=>.int .u8 b.toNat))],new:=[d] }
   | _,_=>.fail
  | _,_=>.fail
 | x=>match und T src,und T dst with
  | some (.slice e),some .string=>match und T e,NQ h x with
   | some (.int .u8),some (s2,_,ys)=>chk (yS s2 false [.int .u8]&&ac0 x)<|.ret { val:=.p (.str (bytesOf ys)) }
   | _,_=>.fail
  | some (.slice e),some (.slice e')=>match und T e,und T e',x with
   | some _,some (.int .u8),.slice s z off len=>match h s with
    | some (.arr a ks xs)=>chk (src==dst&&(Nat.blt 0 len&&Nat.blt s 100000))<|.ret { val:=.slice s z off len,lJ:=[(s,.arr a ks xs)] }
    | _=>.fail
   | _,_,_=>.fail
  | _,_=>.fail
def yX (fn:Fn) (first:List AV) (caps:List AV):DT :=
 match fn,first with
 | .func f,[]=>match zF caps with
  | some vs=>.ret { val:=.p (.fn f vs) }
  | none=>chk (AV.BJ caps)<|.ret { val:=.fn f caps }
 | _,_=>.fail
def BL (h:Nat→Option aI) (t:TypeId) (x:AV):DT :=
 match und T t,x with
 | some (.map _ _),.mref s=>match h s with
  | some (.mp _ es)=>.ret { val:=.p (.int .i64 es.length) }
  | _=>.fail
 | some .string,.p (.str s)=>.ret { val:=.p (.int .i64 s.size) }
 | some (.slice _),.slice _ _ _ len=>.ret { val:=.p (.int .i64 len) }
 | some (.slice _),.bslice _ _ len=>.ret { val:=.p (.int .i64 len) }
 | some (.slice _),.p (.list _ _ xs)=>.ret { val:=.p (.int .i64 xs.length) }
 | some (.slice _),.p (.full _ _ xs)=>.ret { val:=.p (.int .i64 xs.length) }
 | some (.slice _),.p .nil=>.ret { val:=.p (.int .i64 0) }
 | some (.array n _),_=>.ret { val:=.p (.int .i64 n) }
 | _,_=>.fail
def PD (t:TypeId) (x:AV):DT :=
 match und T t,x with
 | some (.slice _),.p .nil=>.ret { val:=.p (.int .i64 0) }
 | _,_=>.fail
def Q5 (f:Int→Int→Int) (j:IntKind):Int→List AV→Option Int
 | x,[]=>some x
 | x,.p (.int i y)::r=>bif i==j then Q5 f j (f x y) r else none
 | _,_=>none
def yY (f:Int→Int→Int) (xs:List AV):DT :=
 match xs with
 | .p (.int j x)::r=>match Q5 f j x r with
  | some y=>.ret { val:=.p (.int j y) }
  | none=>.fail
 | _=>.fail
def abE (x y:Int):Int:=if y<x then y else x
def abG (x y:Int):Int:=if x<y then y else x
def I9 (h:Nat→Option aI) (d:Nat) (sh:Bool × List Kd) (x:AV) (s2:Option (Bool × List Kd)) (m:Nat) (ys:List PV):DT :=
 chk (yS s2 sh.1 sh.2) <|
 match x with
 | .slice s _ off len =>
  match h s with
  | some (.arr a ks xs) =>
   chk (a==sh.1&&(Kd.wL ks sh.2&&Nat.blt s 100000)) <|
   chk (decide (len+m≤2147483648)) <|
    .ret { val:=.slice s sh.2.length 0 (len+m),lJ:=[(s,.arr sh.1 sh.2 ((xs.drop off).take len++ys))],cut:=[s] }
  | _=>.fail
 | .p .nil=>chk (decide (m≤2147483648))<|.ret { val:=.slice d sh.2.length 0 m,lJ:=[(d,.arr sh.1 sh.2 ys)],new:=[d] }
 | .p (.full a ks xs) =>
  chk (a==sh.1&&Kd.wL ks sh.2)<|chk (decide (0<m∨xs.length=0)&&decide (xs.length+m≤2147483648)) <|
   .ret { val:=.slice d sh.2.length 0 (xs.length+m),lJ:=[(d,.arr sh.1 sh.2 (xs++ys))],new:=[d] }
 | _=>.fail
def DJ (h:Nat→Option aI) (d:Option Nat) (t t2:TypeId) (x y:AV):DT :=
 match d,und T t with
 | some d,some (.slice e) =>
  match Hz T e,mP T e,EL T e with
  | some z,some n,some tK =>
   chk (n==(aB T e).2.length&&(aA (aB T e).1 (aB T e).2 z&&Nat.ble tK 16384)) <|
   match und T t2 with
   | some (.int _)=>match y with
    | .p (.int _ m)=>chk (decide (0≤m)&&decide (m≤2147483648))<|I9 h d (aB T e) x none m.toNat (List.replicate m.toNat z)
    | _=>.fail
   | some _=>match NQ h y with
    | some (s2,m,ys)=>I9 h d (aB T e) x s2 m ys
    | none=>.fail
   | none=>.fail
  | _,_,_=>.fail
 | _,_=>.fail
def JY (h:Nat→Option aI) (t:TypeId) (x y:AV):DT :=
 match und T t with
 | some (.slice e) =>
  match x,mP T e with
  | .slice s _ off len,some n=>match h s,NQ h y with
   | some (.arr a ks xs),some (s2,m,ys) =>
    chk (yS s2 a ks&&n==ks.length) <|
     .ret { val:=.p (.int .i64 (Nat.min m len:Nat)),lJ:=[(s,.arr a ks (patch xs off (ys.take (Nat.min m len))))] }
   | _,_=>.fail
  | _,_=>.fail
 | _=>.fail
def Gt (h:Nat→Option aI) (t:TypeId) (x:AV):DT :=
 match und T t,x with
 | some (.slice e),.slice s _ off len=>match h s,Hz T e with
  | some (.arr a ks xs),some z =>
   chk (aA a ks z)<|.ret { val:=.mG [],lJ:=[(s,.arr a ks (patch xs off (List.replicate len z)))] }
  | _,_=>.fail
 | _,_=>.fail
def ah:Nat:=100000
def addN (ss:List Nat) (s:Nat):List Nat:=bif dZ s ss then ss else ss++[s]
mutual
def AV.sites (acc:List Nat):AV→List Nat
 | .slice s _ _ _=>addN acc s
 | .bslice s _ _=>addN acc s
 | .ptr s _ _=>addN acc s
 | .mref s=>addN acc s
 | .fn _ cs=>AV.rW acc cs
 | .agg cs=>AV.rW acc cs
 | .mG cs=>AV.rW acc cs
 | _=>acc
def AV.rW (acc:List Nat):List AV→List Nat
 | []=>acc
 | v::r=>AV.rW (AV.sites acc v) r
end
def idxOf (s:Nat):List Nat→Nat→Option Nat
 | [],_=>none
 | x::r,i=>bif x==s then some i else idxOf s r (i+1)
def toArg (ss:List Nat):AV→Option AV
 | .p v=>some (.p v)
 | .slice s z off len=>(idxOf s ss 0).map fun i=>.slice (ah+i) z off len
 | .ptr s idx off=>(idxOf s ss 0).map fun i=>.ptr (ah+i) idx off
 | _=>none
def Gu (ss:List Nat):List AV→Option (List AV)
 | []=>some []
 | v::r=>match toArg ss v,Gu ss r with
  | some x,some xs=>some (x::xs)
  | _,_=>none
def dn:aI→Bool
 | .box cs=>(zF cs).isSome
 | .arr _ _ _=>true
 | _=>false
def BM (h:Nat→Option aI):List Nat→Option (List aI)
 | []=>some []
 | s::r=>match h s,BM h r with
  | some b,some bs=>bif dn b then some (b::bs) else none
  | _,_=>none
def AV.ak:AV→List PV
 | .fresh _ _ xs=>xs
 | _=>[]
def AV.pv:AV→PV
 | .p v=>v
 | _=>.nil
def AV.Q7:AV→PV
 | .agg cs=>.agg (cs.map AV.pv)
 | .p v=>v
 | _=>.nil
def AV.Ja:AV→List PV
 | .agg cs=>(cs.getD (cs.length-1) .undef).ak
 | _=>[]
def qL {β:Type}:List β→Option (List β × β)
 | []=>none
 | [x]=>some ([],x)
 | x::y::r=>match qL (y::r) with
  | some (l,z)=>some (x::l,z)
  | none=>none
def AV.Es:AV→Nat
 | .slice _ _ o _=>o
 | _=>0
def AV.sLen:AV→Nat
 | .slice _ _ _ l=>l
 | _=>0
def aI.xs:aI→List PV
 | .arr _ _ xs=>xs
 | _=>[]
def aI.cs:aI→List AV
 | .box cs=>cs
 | _=>[]
def aI.ls:aI→List PV
 | .log _ xs=>xs
 | _=>[]
def wW (d:Nat) (i:Nat) (ss:List Nat) (m:dX) (t:TypeId) (r:AV):Option (AV × List (Nat × aI)) :=
 match m with
 | .deep=>match aB T t with
  | (true,ks)=>some (.p (.agg (eF ks r.pv 0)),[])
  | (false,[k])=>some (.p (eta k r.pv),[])
  | _=>none
 | .fresh=>match und T t with
  | some (.slice e)=>some (.slice (d+1000*i) (aB T e).2.length 0 r.ak.length,[(d+1000*i,.arr (aB T e).1 (aB T e).2 r.ak)])
  | _=>none
 | .alias j=>match ss[j]?,und T t with
  | some s,some (.slice e)=>some (.slice s (aB T e).2.length r.Es r.sLen,[])
  | _,_=>none
 | .func g qs=>some (.p (.fn g (lI qs r.pv 0)),[])
 | .IW=>some (.p .jL,[])
 | .vk _ _=>none
 | .yc=>some (.p r.pv,[])
 | .DI=>match aB T t with
  | (true,ks)=>match qL ks with
   | some (ks,.slice a ls)=>some (.agg ((eF ks r.Q7 0).map .p++[.slice (d+1000*i) ls.length 0 r.Ja.length]),[(d+1000*i,.arr a ls r.Ja)])
   | _=>none
  | _=>none
def pY (d:Nat) (ss:List Nat):Nat→List dX→List TypeId→List AV→Option (List AV × List (Nat × aI))
 | _,_,[],_=>some ([],[])
 | i,ms,t::ts,rs =>
  match wW T d i ss (ms.headD .deep) t (rs.headD .undef),pY d ss (i+1) ms.tail ts rs.tail with
  | some (v,b),some (vs,bs)=>some (v::vs,b++bs)
  | _,_=>none
def mg:List AV→AV
 | [v]=>v
 | vs=>.mG vs
def oD (b0 b1:aI):aI :=
 match b0 with
 | .arr a ks _=>.arr a ks b1.xs
 | .box cs=>.box (oP cs b1.cs 0)
 | _=>b1
where
 oP:List AV→List AV→Nat→List AV
  | [],_,_=>[]
  | .p (.int k _)::r,cs,i=>.p (.int k (cs.getD i .undef).pv.toInt)::oP r cs (i+1)
  | .p (.bool _)::r,cs,i=>.p (.bool (cs.getD i .undef).pv.toBool)::oP r cs (i+1)
  | .p (.str _)::r,cs,i=>.p (.str (cs.getD i .undef).pv.toStr)::oP r cs (i+1)
  | .p (.list a ks _)::r,cs,i=>.p (.list a ks (cs.getD i .undef).pv.toList)::oP r cs (i+1)
  | _::r,cs,i=>cs.getD i .undef::oP r cs (i+1)
def fV:List Nat→List aI→List aI→List (Nat × aI)
 | s::ss,b0::bs,cs=>(s,oD b0 (cs.headD (.box [])))::fV ss bs cs.tail
 | _,_,_=>[]
def keysOf:List (Nat × aI)→List Nat
 | []=>[]
 | (k,_)::r=>k::keysOf r
def BN (ss:List Nat):List Nat→Bool
 | []=>true
 | x::r=>!(dZ x ss)&&BN ss r
def Kd.flat:Kd→Bool
 | .int _=>true
 | .bool=>true
 | .str=>true
 | _=>false
def yZ (m:dX) (t:TypeId):Bool :=
 match m with
 | .deep=>(aB T t).2.all Kd.flat
 | .fresh=>match und T t with
  | some (.slice e)=>(aB T e).2.all Kd.flat
  | _=>false
 | .alias _=>false
 | .func _ _=>false
 | .yc=>false
 | .DI=>match aB T t with
  | (true,ks)=>match qL ks with
   | some (ks,.slice _ ls)=>ks.all Kd.flat&&ls.all Kd.flat
   | _=>false
  | _=>false
 | _=>true
def lT:List dX→List TypeId→Bool
 | _,[]=>true
 | ms,t::ts=>yZ T (ms.headD .deep) t&&lT ms.tail ts
def Uf:Bool × List Kd→PV→PV
 | (false,[.slice a ks]),.nil=>.list a ks []
 | _,v=>v
def normArgs:List TypeId→List PV→List AV
 | t::ts,v::vs=>.p (Uf (aB T t) v)::normArgs ts vs
 | [],vs=>vs.map .p
 | _::_,[]=>[]
abbrev aF:=Nat→List AV→List aI→Option (List AV × List aI)
def H6:List dX→List AV→Option Bool
 | [],_=>none
 | .vk _ _::_,rs=>some (rs.headD .undef).pv.Ar
 | _::ms,rs=>H6 ms rs.tail
def JZ:List dX→List dX
 | []=>[]
 | .vk _ _::ms=>.IW::ms
 | m::ms=>m::JZ ms
def Ug:List dX→List dX
 | []=>[]
 | .vk g qs::ms=>.func g qs::ms
 | m::ms=>m::Ug ms
def J3 (ms:List dX) (rs:List AV) (k:List dX→DT):DT :=
 match H6 ms rs with
 | none=>k ms
 | some b=>.ite b (k (JZ ms)) (k (Ug ms))
def yL (s:ByteArray):List PV:=s.data.toList.map fun b=>.int .u8 b.toNat
def ER (s:Nat):AV→Bool
 | .p .zS=>true
 | .ptr x 0 0=>x==s
 | _=>false
def PV.isByte:PV→Bool
 | .int .u8 n=>decide (0≤n)&&decide (n<256)
 | _=>false
def ES (h:Nat→Option aI) (d s:Nat) (t e:TypeId) (c1:AV) (m:Nat) (ys:List PV) (val:AV):DT :=
 match c1 with
 | .p .nil=>chk (!(d==s))<|chk (decide (m≤2147483648))<|.ret { val,lJ:=[(d,.br e ys),(s,.tb t (.ptr s 0 0) (.mref d))],new:=[d] }
 | .mref g=>match h g with
  | some (.br f xs)=>chk (f==e&&(Nat.blt g 100000&&!(g==s)))<|chk (decide (xs.length+m≤2147483648)) <|
   .ret { val,lJ:=[(g,.br e (xs++ys)),(s,.tb t (.ptr s 0 0) (.mref g))],cut:=[g] }
  | _=>.fail
 | _=>.fail
def J4 (k:Prim) (ts:List TypeId) (e:TypeId) (h:Nat→Option aI) (d:Option Nat) (args:List AV):DT :=
 match d,k,args with
 | some d,.Zb,[.ptr s 0 0,.p (.str x)]=>match h s with
  | some (.tb t c0 c1)=>chk (dZ t ts&&(ER s c0&&Nat.blt s 100000))<|ES h d s t e c1 x.size (yL x) (.mG [.p (.int .i64 x.size),.p .oO])
  | _=>.fail
 | some d,.Zc,[.ptr s 0 0,.p (.int .u8 n)]=>match h s with
  | some (.tb t c0 c1)=>chk (dZ t ts&&(ER s c0&&Nat.blt s 100000))<|ES h d s t e c1 1 [.int .u8 n] (.p .oO)
  | _=>.fail
 | some _,.str,[.ptr s 0 0]=>match h s with
  | some (.tb t c0 c1)=>chk (dZ t ts&&(ER s c0&&Nat.blt s 100000)) <|
   match c1 with
   | .p .nil=>.ret { val:=.p (.str ByteArray.empty) }
   | .mref g=>match h g with
    | some (.br f xs)=>chk (f==e&&(Nat.blt g 100000&&!(g==s)))<|chk (decide (xs.length≤2147483648))<|chk (xs.all PV.isByte)<|.ret { val:=.p (.str (bytesOf xs)) }
    | _=>.fail
   | _=>.fail
  | _=>.fail
 | _,_,_=>.fail
def nI (C:aF) (h:Nat→Option aI) (d:Option Nat) (f:Nat) (args:List AV):DT :=
 match d,bG T.funcs f with
 | some d,some fi =>
  match fi.cfg.zD with
  | false =>
   match C9 h args with
   | some (vs,ss) =>
    .call (C f (cond fi.cfg.yR (vs.map .p) (normArgs T fi.fn.params.toList vs)) []) fun r =>
     J3 fi.cfg.rets r.1 fun ms =>
     match pY T d [] 0 ms fi.fn.resultTypes.toList r.1 with
     | some (xs,bs)=>.ret { val:=mg xs,lJ:=bs,new:=keysOf bs,wP:=cond fi.cfg.shares ss [] }
     | none=>.fail
   | none=>.fail
  | true =>
   let ss:=AV.rW [] args
   match Gu ss args,BM h ss with
   | some as_,some bl =>
    .call (C f as_ bl) fun r =>
     match pY T d ss 0 fi.cfg.rets fi.fn.resultTypes.toList r.1 with
     | some (xs,bs)=>chk (BN ss (keysOf bs))<|.ret { val:=mg xs,lJ:=fV ss bl r.2++bs,new:=keysOf bs }
     | none=>.fail
   | _,_=>.fail
 | _,_=>.fail
def bZ (keep:Bool):Nat:=cond keep 100001 99999
def je (keep:Bool):List aI→Heap
 | [b0,b1]=>[(ah,b0),(bZ keep,b1)]
 | _=>[]
def zx (bl:List aI):List PV:=(bl.getD 1 (.box [])).xs
def sK (bl:List aI):AV:=(bl.headD (.box [])).cs.headD .undef
def J5 (C:aF) (h:Nat→Option aI) (d f:Nat) (fi:FI) (pre:List AV) (s A:Nat) (nw:List Nat) (a:Bool) (ks:List Kd) (off len:Nat) (xs:List PV):DT :=
 match C9 h pre with
 | some (vs,ss) =>
  bif (Nat.blt s 100000&&(Nat.blt A 100000&&!(A==s)))&&(!(dZ s ss)&&!(dZ A ss)) then
  .call (C f (cond fi.cfg.yR (vs.map .p) (normArgs T fi.fn.params.toList vs)++[.ptr ah 0 0]) [.box [.slice (bZ fi.cfg.vkeep) ks.length off len],.arr a ks xs]) fun r =>
   match pY T d [] 0 fi.cfg.rets fi.fn.resultTypes.toList r.1 with
   | some (rv,[])=>.ret { val:=mg rv,lJ:=[(A,.arr a ks (zx r.2)),(s,.box [.slice A ks.length (sK r.2).Es (sK r.2).sLen])],new:=nw,cut:=cond fi.cfg.vkeep [] [A],wP:=ss }
   | _=>.fail
  else .fail
 | none=>.fail
def Jb (C:aF) (h:Nat→Option aI) (d:Option Nat) (f:Nat) (args:List AV):DT :=
 match d,bG T.funcs f,qL args with
 | some d,some fi,some (pre,.ptr s 0 0)=>match h s with
  | some (.box [.slice A _ off len])=>match h A with
   | some (.arr a ks xs)=>J5 T C h d f fi pre s A [] a ks off len xs
   | _=>.fail
  | some (.box [.p .nil])=>bif fi.cfg.vkeep then .fail else J5 T C h d f fi pre s d [d] (aB T fi.cfg.Zd).1 (aB T fi.cfg.Zd).2 0 0 []
  | _=>.fail
 | _,_,_=>.fail
def vG (C:aF) (h:Nat→Option aI) (d:Option Nat) (f:Nat) (args:List AV):DT :=
 bif (iZ T f).zT.is then J4 (iZ T f).zT (iZ T f).Gi (iZ T f).JR h d args else
 bif (iZ T f).vcall then Jb T C h d f args else nI T C h d f args
def iV (env:List AV):Option Operand→Option AV
 | none=>none
 | some x=>some (aU env x)
def iw (env:List AV):List (Nat × Operand)→List (Nat × AV)
 | []=>[]
 | (i,x)::r=>(i,aU env x)::iw env r
def cO (C:aF) (env:List AV) (h:Nat→Option aI) (o:Oper):DT :=
 match o.op with
 | .move x=>.ret { val:=aU env x }
 | .assign x =>
  match o.dst,x,und T o.type with
  | some d,.const (.slice none 0 0),some (.slice e)=>.ret { val:=.slice d (aB T e).2.length 0 0,lJ:=[(d,.arr (aB T e).1 (aB T e).2 [])],new:=[d] }
  | _,x,_=>.ret { val:=aU env x }
 | .pick c a b=>JX (aU env c) (aU env a) (aU env b)
 | .alloc t=>Gl T o.dst t
 | .box _ v=>Px o.dst (aU env v)
 | .build t parts=>Gm T t (iw env parts.toList)
 | .buildSlice t len parts=>vF T h o.dst t len (iw env parts.toList)
 | .load t a=>AB T h t (aU env a)
 | .store t a v=>Gn T h t (aU env a) (aU env v)
 | .binOp op t x y _=>EO T op t (isLit y) (aU env x) (aU env y)
 | .unOp op _ x=>JW op (aU env x)
 | .convert s t x=>AP T h o.dst s t (aU env x)
 | .makeFunc fn first caps=>yX fn (jw env first.toList) (jw env caps.toList)
 | .makeSlice t l c=>wU T o.dst t (aU env l) (aU env c)
 | .makeMap t r=>AL T o.dst t (iV env r)
 | .mapUpdate t m k v=>wV T h t (aU env m) (aU env k) (aU env v)
 | .slice t x lo hi mx=>match und T t with
  | some (.array n e)=>yV T h n e (aU env x) (iV env lo) (iV env hi) (iV env mx)
  | _=>match mx,hi with
   | some _,none=>.fail
   | _,_=>Gs T t (aU env x) (iV env lo) (iV env hi) (iV env mx)
 | .fieldAddr t x f=>wR T t (aU env x) f
 | .field t x f=>Gp T t (aU env x) f
 | .indexAddr t x i=>wS T t (aU env x) (aU env i)
 | .index t x i=>Gq T t (aU env x) (aU env i)
 | .extract x i=>AO (aU env x) i
 | .nilCheck x=>EP (aU env x)
 | .call c =>
  match c.callee with
  | .builtin .len=>match c.args.toList,c.argTypes.toList with
   | [x],t::_=>BL T h t (aU env x)
   | _,_=>.fail
  | .builtin .cap=>match c.args.toList,c.argTypes.toList with
   | [x],t::_=>PD T t (aU env x)
   | _,_=>.fail
  | .builtin .min=>yY abE (jw env c.args.toList)
  | .builtin .max=>yY abG (jw env c.args.toList)
  | .builtin .append=>match c.args.toList,c.argTypes.toList with
   | [x,y],[t,t2]=>DJ T h o.dst t t2 (aU env x) (aU env y)
   | _,_=>.fail
  | .builtin .copy=>match c.args.toList,c.argTypes.toList with
   | [x,y],t::_=>JY T h t (aU env x) (aU env y)
   | _,_=>.fail
  | .builtin .clear=>match c.args.toList,c.argTypes.toList with
   | [x],t::_=>Gt T h t (aU env x)
   | _,_=>.fail
  | .value f=>match aU env f with
   | .p (.fn f caps)=>vG T C h o.dst f (jw env c.args.toList++caps.map .p)
   | .fn f caps=>vG T C h o.dst f (jw env c.args.toList++caps)
   | _=>.fail
  | _=>.fail
 | _=>.fail
section
variable {α:Type}
def nU (m:Nat) (k:Nat→Option α):Option α :=
 match m with
 | 0=>k 0
 | m+1=>k (m+1)
def J6 (n:Int) (k:Int→Option α):Option α :=
 match n with
 | .ofNat m=>nU m fun m=>k (.ofNat m)
 | .negSucc m=>nU m fun m=>k (.negSucc m)
mutual
def jf (b:Bool):PV→(PV→Option α)→Option α
 | .bool c,k=>bif b then cond c (k (.bool true)) (k (.bool false)) else k (.bool c)
 | .int j n,k=>bif b then J6 n fun n=>k (.int j n) else k (.int j n)
 | .str s,k=>k (.str s)
 | .agg cs,k=>kP b cs fun cs=>k (.agg cs)
 | .list a ks xs,k=>bif b then kP b xs fun xs=>k (.list a ks xs) else k (.list a ks xs)
 | .full a ks xs,k=>bif b then kP b xs fun xs=>k (.full a ks xs) else k (.full a ks xs)
 | .nil,k=>k .nil
 | .fn f cs,k=>bif b then kP b cs fun cs=>k (.fn f cs) else k (.fn f cs)
 | .ref cs,k=>kP b cs fun cs=>k (.ref cs)
 | .zS,k=>k .zS
 | .jL,k=>k .jL
 | .Xf,k=>k .Xf
 | .oO,k=>k .oO
 | .zX ks vs,k=>k (.zX ks vs)
 | .Po,k=>k .Po
def kP (b:Bool):List PV→(List PV→Option α)→Option α
 | [],k=>k []
 | v::r,k=>jf b v fun v=>kP b r fun r=>k (v::r)
end
mutual
def jM (b:Bool):AV→(AV→Option α)→Option α
 | .undef,k=>k .undef
 | .p v,k=>bif b then jf b v fun v=>k (.p v) else k (.p v)
 | .slice s z o l,k=>bif b then nU o fun o=>nU l fun l=>k (.slice s z o l) else k (.slice s z o l)
 | .bslice s o l,k=>bif b then nU o fun o=>nU l fun l=>k (.bslice s o l) else k (.bslice s o l)
 | .ptr s i o,k=>bif b then nU i fun i=>nU o fun o=>k (.ptr s i o) else k (.ptr s i o)
 | .mO a ks x o,k=>bif b then jf b x fun x=>nU o fun o=>k (.mO a ks x o) else k (.mO a ks x o)
 | .fn f cs,k=>lU b cs fun cs=>k (.fn f cs)
 | .agg cs,k=>lU b cs fun cs=>k (.agg cs)
 | .mG cs,k=>lU b cs fun cs=>k (.mG cs)
 | .fresh a ks xs,k=>bif b then kP b xs fun xs=>k (.fresh a ks xs) else k (.fresh a ks xs)
 | .sJ,k=>k .sJ
 | .mref s,k=>k (.mref s)
def lU (b:Bool):List AV→(List AV→Option α)→Option α
 | [],k=>k []
 | v::r,k=>jM b v fun v=>lU b r fun r=>k (v::r)
end
def spine:List AV→(List AV→Option α)→Option α
 | [],k=>k []
 | v::r,k=>spine r fun r=>k (v::r)
def qc (b:Bool):aI→(aI→Option α)→Option α
 | .box cs,k=>lU b cs fun cs=>k (.box cs)
 | .arr a ks xs,k=>bif b then kP b xs fun xs=>k (.arr a ks xs) else k (.arr a ks xs)
 | .log on xs,k=>bif b then kP b xs fun xs=>k (.log on xs) else k (.log on xs)
 | .tb t c0 c1,k=>jM b c0 fun c0=>jM b c1 fun c1=>k (.tb t c0 c1)
 | .mp t es,k=>k (.mp t es)
 | .br e xs,k=>bif b then kP b xs fun xs=>k (.br e xs) else k (.br e xs)
def qM (b:Bool):List aI→(List aI→Option α)→Option α
 | [],k=>k []
 | x::r,k=>qc b x fun x=>qM b r fun r=>k (x::r)
def ET (b:Bool):List (Nat × aI)→(List (Nat × aI)→Option α)→Option α
 | [],k=>k []
 | (s,x)::r,k=>qc b x fun x=>ET b r fun r=>k ((s,x)::r)
def PE:Heap→(Heap→Option α)→Option α
 | [],k=>k []
 | (s,x)::r,k=>PE r fun r=>k ((s,x)::r)
def fC (st:St) (k:St→Option α):Option α :=
 spine st.env fun env=>PE st.heap fun heap=>k { env,heap }
def EU (b:Bool) (st:St) (d:Option Nat) (e:Eff) (k:St→Option α):Option α :=
 jM b e.val fun v=>ET b e.lJ fun c=>fC (st.apply d { e with val:=v,lJ:=c }) k
end
inductive Cls where
 | const | plain | pure | read | own (t:Nat) | store | heavy
def rX:Operand→Bool
 | .const _=>true
 | .func _=>true
 | _=>false
def ac1 (t:Nat):List Oper→Option Op
 | []=>none
 | o::r=>match o.dst with
  | some d=>bif d==t then some o.op else ac1 t r
  | none=>ac1 t r
def rootOf (all:List Oper):Nat→Nat→Option Nat
 | 0,_=>none
 | n+1,t=>match ac1 t all with
  | none=>some t
  | some (.alloc _)=>some t
  | some (.fieldAddr _ (.tmp u) _)=>rootOf all n u
  | _=>none
def J7 (t:Nat):List Oper→Bool
 | []=>false
 | o::r=>(match o.op,o.dst with
  | .slice _ _ _ _ (some _),some d=>bif d==t then true else J7 t r
  | _,_=>J7 t r)
def EW (xs:List Operand) (all:List Oper):Bool :=
 match xs with
 | .tmp t::_=>J7 t all
 | .const (.slice none 0 0)::_=>true
 | _=>false
def Gw (t:TypeId):Bool:=match und T t with
 | some (.map _ _)=>true
 | _=>false
def Zg:Option Nat→Option Nat
 | some d=>bG T.owns d
 | none=>none
def Zh (t:Nat):Operand→Nat
 | .tmp v=>1000000+(1000*t+v)
 | _=>0
def yj (all:List Oper) (t:Nat) (v:Operand):Option Nat:=match bG T.owns (Zh t v) with
 | some s=>some s
 | none=>rootOf all 4 t
def VG:Operand→Option Nat→Cls
 | .tmp u,some d=>bif dZ (1000*d+u) T.calcs then .plain else .pure
 | _,_=>.pure
def aS (all:List Oper) (o:Oper):Cls :=
 match o.op with
 | .assign (.const (.slice none 0 0))=>.read
 | .assign x=>bif rX x then .const else .pure
 | .move x=>bif rX x then .const else VG T x o.dst
 | .binOp ..=>.plain
 | .unOp ..=>.plain
 | .pick .. | .build .. | .makeFunc .. | .fieldAddr .. | .field .. | .indexAddr .. | .index .. | .extract .. | .nilCheck ..=>.pure
 | .slice t ..=>match und T t with
  | some (.array _ _)=>.read
  | _=>.pure
 | .alloc .. | .box .. | .buildSlice .. | .load .. | .makeSlice .. | .convert .. | .makeMap ..=>.read
 | .mapUpdate ..=>.store
 | .store _ (.tmp t) v=>match yj T all t v with
  | some s=>.own s
  | none=>.store
 | .call c=>match c.callee with
  | .builtin .len=>bif c.argTypes.toList.any (Gw T) then .read else .pure
  | .builtin .min | .builtin .max | .builtin .cap=>.pure
  | .builtin .append=>bif EW c.args.toList all then .read else .heavy
  | .builtin .copy=>.store
  | .value (.tmp _)=>match Zg T o.dst with
   | some s=>.own s
   | none=>.read
  | .value (.func f)=>bif (iZ T f).zD||(((iZ T f).shares&&!(iZ T f).quiet)||(iZ T f).zT.writes) then .heavy else .read
  | .value _=>.read
  | _=>.heavy
 | _=>.heavy
def fG (all:List Oper) (o:Oper):List Nat :=
 match o.dst with
 | some d=>match o.op with
  | .assign (.const (.slice none 0 0))=>[d]
  | .alloc .. | .box .. | .buildSlice .. | .makeSlice .. | .convert .. | .makeMap ..=>[d]
  | .call c=>match c.callee with
   | .value _=>[d,d+1000,d+2000,d+3000]
   | .builtin .append=>bif EW c.args.toList all then [d] else []
   | _=>[]
  | _=>[]
 | none=>[]
def Zi (all:List Oper) (o:Oper):List Nat :=
 match o.op with
 | .store _ (.tmp t) v=>match yj T all t v with
  | some s=>[s]
  | none=>[]
 | .call c=>match c.callee,Zg T o.dst with
  | .value (.tmp _),some s=>[s]
  | _,_=>[]
 | _=>[]
def yt (all:List Oper):List Oper→List Nat
 | []=>[]
 | o::r=>fG all o++yt all r
def PG (ss:List Nat):List Nat→Bool
 | []=>true
 | x::r=>!(dZ x ss)&&PG ss r
def J8 (ss:List Nat):List (Nat × aI)→Bool
 | []=>true
 | (k,_)::r=>dZ k ss&&J8 ss r
def aaT (ss:List Nat):List Nat→Bool
 | []=>true
 | x::r=>dZ x ss&&aaT ss r
def tmpsOf:List Operand→List Nat
 | []=>[]
 | .tmp t::r=>t::tmpsOf r
 | _::r=>tmpsOf r
def qg (ops:List Oper) (o:Oper):List Nat :=
 tmpsOf o.op.operands.toList++(match o.guard with
  | some (g,_)=>match (ops[g]?).bind (·.dst) with
   | some d=>[d]
   | none=>[]
  | none=>[])
def Uh (ops:List Oper) (x y:Oper):Bool :=
 (match x.dst with
  | some d=>!(dZ d (qg ops y))&&!(y.dst==some d)
  | none=>true) &&
 (match y.dst with
  | some d=>!(dZ d (qg ops x))
  | none=>true)
def uz (all:List Oper) (hx ho:List Nat) (x o:Oper):Bool :=
 Uh all x o&&(PG (fG all x) (fG all o)&&(match aS T all x,aS T all o with
  | .const,_=>true
  | _,.const=>true
  | .plain,_=>true
  | _,.plain=>true
  | .pure,.heavy=>false
  | .heavy,.pure=>false
  | .pure,_=>true
  | _,.pure=>true
  | .read,.read=>true
  | .read,.own t=>dZ t hx&&!(dZ t (fG all x))
  | .own t,.read=>dZ t ho&&!(dZ t (fG all o))
  | _,_=>false))
def wX:List Nat→List Nat→List Nat
 | acc,[]=>acc
 | acc,x::r=>wX (bif dZ x acc then acc else x::acc) r
def BO (done:List (List Nat)) (o:Oper):List Nat :=
 (o.after.toList).foldl (fun acc e=>match e.ground with
   | .textOnly _=>acc
   | .gcOnly _=>acc
   | _=>wX (wX acc [e.on]) (done.getD e.on [])) []
def dY:List Oper→List (List Nat)→List (List Nat)
 | [],acc=>acc
 | o::r,acc=>dY r (acc++[BO acc o])
def J9 (all:List Oper) (hd:List (List Nat)) (Q8:List Nat) (j:Nat) (o:Oper):Nat→List Oper→Bool
 | _,[]=>true
 | i,x::r=>bif Nat.ble j i then true else
  (bif dZ i Q8 then true else uz T all (hd.getD i []) (hd.getD j []) x o)&&J9 all hd Q8 j o (i+1) r
def BP (j:Nat) (o:Oper):Bool :=
 o.after.toList.all fun e=>match e.ground with
  | .textOnly _=>true
  | .gcOnly _=>true
  | _=>Nat.blt e.on j
def DK (all:List Oper) (tab hd:List (List Nat)):Nat→List Oper→Bool
 | _,[]=>true
 | j,o::r=>BP j o&&J9 T all hd (tab.getD j []) j o 0 all&&DK all tab hd (j+1) r
def uD (all:List Oper) (tab:List (List Nat)) (j:Nat):Nat→List Oper→List Nat
 | _,[]=>[]
 | i,o::r =>
  bif i==j||dZ i (tab.getD j [])||dZ j (tab.getD i []) then uD all tab j (i+1) r else fG all o++(Zi T all o++uD all tab j (i+1) r)
section
variable {α:Type}
def jk (U:List Nat) (h:Nat→Option aI):Nat→Option aI :=
 match U with
 | []=>h
 | U=>fun s=>bif dZ s U then none else h s
def oQ (all:List Oper) (g:Nat):Option Nat:=(all[g]?).bind (·.dst)
def fU:List Nat→Bool
 | []=>true
 | s::r=>Nat.blt s 100000&&fU r
def mQ (h:Heap):List (Nat × aI)→Bool
 | []=>true
 | (_,.log _ _)::_=>false
 | (s,_)::r=>bif s==ah then(match look h ah with
  | some (.log _ _)=>false
  | _=>mQ h r) else mQ h r
def AV.ML:AV→Bool
 | .p _=>true
 | .mG []=>true
 | _=>false
def dO (draw:Bool) (cls:Cls) (ss:List Nat) (h:Heap) (e:Eff):Bool :=
 match draw,cls with
 | false,_=>mQ h e.lJ
 | true,.heavy=>true
 | true,.store=>e.cut.isEmpty&&(e.wP.isEmpty&&e.new.isEmpty)
 | true,.own t=>e.cut.isEmpty&&(e.wP.isEmpty&&(J8 [t] e.lJ&&e.new.isEmpty))
 | true,.read=>e.cut.isEmpty&&(e.wP.isEmpty&&(J8 ss e.lJ&&(aaT ss e.new&&(present h e.new).isEmpty)))
 | true,.plain=>e.cut.isEmpty&&(e.wP.isEmpty&&(e.lJ.isEmpty&&(e.new.isEmpty&&e.val.ML)))
 | true,_=>e.cut.isEmpty&&(e.wP.isEmpty&&(e.lJ.isEmpty&&e.new.isEmpty))
def yieldOf (st:St) (o:Oper):Option (List PV × List PV) :=
 match o.op with
 | .call c=>match c.callee with
  | .value (.tmp t)=>match st.env.getD t .undef with
   | .sJ=>match look st.heap ah,C9 (look st.heap) (jw st.env c.args.toList) with
    | some (.log true xs),some (vs,_)=>some (xs,vs)
    | _,_=>none
   | _=>none
  | _=>none
 | _=>none
def nJ (draw:Bool) (st:St) (o:Oper):Option (List PV × List PV):=match draw with | true=>none | false=>yieldOf st o
def gY (s:Nat):Heap→List Nat
 | []=>[]
 | (k,_)::h=>bif k==s then gY s h else k::gY s h
def VH (h:Nat→Option aI):AV→Option PV
 | .ptr s 0 0=>match h s with
  | some (.box cs)=>match zF cs with
   | some vs=>some (.ref vs)
   | none=>none
  | _=>none
 | _=>none
def PI (h:Nat→Option aI) (ss:List Nat) (v:AV):AV:=match VH h v with
 | some x=>.p x
 | none=>AV.kill ss v
def wY (h:Nat→Option aI) (ss:List Nat):List AV→List AV
 | []=>[]
 | v::r=>PI h ss v::wY h ss r
def iY (st:St) (d:Option Nat) (xs vs:List PV) (b:Bool):St :=
 let st1:St:={ env:=wY (jk [ah] (look st.heap)) (gY ah st.heap) st.env,heap:=(st.strike (gY ah st.heap)).heap }
 { env:=setEnv st1.env d (.p (.bool b)),heap:=put st1.heap ah (.log b (xs++[.agg vs])) }
def fork (no yes:Option α):Option α :=
 match no with
 | some _=>yes
 | none=>none
def dW (C:aF) (draw:Bool) (hd:List (List Nat)) (all:List Oper):List Oper→Nat→St→(St→Option α)→Option α
 | [],_,st,k=>k st
 | o::rest,j,st,k =>
  let go (st:St):Option α :=
   match nJ draw st o with
   | some (xs,vs)=>fork (fC (iY st o.dst xs vs false) fun st=>dW C draw hd all rest (j+1) st k) (fC (iY st o.dst xs vs true) fun st=>dW C draw hd all rest (j+1) st k)
   | none=>(cO T C st.env (jk (hd.getD j []) (look st.heap)) o).run fun e =>
    bif fU (e.new++e.wP)&&dO draw (aS T all o) (fG all o) st.heap e then EU T.strict st o.dst e fun st=>dW C draw hd all rest (j+1) st k else none
  let skip (st:St):Option α:=fC { st with env:=setEnv st.env o.dst (.mG []) } fun st=>dW C draw hd all rest (j+1) st k
  match o.guard with
  | none=>go st
  | some (g,want) =>
   match oQ all g with
   | none=>none
   | some t =>
    match st.env.getD t .undef with
    | .p (.bool b) =>
     cond b (bif want then go { st with env:=st.env.set t (.p (.bool true)) } else skip { st with env:=st.env.set t (.p (.bool true)) })
      (bif want then skip { st with env:=st.env.set t (.p (.bool false)) } else go { st with env:=st.env.set t (.p (.bool false)) })
    | .mG []=>skip st
    | _=>none
def jO (nv:Nat) (hs:List Nat):List Oper→St→St
 | [],st=>st
 | o::r,st =>
  match o.op,o.dst with
  | .assign _,some d =>
   match st.env.getD d .undef with
   | .slice s _ _ _=>bif (Nat.ble nv s||(dZ d hs&&!(s==d)))&&(Nat.blt d nv&&Nat.blt s 100000) then jO nv hs r (st.Au s d) else jO nv hs r st
   | _=>jO nv hs r st
  | _,_=>jO nv hs r st
def freezes (ts:List Nat):List Oper→St→St
 | [],st=>st
 | o::r,st =>
  match o.op,o.dst with
  | .assign _,some d =>
   bif dZ d ts then(match deep (look st.heap) (st.env.getD d .undef) with
    | some (v,ss)=>bif fU ss then freezes ts r { (st.strike ss) with env:=(st.strike ss).env.set d (.p v) } else freezes ts r st
    | none=>freezes ts r st) else freezes ts r st
  | _,_=>freezes ts r st
def jy (hs:List Nat):List Oper→St→St
 | [],st=>st
 | o::r,st =>
  match o.op with
  | .store _ _ (.tmp x) =>
   match st.env.getD x .undef with
   | .slice s _ _ _=>bif dZ x hs&&(Nat.blt s 5000&&Nat.blt x 5000) then jy hs r (st.Au s (5000+x)) else jy hs r st
   | _=>jy hs r st
  | _=>jy hs r st
def settle (F:Aw) (ops:List Oper) (st:St):St:=freezes F.frzs ops (match F.fhomes with
 | []=>jO F.nvars F.homes ops st
 | h::hs=>jy (h::hs) ops (jO F.nvars F.homes ops st))
def qh:Code→Option Nat
 | .region id _ _=>some id
 | .seq a b=>match qh a with
  | some i=>some i
  | none=>qh b
 | .block _ c=>qh c
 | .loop c=>qh c
 | .scope c=>qh c
 | .rangeFunc _ _ a b=>match qh a with
  | some i=>some i
  | none=>qh b
 | _=>none
def cutAt:List (Nat × List Nat × List Nat)→Nat→Option (List Nat × List Nat)
 | [],_=>none
 | (i,l,s)::r,j=>bif i==j then some (l,s) else cutAt r j
def aC (F:Aw) (c:Code) (st:St):St :=
 match qh c with
 | none=>st
 | some i=>match cutAt F.cuts i with
  | none=>st
  | some (l,s)=>st.forget l s
def PK:Kd→PV→Bool
 | .slice _ _,.nil=>false
 | k,v=>kindOk k v
def BQ:List Kd→List PV→Bool
 | [],[]=>true
 | k::ks,v::vs=>PK k v&&BQ ks vs
 | _,_=>false
def NR:Bool × List Kd→PV→Bool
 | (true,ks),.ref cs=>BQ ks cs
 | (false,[k]),v=>PK k v
 | _,_=>false
def Gx:List (Bool × List Kd)→List PV→Bool
 | [],[]=>true
 | s::r,v::vs=>NR s v&&Gx r vs
 | _,_=>false
def PV.isFn (g:Nat) (qs:List (Bool × List Kd)):PV→Bool
 | .fn f cs=>f==g&&Gx qs cs
 | _=>false
def AV.isP:AV→Bool
 | .p _=>true
 | _=>false
def AQ:List (Nat × List (Bool × List Kd))→Nat→St→(St→Option α)→Option α
 | [],_,_,_=>none
 | (g,qs)::r,t,st,k=>cond ((st.env.getD t .undef).isP&&PV.isFn g qs (st.env.getD t .undef).pv) (k { st with env:=st.env.set t (.p (.fn g (lI qs (st.env.getD t .undef).pv 0))) }) (AQ r t st k)
def yu:List (Nat × List (Nat × List (Bool × List Kd)))→St→(St→Option α)→Option α
 | [],st,k=>k st
 | (t,cs)::r,st,k=>AQ cs t st fun st=>yu r st k
def y7:List (Nat × List (Nat × List (Nat × List (Bool × List Kd))))→Nat→List (Nat × List (Nat × List (Bool × List Kd)))
 | [],_=>[]
 | (i,l)::r,j=>bif i==j then l else y7 r j
def mD (fg:St→St) (body:St→(Ex→St→Option α)→Option α):Nat→St→(Ex→St→Option α)→Option α
 | 0,_,_=>none
 | m+1,st,k=>body st fun ex st' =>
  match ex with
  | .normal=>fC (fg st') fun st'=>mD fg body m st' k
  | .exit id=>k (.exit id) st'
  | .ret=>k .ret st'
def tN (b:Option aI) (st:St) (k:St→Option α):Option α :=
 match look st.heap ah with
 | some (.log _ _)=>match b with
  | some (.log on xs)=>k { st with heap:=put st.heap ah (.log on xs) }
  | _=>none
 | _=>k st
def iW:Code→Bool
 | .seq a b=>iW a&&iW b
 | .cond _ a b=>iW a&&iW b
 | .block _ c=>iW c
 | .loop c=>iW c
 | .scope c=>iW c
 | .rangeFunc _ _ _ _=>false
 | _=>true
def fO:Code→List Nat
 | .region _ ops _=>ops.toList.filterMap (·.dst)
 | .seq a b=>fO a++fO b
 | .cond _ a b=>fO a++fO b
 | .block _ c=>fO c
 | .loop c=>fO c
 | .scope c=>fO c
 | .rangeFunc _ ps a b=>ps.toList++(fO a++fO b)
 | _=>[]
def opsOf:Code→List Oper
 | .region _ ops _=>ops.toList
 | .seq a b=>opsOf a++opsOf b
 | .cond _ a b=>opsOf a++opsOf b
 | .block _ c=>opsOf c
 | .loop c=>opsOf c
 | .scope c=>opsOf c
 | .rangeFunc _ _ a b=>opsOf a++opsOf b
 | _=>[]
def yOp (ys:List Nat) (o:Oper):Bool :=
 (match o.dst with
 | some t=>bif dZ t ys then(match o.op with
  | .move (.tmp s)=>dZ s ys
  | .assign (.tmp s)=>dZ s ys
  | _=>false) else true
 | none=>true) &&
 (match o.op with
 | .call c=>match c.callee with
  | .value (.tmp t)=>dZ t ys
  | _=>true
 | _=>true)
def aaV (ys:List Nat):List Oper→Bool
 | []=>true
 | o::r=>yOp ys o&&aaV ys r
def PL (n:Nat):List Nat→Bool
 | []=>true
 | t::r=>(Nat.beq t 0||Nat.blt n t)&&PL n r
def jE (fi:FI) (n:Nat):Bool:=match fi.fn.body with | some c=>iW c&&(PL n fi.cfg.ys&&(aaV fi.cfg.ys (opsOf c)&&!fi.cfg.vcall)) | none=>false
def kQ:Code→Bool
 | .skip=>true
 | .region _ _ _=>true
 | .seq a b=>kQ a&&kQ b
 | _=>false
def tZ (ws:List Nat):Nat→List AV→List AV
 | _,[]=>[]
 | i,v::r=>(bif dZ i ws then .undef else v)::tZ ws (i+1) r
def Ui:Bool × List Kd→PV→PV
 | (true,ks),v=>.agg (eF ks v 0)
 | (false,[k]),v=>eta k v
 | _,v=>v
def zH:List (Bool × List Kd)→List Nat→PV→Nat→List AV→Option (List AV)
 | [],[],v,i,env=>bif Nat.beq v.cells.length i then some env else none
 | s::ss,t::ts,v,i,env=>bif aA s.1 s.2 (v.cell i) then zH ss ts v (i+1) (env.set t (.p (Ui s (v.cell i)))) else none
 | _,_,_,_,_=>none
def back (ws:List Nat) (st:St):St:={ st with env:=tZ ws 0 st.env }
def nV (fg:St→St) (ws:List Nat) (L:St→Option α) (k:Ex→St→Option α):Ex→St→Option α
 | .normal,st=>fC (fg (back ws st)) L
 | .exit id,st=>fC (back ws st) (k (.exit id))
 | .ret,st=>fC (back ws st) (k .ret)
def jg (fg:St→St) (ss:List (Bool × List Kd)) (ps ws:List Nat) (round:St→(Ex→St→Option α)→Option α):List PV→St→(Ex→St→Option α)→Option α
 | [],st,k=>k .normal st
 | v::xs,st,k =>
  match zH ss ps v 0 st.env with
  | none=>none
  | some env=>fC { st with env:=env } fun st=>round st (nV fg ws (fun st=>jg fg ss ps ws round xs st k) k)
def tu (l:List aI):List PV:=(l.headD (.box [])).ls
def yw (a b:Code):Nat:=match qh (.seq a b) with
 | some i=>1000000+i
 | none=>0
def aK (C:aF) (F:FI) (n:Nat):Code→St→(Ex→St→Option α)→Option α
 | .skip,st,k=>k .normal st
 | .region id ops draw,st,k=>yu (y7 F.cfg.alts id) st fun st =>
  match draw with
  | false=>dW T C false [] ops.toList ops.toList 0 st fun st'=>fC (settle F.cfg ops.toList st') fun st'=>k .normal st'
  | true =>
   match bG F.hides id with
   | some hd=>fC (st.strike (present st.heap (yt ops.toList ops.toList))) fun st=>dW T C true hd ops.toList ops.toList 0 st fun st'=>tN (look st.heap ah) st' fun st'=>fC (settle F.cfg ops.toList st') fun st'=>k .normal st'
   | none=>none
 | .seq a b,st,k=>aK C F n a st fun ex st' =>
  match ex with
  | .normal=>aK C F n b (aC F.cfg b st') k
  | .exit id=>k (.exit id) st'
  | .ret=>k .ret st'
 | .cond c x y,st,k =>
  match aU st.env c with
  | .p (.bool b)=>cond b (aK C F n x st k) (aK C F n y st k)
  | _=>none
 | .block id c,st,k=>aK C F n c st fun ex st' =>
  match ex with
  | .normal=>k .normal st'
  | .exit i=>bif i==id then k .normal st' else k (.exit i) st'
  | .ret=>k .ret st'
 | .scope c,st,k=>aK C F n c st k
 | .loop c,st,k=>mD (aC F.cfg c) (fun st' k'=>aK C F n c st' k') n (aC F.cfg c st) k
 | .exit id,st,k=>k (.exit id) st
 | .ret,st,k=>k .ret st
 | .label _,st,k=>k .normal st
 | .rangeFunc f ps a b,st,k=>yu (y7 F.cfg.alts (yw a b)) st fun st =>
  match aU st.env f with
  | .p (.fn g caps) =>
   match bG T.funcs g,kQ a with
   | some fi,true =>
    bif jE fi caps.length then
    match C g (.sJ::caps.map .p) [.log true []] with
    | some r => jg (aC F.cfg (.seq a b)) fi.cfg.yk ps.toList (ps.toList ++ (fO a ++ fO b))
        (fun st k=>aK C F n a st fun ex st' =>
          match ex with
          | .normal=>aK C F n b (aC F.cfg b st') k
          | .exit id=>k (.exit id) st'
          | .ret=>k .ret st') (tu r.2) (aC F.cfg (.seq a b) st) k
    | none=>none
    else none
   | _,_=>none
  | _=>none
 | _,_,_=>none
end
mutual
def zI:AV→Bool
 | .p (.bool _)=>true
 | .p (.int _ _)=>true
 | .p (.str _)=>true
 | .p .nil=>true
 | .p .zS=>true
 | .p .jL=>true
 | .p .oO=>true
 | .p .Xf=>true
 | .undef=>true
 | .slice _ _ _ _=>true
 | .bslice _ _ _=>true
 | .ptr _ _ _=>true
 | .fn _ cs=>wZ cs
 | .agg cs=>wZ cs
 | .mG cs=>wZ cs
 | _=>false
def wZ:List AV→Bool
 | []=>true
 | v::r=>zI v&&wZ r
end
def H7 (h:Nat→Option aI) (s:Nat):Option aI:=match h s with
 | some (.arr a ks xs)=>bif ks.all Kd.flat then some (.arr a ks xs) else none
 | some (.box cs)=>bif wZ cs then some (.box cs) else none
 | _=>none
def AV.Ko:AV→Option (List AV)
 | .p (.agg cs)=>some (cs.map .p)
 | .agg cs=>some cs
 | _=>none
def VI (h:Nat→Option aI) (a:Bool) (ks:List Kd):AV→Option (List PV × List Nat)
 | .slice s _ off len=>match h s with
  | some (.arr b ls xs)=>bif b==a&&Kd.wL ls ks&&Nat.blt s 100000 then some ((xs.drop off).take len,[s]) else none
  | _=>none
 | .p .nil=>some ([],[])
 | _=>none
def y8 (h:Nat→Option aI) (m:dX) (t:TypeId) (v:AV):Option (AV × List Nat) :=
 match m with
 | .deep=>match deep h v with
  | some (x,ss)=>bif aA (aB T t).1 (aB T t).2 x&&ss.all (fun s=>Nat.blt s 100000) then some (.p x,ss) else none
  | none=>none
 | .fresh=>match und T t with
  | some (.slice e) =>
   match v with
   | .slice s _ off len=>match h s with
    | some (.arr a ks xs) =>
     bif a==(aB T e).1&&Kd.wL ks (aB T e).2&&Nat.blt s 100000 then some (.fresh a ks ((xs.drop off).take len),[s]) else none
    | _=>none
   | .p .nil=>some (.fresh (aB T e).1 (aB T e).2 [],[])
   | _=>none
  | _=>none
 | .alias j=>match v,und T t with
  | .slice s z off len,some (.slice e)=>bif s==ah+j&&z==(aB T e).2.length then some (.slice s z off len,[]) else none
  | _,_=>none
 | .func g qs=>match deep h v with
  | some (.fn f cs,ss)=>bif (f==g&&vg qs cs)&&ss.all (fun s=>Nat.blt s 100000) then some (.p (.fn f cs),ss) else none
  | _=>none
 | .vk g qs=>match zI v,deep (H7 h) v with
  | true,some (.fn f cs,ss)=>bif (f==g&&vg qs cs)&&ss.all (fun s=>Nat.blt s 100000) then some (.p (.fn f cs),ss) else none
  | true,some (.jL,[])=>some (.p .jL,[])
  | _,_=>none
 | .IW=>none
 | .yc=>match deep h v with
  | some (.fn f cs,ss)=>bif ss.all (fun s=>Nat.blt s 100000) then some (.p (.fn f cs),ss) else none
  | _=>none
 | .DI=>match aB T t with
  | (true,ks)=>match qL ks,v.Ko with
   | some (ks,.slice a ls),some cs=>match qL cs with
    | some (cs,x)=>match zF cs,VI h a ls x with
     | some vs,some (xs,ss)=>bif bH ks vs&&ks.all Kd.flat then some (.agg (vs.map .p++[.fresh a ls xs]),ss) else none
     | _,_=>none
    | none=>none
   | _,_=>none
  | _=>none
def wu (h:Heap):List dX→List TypeId→List AV→Option (List AV)
 | _,[],[]=>some []
 | ms,t::ts,v::vs =>
  match y8 T (look h) (ms.headD .deep) t v with
  | some (x,ss)=>match wu (l9 h ss) ms.tail ts vs with
   | some xs=>some (x::xs)
   | none=>none
  | none=>none
 | _,_,_=>none
def Q9:AV→AV→Bool
 | .p (.int k _),.p (.int j _)=>k==j
 | .p (.int _ _),_=>false
 | .p (.bool _),.p (.bool _)=>true
 | .p (.bool _),_=>false
 | .p (.str _),.p (.str _)=>true
 | .p (.str _),_=>false
 | .p (.list a ks _),.p (.list b ls _)=>a==b&&Kd.wL ks ls
 | .p (.list _ _ _),_=>false
 | _,_=>true
def oU:List AV→List AV→Bool
 | [],[]=>true
 | x::xs,y::ys=>Q9 x y&&oU xs ys
 | _,_=>false
def backOk:aI→aI→Bool
 | .arr a ks _,.arr b ls _=>a==b&&Kd.wL ks ls
 | .box cs,.box ds=>oU cs ds
 | .log _ _,.log _ _=>true
 | _,_=>false
def BU:aI→Bool
 | .log _ _=>true
 | b=>dn b
def yx (h:Heap):Nat→List aI→Option (List aI)
 | _,[]=>some []
 | i,b0::r=>match look h (ah+i),yx h (i+1) r with
  | some b,some bs=>bif BU b&&backOk b0 b then some (b::bs) else none
  | _,_=>none
def VJ (env:List AV) (h:Nat→Option aI):ResultVar→Option AV
 | .tmp t=>some (env.getD t .undef)
 | .cell t ty=>match env.getD t .undef,mP T ty with
  | .ptr s 0 0,some n=>match h s with
   | some (.box cs)=>qX T ty n cs 0
   | _=>none
  | _,_=>none
def DL (env:List AV) (h:Nat→Option aI):List ResultVar→Option (List AV)
 | []=>some []
 | r::rs=>match VJ T env h r,DL env h rs with
  | some v,some vs=>some (v::vs)
  | _,_=>none
def Rf (F:Aw) (fn:Func) (bl:List aI) (st:St):Option (List AV × List aI) :=
 match DL T st.env (look st.heap) fn.results.toList with
 | none=>none
 | some vs =>
  match wu T st.heap F.rets fn.resultTypes.toList vs,yx st.heap 0 bl with
  | some rs,some bl=>lU T.strict rs fun rs=>qM T.strict bl fun bl=>some (rs,bl)
  | _,_=>none
def dN:Nat→List aI→Heap
 | _,[]=>[]
 | i,b::r=>(ah+i,b)::dN (i+1) r
def uf (fn:Func) (args:List AV) (bl:List aI):St :=
 { env:=args++List.replicate (fn.ntmps-args.length) .undef,heap:=dN 0 bl }
def Df (F:Aw) (bl:List aI):Bool:=match F.vcall with
 | true=>match bl with
  | [.box [.slice _ _ _ _],.arr _ _ _]=>true
  | _=>false
 | false=>true
def Kq (F:Aw) (fn:Func) (args:List AV) (bl:List aI):St:=match F.vcall with
 | true=>{ env:=args++List.replicate (fn.ntmps-args.length) .undef,heap:=je F.vkeep bl }
 | false=>uf fn args bl
def yA:List dX→Bool
 | []=>true
 | .deep::r=>yA r
 | _=>false
def ac2 (F:Aw) (fn:Func) (bl:List aI) (st:St):Option (List AV × List aI) :=
 match DL T st.env (look st.heap) fn.results.toList,bl with
 | some vs,[_,.arr a0 VK _]=>match look st.heap ah with
  | some (.box [.slice X _ off len])=>match look st.heap X with
   | some (.arr a ks xs) =>
    bif (a==a0&&Kd.wL ks VK)&&(yA F.rets&&(cond F.vkeep (X==100001) (Nat.blt X 100000))) then
    match wu T (l9 st.heap [ah,X]) F.rets fn.resultTypes.toList vs with
    | some rs=>lU T.strict rs fun rs=>qM T.strict [.box [.slice (bZ F.vkeep) VK.length off len],.arr a0 VK xs] fun bl=>some (rs,bl)
    | none=>none
    else none
   | _=>none
  | _=>none
 | _,_=>none
def Xg (F:Aw) (fn:Func) (bl:List aI) (st:St):Option (List AV × List aI):=match F.vcall with
 | true=>ac2 T F fn bl st
 | false=>Rf T F fn bl st
abbrev Ext:=Nat→Option (List AV→List aI→Option (List AV × List aI))
def kR (X:Ext):Nat→aF
 | 0,_,_,_=>none
 | n+1,f,args,bl =>
  match bG T.funcs f with
  | none=>none
  | some fi =>
   match X f with
   | some s=>s args bl
   | none =>
   match fi.fn.body with
   | none=>none
   | some c=>bif Df fi.cfg bl then
    lU T.strict args fun args=>qM T.strict bl fun bl=>fC (Kq fi.cfg fi.fn args bl) fun st =>
    aK T (kR X n) fi n c st fun ex st =>
     match ex with
     | .exit _=>none
     | _=>Xg T fi.cfg fi.fn bl st
    else none
def EX (ops:List Oper):List (List Nat) :=
 let tab:=dY ops []
 (List.range ops.length).map fun j=>uD T ops tab j 0 ops
def qj:List (List Nat)→List (List Nat)→Bool
 | [],[]=>true
 | x::xs,y::ys=>x==y&&qj xs ys
 | _,_=>false
def iD (hides:List (Nat × List (List Nat))):Code→Bool
 | .region id ops true=>match bG hides id with
  | none=>true
  | some hd=>DK T ops.toList (dY ops.toList []) hd 0 ops.toList&&qj hd (EX T ops.toList)
 | .seq a b=>iD hides a&&iD hides b
 | .cond _ a b=>iD hides a&&iD hides b
 | .block _ c=>iD hides c
 | .loop c=>iD hides c
 | .scope c=>iD hides c
 | .rangeFunc _ _ a b=>iD hides a&&iD hides b
 | _=>true
end
end Go.Skm
namespace Go.Skm
def PV.leaf:PV→Bool
 | .agg _=>false
 | _=>true
def AV.leaf:AV→Bool
 | .p v=>v.leaf
 | .agg _=>false
 | .mG _=>false
 | .fresh _ _ _=>false
 | _=>true
def H8 (E:Array MapEntry) (k n:Nat):Prop:=E.size=n∧(∀ e∈E.toList,e.born<k)∧(E.toList.map (·.born)).Nodup
inductive VR (w:World) (M:Nat→Prop):PV→Value→Prop
 | bool (b:Bool):VR w M (.bool b) (.bool b)
 | int (k:IntKind) (n:Int):VR w M (.int k n) (.int k n)
 | str (s:ByteArray):VR w M (.str s) (.string s)
 | agg (cs : List PV) (vs : Array Value) (hn : vs.size = cs.length) (hl : ∀ c ∈ cs,c.leaf = true)
     (h:∀ (i:Nat) (c:PV),cs[i]?=some c→VR w M c (vs.getD i undef)):VR w M (.agg cs) (.agg vs)
 | list (a : Bool) (ks : List Kd) (xs : List PV) (b o cap : Nat) (f : Nat → Nat → Value) (hM : M b) (hcap : xs.length ≤ cap)
     (hc:∀ (i:Nat) (x:PV) (j:Nat) (c:PV),xs[i]?=some x→x.cells[j]?=some c→w.cell? ⟨b,o+i*ks.length+j,none⟩=some (f i j))
     (hv:∀ (i:Nat) (x:PV) (j:Nat) (c:PV),xs[i]?=some x→x.cells[j]?=some c→VR w M c (f i j))
     (hs:∀ x∈xs,aA a ks x=true):VR w M (.list a ks xs) (.slice (some ⟨b,o,none⟩) xs.length cap)
 | kD (a:Bool) (ks:List Kd) (base:Option Addr) (cap:Nat):VR w M (.list a ks []) (.slice base 0 cap)
 | full (a : Bool) (ks : List Kd) (xs : List PV) (b o : Nat) (f : Nat → Nat → Value) (hM : M b)
     (hc:∀ (i:Nat) (x:PV) (j:Nat) (c:PV),xs[i]?=some x→x.cells[j]?=some c→w.cell? ⟨b,o+i*ks.length+j,none⟩=some (f i j))
     (hv:∀ (i:Nat) (x:PV) (j:Nat) (c:PV),xs[i]?=some x→x.cells[j]?=some c→VR w M c (f i j))
     (hs:∀ x∈xs,aA a ks x=true):VR w M (.full a ks xs) (.slice (some ⟨b,o,none⟩) xs.length xs.length)
 | H9 (a:Bool) (ks:List Kd) (base:Option Addr):VR w M (.full a ks []) (.slice base 0 0)
 | nil:VR w M .nil (.slice none 0 0)
 | fn (f : Nat) (cs : List PV) (vs : Array Value) (hn : vs.size = cs.length)
     (h:∀ (i:Nat) (c:PV),cs[i]?=some c→VR w M c (vs.getD i undef)):VR w M (.fn f cs) (.func (.func f) #[] vs)
 | ref (cs : List PV) (b o : Nat) (f : Nat → Value) (hM : M b) (hl : ∀ c ∈ cs,c.leaf = true)
     (hc:∀ (j:Nat) (c:PV),cs[j]?=some c→w.cell? ⟨b,o+j,none⟩=some (f j))
     (hv:∀ (j:Nat) (c:PV),cs[j]?=some c→VR w M c (f j)):VR w M (.ref cs) (.pointer (some ⟨b,o,none⟩))
 | zS:VR w M .zS (.pointer none)
 | jL:VR w M .jL .nilFunc
 | Xf (t:TypeId) (v:Value):VR w M .Xf (.iface t v)
 | oO:VR w M .oO .nilIface
 | Po:VR w M .Po (.map none)
 | zX (ks vs : List PV) (b : Nat) (E : Array MapEntry) (k : Nat) (hM : M b) (hw : w.heap[b]? = some (.map E k)) (hn : H8 E k ks.length) (hl : vs.length = ks.length)
     (hk:∀ (i:Nat) (x:PV) (e:MapEntry),ks[i]?=some x→E[i]?=some e→VR w M x e.key) (hv:∀ (i:Nat) (x:PV) (e:MapEntry),vs[i]?=some x→E[i]?=some e→VR w M x e.val):VR w M (.zX ks vs) (.map (some b))
theorem cell_of_heap {w w':World} {b i:Nat} (h:w'.heap[b]?=w.heap[b]?):w'.cell? ⟨b,i,none⟩=w.cell? ⟨b,i,none⟩:=by
 simp[World.cell?,h]
theorem VR.mono {w w':World} {M M':Nat→Prop} (hM:∀ b,M b→M' b∧w'.heap[b]?=w.heap[b]?) {v:PV} {c:Value} (h:VR w M v c):VR w' M' v c:=by
 induction h with
 | bool b=>exact .bool b
 | int k n=>exact .int k n
 | str s=>exact .str s
 | agg cs vs hn hl _ ih=>exact .agg cs vs hn hl ih
 | list a ks xs b o cap f hb hcap hc _ hs ih =>
  exact .list a ks xs b o cap f (hM b hb).1 hcap (fun i x j c h1 h2=>by rw[cell_of_heap (hM b hb).2];exact hc i x j c h1 h2) ih hs
 | kD a ks base cap=>exact .kD a ks base cap
 | full a ks xs b o f hb hc _ hs ih =>
  exact .full a ks xs b o f (hM b hb).1 (fun i x j c h1 h2=>by rw[cell_of_heap (hM b hb).2];exact hc i x j c h1 h2) ih hs
 | H9 a ks base=>exact .H9 a ks base
 | nil=>exact .nil
 | fn f cs vs hn _ ih=>exact .fn f cs vs hn ih
 | ref cs b o f hb hl hc _ ih =>
  exact .ref cs b o f (hM b hb).1 hl (fun j c h1=>by rw[cell_of_heap (hM b hb).2];exact hc j c h1) ih
 | zS=>exact .zS
 | jL=>exact .jL
 | Xf t v=>exact .Xf t v
 | oO=>exact .oO
 | Po=>exact .Po
 | zX ks vs b E k hb hw hn hl _ _ ih1 ih2=>exact .zX ks vs b E k (hM b hb).1 ((hM b hb).2.trans hw) hn hl ih1 ih2
theorem VR.one {w:World} {M:Nat→Prop} {v:PV} {c:Value} (h:VR w M v c) (hl:v.leaf=true):c.oneCell'=true:=by
 cases h<;>first | rfl | simp[PV.leaf]at hl
theorem VR.DN {w:World} {M:Nat→Prop} {v:PV} {c:Value} (h:VR w M v c) (hl:v.leaf=true):c.cells=#[c]:=by
 cases h<;>first | rfl | simp[PV.leaf]at hl
mutual
theorem Kd.beq_eq:∀ (x y:Kd),Kd.beq x y=true→x=y
 | .int j,.int k,h=>by simp[Kd.beq]at h;rw[h]
 | .bool,.bool,_=>rfl
 | .str,.str,_=>rfl
 | .slice a ks,.slice b ls,h=>by
  simp[Kd.beq]at h
  rw[h.1,Kd.jY ks ls h.2]
 | .other,.other,_=>rfl
 | .int _,.bool,h | .int _,.str,h | .int _,.slice _ _,h | .int _,.other,h
 | .bool,.int _,h | .bool,.str,h | .bool,.slice _ _,h | .bool,.other,h
 | .str,.int _,h | .str,.bool,h | .str,.slice _ _,h | .str,.other,h
 | .slice _ _,.int _,h | .slice _ _,.bool,h | .slice _ _,.str,h | .slice _ _,.other,h
 | .other,.int _,h | .other,.bool,h | .other,.str,h | .other,.slice _ _,h=>by simp[Kd.beq]at h
theorem Kd.jY:∀ (x y:List Kd),Kd.wL x y=true→x=y
 | [],[],_=>rfl
 | k::ks,l::ls,h=>by
  simp[Kd.wL]at h
  rw[Kd.beq_eq k l h.1,Kd.jY ks ls h.2]
 | [],_::_,h | _::_,[],h=>by simp[Kd.wL]at h
end
mutual
theorem Kd.beq_refl:∀ (x:Kd),Kd.beq x x=true
 | .int j=>by simp[Kd.beq]
 | .bool=>rfl
 | .str=>rfl
 | .slice a ks=>by simp[Kd.beq,Kd.oN ks]
 | .other=>rfl
theorem Kd.oN:∀ (x:List Kd),Kd.wL x x=true
 | []=>rfl
 | k::ks=>by simp[Kd.wL,Kd.beq_refl k,Kd.oN ks]
end
theorem iL {k:Kd} {v:PV} (h:kindOk k v=true):v.leaf=true:=by
 cases v<;>first | rfl | (cases k<;>simp[kindOk]at h)
theorem xg {w:World} {M:Nat→Prop} {k:Kd} {v:PV} {c:Value} (hk:kindOk k v=true) (h:VR w M v c):VR w M (eta k v) c:=by
 cases k with
 | int j=>cases v<;>simp[kindOk]at hk;subst hk;exact h
 | bool=>cases v<;>simp[kindOk]at hk;exact h
 | str=>cases v<;>simp[kindOk]at hk;exact h
 | slice a ks =>
  cases v<;>simp[kindOk]at hk
  · obtain⟨rfl,h2⟩:=hk
    rw[← Kd.jY _ _ h2]at h
    exact h
  · cases h;exact .kD a ks none 0
 | other=>exact h
theorem EY {k:Kd} {v:PV} (hk:kindOk k v=true):(eta k v).leaf=true:=by
 cases k<;>first | rfl | exact iL hk
theorem Zj {k:Kd} {v:PV} (hk:kindOk k v=true):kindOk k (eta k v)=true:=by
 cases k with
 | slice a ks=>simp[eta,kindOk,Kd.oN]
 | other=>exact hk
 | _=>simp[eta,kindOk]
theorem eH:∀ {ks:List Kd} {vs:List PV},bH ks vs=true→ks.length=vs.length∧∀ (j:Nat) (k:Kd) (v:PV),ks[j]?=some k→vs[j]?=some v→kindOk k v=true
 | [],[],_=>⟨rfl,fun j k v h=>by simp at h⟩
 | k::ks,v::vs,h=>by
  simp[bH]at h
  obtain⟨h1,h2⟩:=eH h.2
  refine⟨by simp[h1],fun j k' v' hk hv=>?_⟩
  cases j with
  | zero=>simp at hk hv;subst hk;subst hv;exact h.1
  | succ j=>simp at hk hv;exact h2 j k' v' hk hv
 | [],_::_,h | _::_,[],h=>by simp[bH]at h
theorem jS {a:Bool} {ks:List Kd} {x:PV} (h:aA a ks x=true):bH ks x.cells=true:=by
 cases a with
 | true=>cases x<;>simp[aA]at h;exact h
 | false =>
  match ks with
  | []=>simp[aA]at h
  | [k] =>
   simp[aA]at h
   have hl:=iL h
   cases x<;>first | (simp[PV.leaf]at hl;done) | simpa [PV.cells,bH] using h
  | _::_::_=>simp[aA]at h
theorem bY {a:Bool} {ks:List Kd} {x:PV} (h:aA a ks x=true):x.cells.length=ks.length:=(eH (jS h)).1.symm
theorem ql {a:Bool} {ks:List Kd} {x:PV} (h:aA a ks x=true) {j:Nat} {k:Kd} (hk:ks[j]?=some k):∃ c,x.cells[j]?=some c∧kindOk k c=true∧x.cell j=c:=by
 obtain⟨h1,h2⟩:=eH (jS h)
 have hj:j<ks.length:=by
  have:=List.getElem?_eq_some_iff.1 hk
  exact this.1
 have hj':j<x.cells.length:=by omega
 refine⟨x.cells[j],by simp,h2 j k _ hk (by simp),?_⟩
 cases x with
 | agg cs=>simp[PV.cells]at hj' ⊢;simp[PV.cell,List.getD,hj']
 | _=>simp[PV.cells]at hj' ⊢;simp[PV.cell]
def iE:PV→Value
 | .int .u8 n=>.int .u8 n
 | _=>undef
def Open (C:Array Value) (fr:Nat × Nat):Prop:=fr.1=fr.2∨C.size≤fr.1
theorem Open.at {C:Array Value} {fr:Nat × Nat} (h:Open C fr):∀ i,i<C.size→¬ (fr.1≤i∧i<fr.2):=by
 intro i hi hh
 rcases h with h | h<;>omega
theorem Open.size {C C':Array Value} {fr:Nat × Nat} (h:Open C fr) (hs:C'.size=C.size):Open C' fr:=by
 rcases h with h | h
 · exact .inl h
 · exact .inr (by omega)
def y9 (n:Nat) (fr:Nat × Nat):Nat × Nat:=if fr.1==fr.2 then(n,n+1) else(min fr.1 n,max fr.2 (n+1))
theorem Open.mark {C:Array Value} {fr:Nat × Nat} (h:Open C fr):Open C (y9 C.size fr):=by
 unfold y9
 split
 · exact .inr (Nat.le_refl _)
 · rename_i hne
   rcases h with h | h
   · exact absurd (by simpa using h) hne
   · exact .inr (by simp only;omega)
def Room (w:World) (b n:Nat):Prop:=∃ C e fr,w.heap[b]?=some (.cells C e fr)∧n / 2≤C.size∧(n%2=0→Open C fr)
theorem Room.mk {w:World} {b n:Nat} {C:Array Value} {e:TypeId} {fr:Nat × Nat} (h:w.heap[b]?=some (.cells C e fr)) (hn:n≤C.size) (ho:Open C fr):Room w b (2*n):=⟨C,e,fr,h,by omega,fun _=>ho⟩
theorem Room.get {w:World} {b n:Nat} (h:Room w b (2*n)):∃ C e fr,w.heap[b]?=some (.cells C e fr)∧n≤C.size∧Open C fr:=by
 obtain⟨C,e,fr,h1,h2,h3⟩:=h
 exact⟨C,e,fr,h1,by omega,h3 (by omega)⟩
theorem Room.mkC {w:World} {b n:Nat} {C:Array Value} {e:TypeId} {fr:Nat × Nat} (h:w.heap[b]?=some (.cells C e fr)) (hn:n≤C.size):Room w b (2*n+1):=⟨C,e,fr,h,by omega,fun h=>by omega⟩
theorem Room.ajv {w:World} {b n:Nat} (h:Room w b (2*n+1)):∃ C e fr,w.heap[b]?=some (.cells C e fr)∧n≤C.size:=by
 obtain⟨C,e,fr,h1,h2,h3⟩:=h
 exact⟨C,e,fr,h1,by omega⟩
def Past (n:Nat) (fr:Nat × Nat):Prop:=fr.1=fr.2∨fr.2≤n
theorem Past.mono {n m:Nat} {fr:Nat × Nat} (h:Past n fr) (hm:n≤m):Past m fr:=h.imp id fun h=>Nat.le_trans h hm
section
variable (w:World) (M:Nat→Prop) (β:Nat→Option (Nat × Nat)) (h:Nat→Option aI)
inductive AR:AV→Value→Prop
 | undef (c:Value):AR .undef c
 | p (v:PV) (c:Value) (hv:VR w M v c):AR (.p v) c
 | slice (s off len : Nat) (a : Bool) (ks : List Kd) (xs : List PV) (b o cap : Nat) (hs : h s = some (.arr a ks xs)) (hl : off + len ≤ xs.length) (hb : β s = some (b,o))
     (hcap:len≤cap) (hr:Room w b (2*(o+(off+cap)*ks.length))):AR (.slice s ks.length off len) (.slice (some ⟨b,o+off*ks.length,none⟩) len cap)
 | sliceE (s off:Nat) (a:Bool) (ks:List Kd) (xs:List PV) (base:Option Addr) (hs:h s=some (.arr a ks xs)) (hl:off≤xs.length):AR (.slice s ks.length off 0) (.slice base 0 0)
 | bslice (s off len : Nat) (cs : List AV) (b o cap : Nat) (hs : h s = some (.box cs)) (hl : off + cap ≤ cs.length) (hb : β s = some (b,o))
     (hcap:len≤cap):AR (.bslice s off len) (.slice (some ⟨b,o+off,none⟩) len cap)
 | bsliceE (s off:Nat) (cs:List AV) (base:Option Addr) (hs:h s=some (.box cs)) (hl:off≤cs.length):AR (.bslice s off 0) (.slice base 0 0)
 | ptrB (s off:Nat) (cs:List AV) (b o:Nat) (hs:h s=some (.box cs)) (hb:β s=some (b,o)):AR (.ptr s 0 off) (.pointer (some ⟨b,o+off,none⟩))
 | ptrA (s idx off : Nat) (a : Bool) (ks : List Kd) (xs : List PV) (b o : Nat) (hs : h s = some (.arr a ks xs)) (hi : idx < xs.length) (hb : β s = some (b,o)) :
     AR (.ptr s idx off) (.pointer (some ⟨b,o+idx*ks.length+off,none⟩))
 | mO (a : Bool) (ks : List Kd) (x : PV) (off b o : Nat) (f : Nat → Value) (hM : M b) (hx : aA a ks x = true)
     (hc:∀ (j:Nat) (c:PV),x.cells[j]?=some c→w.cell? ⟨b,o+j,none⟩=some (f j))
     (hv:∀ (j:Nat) (c:PV),x.cells[j]?=some c→VR w M c (f j)):AR (.mO a ks x off) (.pointer (some ⟨b,o+off,none⟩))
 | fn (f : Nat) (cs : List AV) (vs : Array Value) (hn : vs.size = cs.length)
     (hc:∀ (i:Nat) (c:AV),cs[i]?=some c→AR c (vs.getD i undef)):AR (.fn f cs) (.func (.func f) #[] vs)
 | agg (cs : List AV) (vs : Array Value) (hn : vs.size = cs.length) (hl : ∀ c ∈ cs,c.leaf = true)
     (hc:∀ (i:Nat) (c:AV),cs[i]?=some c→AR c (vs.getD i undef)):AR (.agg cs) (.agg vs)
 | mG (cs : List AV) (vs : Array Value) (hn : vs.size = cs.length)
     (hc:∀ (i:Nat) (c:AV),cs[i]?=some c→AR c (vs.getD i undef)):AR (.mG cs) (.tuple vs)
 | sJ (l:Nat):AR .sJ (.func (.yield l) #[] #[])
 | ptrT (s off:Nat) (t:TypeId) (c0 c1:AV) (b:Nat) (hs:h s=some (.tb t c0 c1)) (hb:β s=some (b,0)):AR (.ptr s 0 off) (.pointer (some ⟨b,off,none⟩))
 | Kr (s:Nat) (t:TypeId) (es:List (PV × PV)) (b o:Nat) (hs:h s=some (.mp t es)) (hb:β s=some (b,o)):AR (.mref s) (.map (some b))
 | Kt (s:Nat) (e:TypeId) (xs:List PV) (b cap:Nat) (hs:h s=some (.br e xs)) (hb:β s=some (b,0)) (hcap:xs.length≤cap) (h0:0<xs.length) (hr:Room w b (2*cap+1)):AR (.mref s) (.slice (some ⟨b,0,none⟩) xs.length cap)
 | AU (s:Nat) (e:TypeId) (hs:h s=some (.br e [])):AR (.mref s) (.slice none 0 0)
inductive BR (s:Nat):aI→Prop
 | box (cs : List AV) (b o : Nat) (C : Array Value) (e : TypeId) (fr : Nat × Nat) (hb : β s = some (b,o)) (hw : w.heap[b]? = some (.cells C e fr)) (hn : o + cs.length ≤ C.size)
     (ho:Open C fr) (hl:∀ c∈cs,c.leaf=true) (hc:∀ (j:Nat) (c:AV),cs[j]?=some c→AR w M β h c (C.getD (o+j) undef)):BR s (.box cs)
 | fM (a:Bool) (ks:List Kd):BR s (.arr a ks [])
 | arr (a : Bool) (ks : List Kd) (xs : List PV) (b o : Nat) (C : Array Value) (e : TypeId) (fr : Nat × Nat) (hb : β s = some (b,o)) (hw : w.heap[b]? = some (.cells C e fr))
     (hn:o+xs.length*ks.length≤C.size) (ho:Open C fr) (hs:∀ x∈xs,aA a ks x=true)
     (hc:∀ (i:Nat) (x:PV) (j:Nat) (c:PV),xs[i]?=some x→x.cells[j]?=some c→VR w M c (C.getD (o+i*ks.length+j) undef)):BR s (.arr a ks xs)
 | log (on:Bool) (xs:List PV):BR s (.log on xs)
 | tb (t : TypeId) (c0 c1 : AV) (b : Nat) (C : Array Value) (fr : Nat × Nat) (hb : β s = some (b,0)) (hw : w.heap[b]? = some (.cells C t fr)) (hn : C.size = 2) (ho : Open C fr)
     (hl0:c0.leaf=true) (hl1:c1.leaf=true) (h0:AR w M β h c0 (C.getD 0 undef)) (h1:AR w M β h c1 (C.getD 1 undef)):BR s (.tb t c0 c1)
 | mp (t : TypeId) (es : List (PV × PV)) (b o : Nat) (E : Array MapEntry) (k : Nat) (hb : β s = some (b,o)) (hw : w.heap[b]? = some (.map E k)) (hn : H8 E k es.length)
     (hc:∀ (i:Nat) (p:PV × PV) (e:MapEntry),es[i]?=some p→E[i]?=some e→VR w M p.1 e.key∧VR w M p.2 e.val):BR s (.mp t es)
 | DR (e:TypeId):BR s (.br e [])
 | br (e : TypeId) (xs : List PV) (b : Nat) (C : Array Value) (fr : Nat × Nat) (hb : β s = some (b,0)) (hw : w.heap[b]? = some (.cells C e fr)) (hn : xs.length ≤ C.size) (ho : Past xs.length fr)
     (hs:∀ x∈xs,aA false [.int .u8] x=true) (hc:∀ (i:Nat) (x:PV),xs[i]?=some x→C.getD i undef=iE x):BR s (.br e xs)
end
def Like:aI→aI→Prop
 | .box cs,.box ds=>cs.length=ds.length
 | .arr a ks xs,.arr b ls ys=>a=b∧ks=ls∧xs.length≤ys.length
 | .log a _,.log b _=>a=b
 | .tb t _ _,.tb u _ _=>t=u
 | .mp t _,.mp u _=>t=u
 | .br e xs,.br f ys=>e=f∧xs.length=ys.length
 | _,_=>False
theorem Like.refl (x:aI):Like x x:=by cases x<;>simp[Like]
def aeE:aI→Nat→Prop
 | .br _ _,n=>n%2=1
 | .box _,_=>False
 | _,_=>True
theorem AR.abH {w w' : World} {M M' : Nat → Prop} {β β' : Nat → Option (Nat × Nat)} {h h' : Nat → Option aI} (hM : ∀ b,M b → M' b ∧ w'.heap[b]? = w.heap[b]?)
    {v:AV} {c:Value} (hv:AR w M β h v c)
    (hs:∀ s blk,AV.refers [s] v=true→h s=some blk→∃ blk',h' s=some blk'∧Like blk blk'∧β' s=β s∧(∀ b o n,β s=some (b,o)→aeE blk n→Room w b n→Room w' b n)):AR w' M' β' h' v c:=by
  have any:∀ (s:Nat) (cs:List AV) (i:Nat) (c:AV),cs[i]?=some c→AV.refers [s] c=true→AV.fK [s] cs=true:=by
   intro s cs
   induction cs with
   | nil=>intro i c hi;simp at hi
   | cons x r ih =>
    intro i c hi hr
    cases i with
    | zero=>simp at hi;subst hi;simp[AV.fK,hr]
    | succ i=>simp at hi;simp[AV.fK,ih i c hi hr]
  have me:∀ s:Nat,dZ s [s]=true:=fun s=>by simp[dZ]
  induction hv with
  | undef c=>exact .undef c
  | p v c hv=>exact .p v c (hv.mono hM)
  | slice s off len a ks xs b o cap h1 hl hb hcap hr =>
   obtain⟨blk',e1,e2,e3,e4⟩:=hs s _ (by simp[AV.refers,me]) h1
   cases blk' with
   | box cs=>exact e2.elim
   | log _ _=>exact e2.elim
   | tb _ _ _=>exact e2.elim
   | mp _ _=>exact e2.elim
   | br _ _=>exact e2.elim
   | arr a' ks' xs' =>
    obtain⟨rfl,rfl,h3⟩:=e2
    exact .slice s off len a ks xs' b o cap e1 (by omega) (e3▸hb) hcap (e4 _ _ _ hb trivial hr)
  | sliceE s off a ks xs base h1 hl =>
   obtain⟨blk',e1,e2,e3,e4⟩:=hs s _ (by simp[AV.refers,me]) h1
   cases blk' with
   | box cs=>exact e2.elim
   | log _ _=>exact e2.elim
   | tb _ _ _=>exact e2.elim
   | mp _ _=>exact e2.elim
   | br _ _=>exact e2.elim
   | arr a' ks' xs' =>
    obtain⟨rfl,rfl,h3⟩:=e2
    exact .sliceE s off a ks xs' base e1 (by omega)
  | bslice s off len cs b o cap h1 hl hb hcap =>
   obtain⟨blk',e1,e2,e3,e4⟩:=hs s _ (by simp[AV.refers,me]) h1
   cases blk' with
   | box cs'=>exact .bslice s off len cs' b o cap e1 (by have:cs.length=cs'.length:=e2;omega) (e3▸hb) hcap
   | arr _ _ _=>exact e2.elim
   | log _ _=>exact e2.elim
   | tb _ _ _=>exact e2.elim
   | mp _ _=>exact e2.elim
   | br _ _=>exact e2.elim
  | bsliceE s off cs base h1 hl =>
   obtain⟨blk',e1,e2,e3,e4⟩:=hs s _ (by simp[AV.refers,me]) h1
   cases blk' with
   | box cs'=>exact .bsliceE s off cs' base e1 (by have:cs.length=cs'.length:=e2;omega)
   | arr _ _ _=>exact e2.elim
   | log _ _=>exact e2.elim
   | tb _ _ _=>exact e2.elim
   | mp _ _=>exact e2.elim
   | br _ _=>exact e2.elim
  | ptrB s off cs b o h1 hb =>
   obtain⟨blk',e1,e2,e3,e4⟩:=hs s _ (by simp[AV.refers,me]) h1
   cases blk' with
   | box cs'=>exact .ptrB s off cs' b o e1 (e3▸hb)
   | arr _ _ _=>exact e2.elim
   | log _ _=>exact e2.elim
   | tb _ _ _=>exact e2.elim
   | mp _ _=>exact e2.elim
   | br _ _=>exact e2.elim
  | ptrA s idx off a ks xs b o h1 hi hb =>
   obtain⟨blk',e1,e2,e3,e4⟩:=hs s _ (by simp[AV.refers,me]) h1
   cases blk' with
   | box cs=>exact e2.elim
   | log _ _=>exact e2.elim
   | tb _ _ _=>exact e2.elim
   | mp _ _=>exact e2.elim
   | br _ _=>exact e2.elim
   | arr a' ks' xs' =>
    obtain⟨rfl,rfl,h3⟩:=e2
    exact .ptrA s idx off a ks xs' b o e1 (by omega) (e3▸hb)
  | mO a ks x off b o f hb hx hc hv =>
   exact .mO a ks x off b o f (hM b hb).1 hx (fun j c h1=>by rw[cell_of_heap (hM b hb).2];exact hc j c h1) (fun j c h1=>(hv j c h1).mono hM)
  | fn f cs vs hn _ ih=>exact .fn f cs vs hn fun i c hi=>ih i c hi fun s blk hr=>hs s blk (by simp only[AV.refers];exact any s cs i c hi hr)
  | agg cs vs hn hl _ ih=>exact .agg cs vs hn hl fun i c hi=>ih i c hi fun s blk hr=>hs s blk (by simp only[AV.refers];exact any s cs i c hi hr)
  | mG cs vs hn _ ih=>exact .mG cs vs hn fun i c hi=>ih i c hi fun s blk hr=>hs s blk (by simp only[AV.refers];exact any s cs i c hi hr)
  | sJ l=>exact .sJ l
  | ptrT s off t c0 c1 b h1 hb =>
   obtain⟨blk',e1,e2,e3,e4⟩:=hs s _ (by simp[AV.refers,me]) h1
   cases blk' with
   | box cs=>exact e2.elim
   | log _ _=>exact e2.elim
   | arr _ _ _=>exact e2.elim
   | mp _ _=>exact e2.elim
   | br _ _=>exact e2.elim
   | tb t' c0' c1'=>exact .ptrT s off t' c0' c1' b e1 (e3▸hb)
  | Kr s t es b o h1 hb =>
   obtain⟨blk',e1,e2,e3,e4⟩:=hs s _ (by simp[AV.refers,me]) h1
   cases blk' with
   | box cs=>exact e2.elim
   | log _ _=>exact e2.elim
   | arr _ _ _=>exact e2.elim
   | tb _ _ _=>exact e2.elim
   | br _ _=>exact e2.elim
   | mp t' es'=>exact .Kr s t' es' b o e1 (e3▸hb)
  | Kt s e xs b cap h1 hb hcap h0 hr =>
   obtain⟨blk',e1,e2,e3,e4⟩:=hs s _ (by simp[AV.refers,me]) h1
   cases blk' with
   | box cs=>exact e2.elim
   | log _ _=>exact e2.elim
   | arr _ _ _=>exact e2.elim
   | tb _ _ _=>exact e2.elim
   | mp _ _=>exact e2.elim
   | br e' xs' =>
    obtain⟨rfl,h3⟩:=e2
    rw[h3]
    exact .Kt s e xs' b cap e1 (e3▸hb) (by omega) (by omega) (e4 _ _ _ hb (show (2*cap+1)%2=1 by omega) hr)
  | AU s e h1 =>
   obtain⟨blk',e1,e2,e3,e4⟩:=hs s _ (by simp[AV.refers,me]) h1
   cases blk' with
   | box cs=>exact e2.elim
   | log _ _=>exact e2.elim
   | arr _ _ _=>exact e2.elim
   | tb _ _ _=>exact e2.elim
   | mp _ _=>exact e2.elim
   | br e' xs' =>
    obtain⟨rfl,h3⟩:=e2
    have:xs'=[]:=List.length_eq_zero_iff.1 (by simpa using h3.symm)
    subst this
    exact .AU s e e1
theorem AR.mono {w w' : World} {M M' : Nat → Prop} {β β' : Nat → Option (Nat × Nat)} {h h' : Nat → Option aI} (hM : ∀ b,M b → M' b ∧ w'.heap[b]? = w.heap[b]?)
    {v:AV} {c:Value} (hv:AR w M β h v c)
    (hs:∀ s blk,AV.refers [s] v=true→h s=some blk→∃ blk',h' s=some blk'∧Like blk blk'∧β' s=β s∧(∀ b o n,β s=some (b,o)→Room w b n→Room w' b n)):AR w' M' β' h' v c :=
  hv.abH hM fun s blk h1 h2=>let ⟨blk',e1,e2,e3,e4⟩:=hs s blk h1 h2;⟨blk',e1,e2,e3,fun b o n h _ hr=>e4 b o n h hr⟩
structure Base where
 wd:World
 n0:Nat
 le:n0≤wd.heap.size
 gl:Option (List (Nat × Obj))
abbrev Base.heap (b:Base):=b.wd.heap
abbrev Base.os (b:Base):=b.wd.os
abbrev Base.tape (b:Base):=b.wd.tape
abbrev Base.output (b:Base):=b.wd.output
abbrev Base.drawn (b:Base):=b.wd.drawn
theorem Base.le' (b:Base):b.n0≤b.heap.size:=b.le
structure Rel (w0:Base) (Pr M0:Nat→Prop) (M:Nat→Prop) (β:Nat→Option (Nat × Nat)) (st:St) (a:Act) (w:World):Prop where
 lV:st.env.length≤a.tmps.size
 env:∀ (t:Nat) (v:AV),st.env[t]?=some v→AR w M β (look st.heap) v (a.tmps.getD t undef)
 heap:∀ s blk,look st.heap s=some blk→BR w M β (look st.heap) s blk
 own:∀ s b o,(look st.heap s).isSome=true→β s=some (b,o)→¬ M b∧b<w.heap.size∧((w0.heap.size≤b∨Pr b)∧(w0.n0≤b∨ah≤s))
 inj:∀ s s' b o o',(look st.heap s).isSome=true→(look st.heap s').isSome=true→β s=some (b,o)→β s'=some (b,o')→s=s'
 fJ:∀ b,M b→b<w.heap.size
 jX:∀ b,M b→M0 b∨(w0.n0≤b∧(w0.heap.size≤b∨Pr b))
 oJ:∀ b,M0 b→M b
 keep:∀ b,b<w0.heap.size→¬ Pr b→w.heap[b]?=w0.heap[b]?
 room:∀ b n,b<w0.n0→Pr b→Room w0.wd b n→Room w b n
 size:w0.heap.size≤w.heap.size
 os:w.os=w0.os
 tape:w.tape=w0.tape
 output:w.output=w0.output
 lK:∀ p∈w0.gl.getD [],M p.1∧w.heap[p.1]?=some p.2
end Go.Skm
namespace Go.Skm
theorem jP {x:Nat}:∀ {l:List Nat},dZ x l=true↔x∈l
 | []=>by simp[dZ]
 | y::r=>by
  simp only[dZ,List.mem_cons]
  by_cases h:x=y
  · simp[h]
  · have h':(x==y)=false:=by simpa using h
    simp[h',h,jP]
theorem dK {x:Nat} {l:List Nat}:dZ x l=false↔x ∉ l:=by
 rw[← jP];simp
theorem aV (hp:Heap) (s:Nat) (b:aI) (x:Nat):look (put hp s b) x=if x=s then some b else look hp x:=by
 induction hp with
 | nil =>
  by_cases h:x=s
  · subst h;simp[put,look]
  · have h':(s==x)=false:=by simpa using fun e=>h e.symm
    simp[put,look,h,h']
 | cons p r ih =>
  obtain⟨k,c⟩:=p
  by_cases hk:k=s
  · subst hk
    by_cases h:x=k
    · subst h;simp[put,look]
    · have h':(k==x)=false:=by simpa using fun e=>h e.symm
      simp[put,look,h,h']
  · have hk':(k==s)=false:=by simpa using hk
    by_cases h:x=s
    · subst h
      have hx:(k==x)=false:=hk'
      simp only[put,hk',cond_false,look,ih,if_true]
    · by_cases hx:k=x
      · subst hx;simp[put,hk',look,h]
      · have hx':(k==x)=false:=by simpa using hx
        simp only[put,hk',cond_false,look,hx',ih,h,if_false]
theorem Uj (hp:Heap) (s x:Nat):look (drop1 hp s) x=if x=s then none else look hp x:=by
 induction hp with
 | nil=>simp[drop1,look]
 | cons p r ih =>
  obtain⟨k,c⟩:=p
  by_cases hk:k=s
  · subst hk
    by_cases h:x=k
    · subst h;simp[drop1,ih]
    · have h':(k==x)=false:=by simpa using fun e=>h e.symm
      simp[drop1,look,ih,h,h']
  · have hk':(k==s)=false:=by simpa using hk
    by_cases h:x=s
    · subst h
      have hx:(k==x)=false:=hk'
      simp[drop1,hk',look,ih]
    · by_cases hx:k=x
      · subst hx;simp[drop1,hk',look,h]
      · have hx':(k==x)=false:=by simpa using hx
        simp[drop1,hk',look,hx',ih,h]
theorem qm (x:Nat):∀ (ss:List Nat) (hp:Heap),look (l9 hp ss) x=if x∈ss then none else look hp x
 | [],hp=>by simp[l9]
 | s::r,hp=>by
  simp only[l9,qm x r,Uj,List.mem_cons]
  by_cases h1:x∈r<;>by_cases h2:x=s<;>simp[h1,h2]
theorem fA (ss:List Nat) (x:Nat):∀ (hp:Heap),look (fD ss hp) x=(look hp x).map (aI.kill ss)
 | []=>rfl
 | (k,b)::r=>by
  by_cases h:(k==x)=true
  · simp[fD,look,h]
  · have h':(k==x)=false:=by simpa using h
    simp[fD,look,h',fA ss x r]
theorem gQ (ss:List Nat):∀ (env:List AV) (t:Nat),(fP ss env)[t]?=(env[t]?).map (AV.kill ss)
 | [],t=>by simp[fP]
 | v::r,0=>by simp[fP]
 | v::r,t+1=>by simp[fP,gQ ss r t]
theorem kT (ss:List Nat):∀ (env:List AV),(fP ss env).length=env.length
 | []=>rfl
 | v::r=>by simp[fP,kT ss r]
theorem aI.uF (ss:List Nat) (b:aI):Like b (b.kill ss):=by
 cases b with
 | box cs=>simp[aI.kill,Like,kT]
 | arr a ks xs=>exact Like.refl _
 | log on xs=>exact Like.refl _
 | tb t c0 c1=>exact rfl
 | mp t es=>exact Like.refl _
 | br e xs=>exact Like.refl _
theorem AV.NS {ss:List Nat} {v:AV} (h:v.leaf=true):(AV.kill ss v).leaf=true:=by
 unfold AV.kill
 cases AV.refers ss v with
 | true=>rfl
 | false=>exact h
mutual
theorem Ku {s:Nat} {ss:List Nat} (hs:s∈ss):∀ (v:AV),AV.refers ss v=false→AV.refers [s] v=false
 | .undef,_=>rfl
 | .p _,_=>rfl
 | .mO _ _ _ _,_=>rfl
 | .fresh _ _ _,_=>rfl
 | .sJ,_=>rfl
 | .slice x _ _ _,h=>by
  simp only[AV.refers]at *;rw[dK]at *;simp;rintro rfl;exact h hs
 | .bslice x _ _,h=>by
  simp only[AV.refers]at *;rw[dK]at *;simp;rintro rfl;exact h hs
 | .ptr x _ _,h=>by
  simp only[AV.refers]at *;rw[dK]at *;simp;rintro rfl;exact h hs
 | .mref x,h=>by
  simp only[AV.refers]at *;rw[dK]at *;simp;rintro rfl;exact h hs
 | .fn _ cs,h=>by simp only[AV.refers]at *;exact qY hs cs h
 | .agg cs,h=>by simp only[AV.refers]at *;exact qY hs cs h
 | .mG cs,h=>by simp only[AV.refers]at *;exact qY hs cs h
theorem qY {s:Nat} {ss:List Nat} (hs:s∈ss):∀ (cs:List AV),AV.fK ss cs=false→AV.fK [s] cs=false
 | [],_=>rfl
 | v::r,h=>by
  simp only[AV.fK,Bool.or_eq_false_iff]at *
  exact⟨Ku hs v h.1,qY hs r h.2⟩
end
section
variable {w0:Base} {Pr M0 M:Nat→Prop} {β:Nat→Option (Nat × Nat)} {st:St} {a:Act} {w:World}
theorem Rel.congr (r:Rel w0 Pr M0 M β st a w) {hp:Heap} (h:∀ s,look hp s=look st.heap s):Rel w0 Pr M0 M β { st with heap:=hp } a w:=by
 have e:look hp=look st.heap:=funext h
 exact⟨r.lV,by rw[e];exact r.env,by rw[e];exact r.heap,by rw[e];exact r.own,by rw[e];exact r.inj,r.fJ,r.jX,r.oJ,r.keep,r.room,r.size,r.os,r.tape,r.output,r.lK⟩
theorem Rel.kill (r:Rel w0 Pr M0 M β st a w) (ss:List Nat):Rel w0 Pr M0 M β (st.kill ss) a w:=by
 cases ss with
 | nil=>exact r
 | cons s0 sr =>
  have hlk:∀ x,look (fD (s0::sr) st.heap) x=(look st.heap x).map (aI.kill (s0::sr)):=fun x=>fA _ _ _
  have key:∀ (v:AV) (c:Value),AR w M β (look st.heap) v c→AR w M β (look (fD (s0::sr) st.heap)) (AV.kill (s0::sr) v) c:=by
   intro v c h
   unfold AV.kill
   cases hr:AV.refers (s0::sr) v with
   | true=>exact .undef c
   | false =>
    refine h.mono (fun b hb=>⟨hb,rfl⟩) fun s blk _ hl=>⟨blk.kill (s0::sr),?_,aI.uF _ _,rfl,fun _ _ _ _ h=>h⟩
    rw[hlk,hl];rfl
  refine⟨by simp only[St.kill,kT];exact r.lV,?_,?_,?_,?_,r.fJ,r.jX,r.oJ,r.keep,r.room,r.size,r.os,r.tape,r.output,r.lK⟩
  · intro t v hv
    simp only[St.kill,gQ]at hv
    cases he:st.env[t]? with
    | none=>rw[he]at hv;simp at hv
    | some v'=>rw[he]at hv;simp at hv;subst hv;exact key _ _ (r.env t v' he)
  · intro s blk hb
    simp only[St.kill,hlk]at hb
    cases he:look st.heap s with
    | none=>rw[he]at hb;simp at hb
    | some b' =>
     rw[he]at hb;simp at hb;subst hb
     cases r.heap s b' he with
     | box cs b o C e fr h1 h2 h3 h4 h5 h6 =>
      refine .box _ b o C e fr h1 h2 (by rw[kT];exact h3) h4 ?_ ?_
      · intro c hc
        obtain⟨i,hi⟩:=List.mem_iff_getElem?.1 hc
        rw[gQ]at hi
        cases hx:cs[i]? with
        | none=>rw[hx]at hi;simp at hi
        | some x =>
         rw[hx]at hi;simp at hi;subst hi
         unfold AV.kill
         cases AV.refers (s0::sr) x with
         | true=>rfl
         | false=>exact h5 x (List.mem_of_getElem? hx)
      · intro j c hc
        rw[gQ]at hc
        cases hx:cs[j]? with
        | none=>rw[hx]at hc;simp at hc
        | some x=>rw[hx]at hc;simp at hc;subst hc;exact key _ _ (h6 j x hx)
     | fM a ks=>exact .fM a ks
     | log on ys=>exact .log on ys
     | arr a ks xs b o C e fr h1 h2 h3 h4 h5 h6=>exact .arr a ks xs b o C e fr h1 h2 h3 h4 h5 h6
     | tb t c0 c1 b C fr h1 h2 h3 h4 h5 h6 h7 h8=>exact .tb t _ _ b C fr h1 h2 h3 h4 (AV.NS h5) (AV.NS h6) (key _ _ h7) (key _ _ h8)
     | mp t es b o E k h1 h2 h3 h4=>exact .mp t es b o E k h1 h2 h3 h4
     | DR e=>exact .DR e
     | br e xs b C fr h1 h2 h3 h4 g5 g6=>exact .br e xs b C fr h1 h2 h3 h4 g5 g6
  · intro s b o hl hb
    simp only[St.kill,hlk,Option.isSome_map]at hl
    exact r.own s b o hl hb
  · intro s s' b o o' hl hl' h1 h2
    simp only[St.kill,hlk,Option.isSome_map]at hl hl'
    exact r.inj s s' b o o' hl hl' h1 h2
theorem qo {s:Nat} {ss:List Nat} (hs:s∈ss) (v:AV):AV.refers [s] (AV.kill ss v)=false:=by
 unfold AV.kill
 cases h:AV.refers ss v with
 | true=>rfl
 | false=>exact Ku hs v h
theorem Rel.strike (r : Rel w0 Pr M0 M β st a w) (ss : List Nat) {M' : Nat → Prop} (h1 : ∀ b,M b → M' b)
    (h2:∀ b,M' b→M b∨(w0.n0≤b∧∃ s o,s∈ss∧(look st.heap s).isSome=true∧β s=some (b,o))):Rel w0 Pr M0 M' β (st.strike ss) a w:=by
  have hsub:∀ b,M' b→b<w.heap.size:=fun b hb=>by
   rcases h2 b hb with h | ⟨_,s,o,_,h,h'⟩
   · exact r.fJ b h
   · exact(r.own s b o h h').2.1
  have hnew:∀ b,M' b→M0 b∨(w0.n0≤b∧(w0.heap.size≤b∨Pr b)):=fun b hb=>by
   rcases h2 b hb with h | ⟨h,s,o,_,g1,g2⟩
   · exact r.jX b h
   · exact .inr ⟨h,(r.own s b o g1 g2).2.2.1⟩
  cases ss with
  | nil =>
   have e : M' = M := funext fun b => propext ⟨fun hb => by rcases h2 b hb with h | ⟨_, s, o, h, _⟩; · exact h
                                                            · simp at h,h1 b⟩
   rw[e];exact r
  | cons s0 sr =>
   have rk:=r.kill (s0::sr)
   have hlk:∀ x,look (l9 (fD (s0::sr) st.heap) (s0::sr)) x=if x∈s0::sr then none else look (fD (s0::sr) st.heap) x:=fun x=>qm x _ _
   have ac3:∀ x,(look (fD (s0::sr) st.heap) x).isSome=(look st.heap x).isSome:=fun x=>by rw[fA];simp
   have key : ∀ (v : AV) (c : Value),(∀ s,s ∈ s0::sr → AV.refers [s] v = false) → AR w M β (look (fD (s0::sr) st.heap)) v c →
       AR w M' β (look (l9 (fD (s0::sr) st.heap) (s0::sr))) v c:=by
     intro v c hr h
     refine h.mono (fun b hb=>⟨h1 b hb,rfl⟩) fun s blk hrs hl=>⟨blk,?_,Like.refl _,rfl,fun _ _ _ _ h=>h⟩
     rw[hlk,if_neg (fun hm=>by rw[hr s hm]at hrs;cases hrs)];exact hl
   refine⟨rk.lV,?_,?_,?_,?_,hsub,hnew,fun b hb=>h1 b (r.oJ b hb),r.keep,r.room,r.size,r.os,r.tape,r.output,fun p hp=>⟨h1 _ (r.lK p hp).1,(r.lK p hp).2⟩⟩
   · intro t v hv
     refine key v _ ?_ (rk.env t v hv)
     intro s hs
     simp only[St.strike,gQ]at hv
     cases he:st.env[t]? with
     | none=>rw[he]at hv;simp at hv
     | some v'=>rw[he]at hv;simp at hv;subst hv;exact qo hs v'
   · intro s blk hb
     simp only[St.strike,hlk]at hb
     by_cases hm:s∈s0::sr
     · rw[if_pos hm]at hb;cases hb
     · rw[if_neg hm]at hb
       have hb':=hb
       rw[fA]at hb'
       cases he:look st.heap s with
       | none=>rw[he]at hb';simp at hb'
       | some b' =>
        rw[he]at hb';simp at hb'
        cases rk.heap s blk hb with
        | box cs b o C e fr g1 g2 g3 g4 g5 g6 =>
         refine .box _ b o C e fr g1 g2 g3 g4 g5 fun j c hc=>key c _ ?_ (g6 j c hc)
         intro s' hs'
         cases b' with
         | arr a ks xs=>simp[aI.kill]at hb'
         | log on xs=>simp[aI.kill]at hb'
         | tb t c0 c1=>simp[aI.kill]at hb'
         | mp t es=>simp[aI.kill]at hb'
         | br e xs=>simp[aI.kill]at hb'
         | box ds =>
          simp only[aI.kill,aI.box.injEq]at hb'
          rw[← hb',gQ]at hc
          cases hx:ds[j]? with
          | none=>rw[hx]at hc;simp at hc
          | some x=>rw[hx]at hc;simp at hc;subst hc;exact qo hs' x
        | fM a ks=>exact .fM a ks
        | log on ys=>exact .log on ys
        | arr a ks xs b o C e fr g1 g2 g3 g4 g5 g6=>exact .arr a ks xs b o C e fr g1 g2 g3 g4 g5 fun i x j c hi hj=>(g6 i x j c hi hj).mono fun b hb=>⟨h1 b hb,rfl⟩
        | tb t c0 c1 b C fr g1 g2 g3 g4 g5 g6 g7 g8 =>
         cases b' with
         | arr a ks xs=>simp[aI.kill]at hb'
         | log on xs=>simp[aI.kill]at hb'
         | box ds=>simp[aI.kill]at hb'
         | mp t es=>simp[aI.kill]at hb'
         | br e xs=>simp[aI.kill]at hb'
         | tb t' d0 d1 =>
          simp only[aI.kill,aI.tb.injEq]at hb'
          obtain⟨rfl,rfl,rfl⟩:=hb'
          exact .tb _ _ _ b C fr g1 g2 g3 g4 g5 g6 (key _ _ (fun s' hs'=>qo hs' d0) g7) (key _ _ (fun s' hs'=>qo hs' d1) g8)
        | mp t es b o E k g1 g2 g3 g4=>exact .mp t es b o E k g1 g2 g3 fun i p e hi he=>⟨(g4 i p e hi he).1.mono fun b hb=>⟨h1 b hb,rfl⟩,(g4 i p e hi he).2.mono fun b hb=>⟨h1 b hb,rfl⟩⟩
        | DR e=>exact .DR e
        | br e xs b C fr g1 g2 g3 g4 g5 g6=>exact .br e xs b C fr g1 g2 g3 g4 g5 g6
   · intro s b o hl hb
     simp only[St.strike,hlk]at hl
     by_cases hm:s∈s0::sr
     · rw[if_pos hm]at hl;cases hl
     · rw[if_neg hm,ac3]at hl
       obtain⟨g1,g2,g3⟩:=r.own s b o hl hb
       refine⟨fun hM=>?_,g2,g3⟩
       rcases h2 b hM with h | ⟨_,s',o',hs',hl',hb'⟩
       · exact g1 h
       · exact hm (by rw[r.inj s s' b o o' hl hl' hb hb'];exact hs')
   · intro s s' b o o' hl hl' h3 h4
     simp only[St.strike,hlk]at hl hl'
     by_cases hm:s∈s0::sr
     · rw[if_pos hm]at hl;cases hl
     · by_cases hm':s'∈s0::sr
       · rw[if_pos hm']at hl';cases hl'
       · rw[if_neg hm,ac3]at hl
         rw[if_neg hm',ac3]at hl'
         exact r.inj s s' b o o' hl hl' h3 h4
theorem Rel.setEnv (r : Rel w0 Pr M0 M β st a w) (d : Option Nat) {v : AV} {c : Value} (h : AR w M β (look st.heap) v c) :
    Rel w0 Pr M0 M β { st with env:=Skm.setEnv st.env d v } (a.put d c) w:=by
  cases d with
  | none=>exact r
  | some d =>
   refine⟨by simp only[Skm.setEnv,Act.put,List.length_set,Array.size_setIfInBounds];exact r.lV,?_,r.heap,r.own,r.inj,r.fJ,r.jX,r.oJ,r.keep,r.room,r.size,r.os,r.tape,r.output,r.lK⟩
   intro t u hu
   have ht:t<st.env.length:=by
    have:=(List.getElem?_eq_some_iff.1 hu).1
    simpa [Skm.setEnv] using this
   have ht':t<a.tmps.size:=by have:=r.lV;omega
   by_cases hd:d=t
   · subst hd
     simp[Skm.setEnv,ht]at hu
     subst hu
     simpa [Act.put,ht'] using h
   · simp only[Skm.setEnv,List.getElem?_set_ne hd]at hu
     simpa [Act.put,hd,Array.getElem?_setIfInBounds_ne hd] using r.env t u hu
theorem Rel.VL (r : Rel w0 Pr M0 M β st a w) {env : List AV} (hl : env.length = st.env.length) (h : ∀ (t : Nat) (v : AV),env[t]? = some v → v = .undef ∨ st.env[t]? = some v) :
    Rel w0 Pr M0 M β { st with env:=env } a w :=
  ⟨by simpa [hl] using r.lV, fun t v hv => by rcases h t v hv with rfl | h'; · exact .undef _
                                              · exact r.env t v h',r.heap,r.own,r.inj,r.fJ,r.jX,r.oJ,r.keep,r.room,r.size,r.os,r.tape,r.output,r.lK⟩
end
end Go.Skm
namespace Go.Skm
theorem IX {P:Program} {w w':World} {at_ k:Addr} {u:TypeId} {v:Value} {at1:Bool} {l:List Addr} (h:w.viewStore P at_ u k v at1=.ok (w',l)):w'.drawn=w.drawn:=by
 unfold World.viewStore at h
 simp only[bind,Except.bind,pure,Except.pure]at h
 repeat' (split at h<;>try (cases h;done))
 all_goals (first | (cases h;rfl) | (simp only[throw,throwThe,MonadExceptOf.throw]at h;cases h))
theorem Gy {α:Type}:∀ (a:Ask α) (w:World),w.drawn≤(w.ask a).2.drawn
 | .done a,w=>Nat.le_refl _
 | .ask what range k,w=>by
  unfold World.ask
  simp only
  split
  · exact Gy _ w
  · exact Nat.le_trans (Nat.le_succ _) (Gy _ { w with drawn:=w.drawn+1 })
theorem Xh {P:Program} {α:Type}:∀ (s:Sem α) {w w':World} {a:α},s.run P w=.ok a w'→w.drawn≤w'.drawn:=by
 intro s
 induction s with
 | pure a=>intro w w' b h;simp only[Sem.run]at h;cases h;exact Nat.le_refl _
 | load m a k ih =>
  intro w w' b h
  simp only[Sem.run]at h
  split at h
  · exact ih _ h
  · split at h
    · exact ih _ h
    · cases h
 | store m a v k ih =>
  intro w w' b h
  have key:(match w.cell? a with
   | some _ => if w.frozen? a then .halt (.unsupported (.unsafePointer "a write to bytes that a string shares")) w else k.run P (w.setCell a v)
   | none=>match w.farStore P a v (m==.atomic) with
    | .ok (w,_)=>k.run P w
    | .error h=>.halt h w)=Result.ok b w':=by
   cases v<;>first | exact h | (simp only[Sem.run]at h;cases h)
  split at key
  · split at key
    · cases key
    · exact ih (w:=w.setCell a v) key
  · split at key
    · rename_i w2 l hw
      have:w2.drawn=w.drawn:=by
       unfold World.farStore at hw
       split at hw
       · split at hw
         · rename_i r hr
           cases hw
           exact IX hr
         · cases hw
       · cases hw
      rw[← this];exact ih key
    · cases key
 | new o k ih=>intro w w' b h;simp only[Sem.run]at h;exact ih _ (w:={ w with heap:=w.heap.push o }) h
 | shape r k ih=>intro w w' b h;simp only[Sem.run]at h;exact ih _ h
 | freeze a n k ih =>
  intro w w' b h
  simp only[Sem.run]at h
  have:=ih h
  unfold World.freeze at this
  split at this<;>exact this
 | frozen a k ih=>intro w w' b h;simp only[Sem.run]at h;exact ih _ h
 | getObj r k ih =>
  intro w w' b h
  simp only[Sem.run]at h
  split at h
  · cases h
  · exact ih _ h
  · cases h
 | setObj r o k ih =>
  intro w w' b h
  simp only[Sem.run]at h
  split at h
  · cases h
  · exact ih (w:={ w with heap:=w.heap.setIfInBounds r o }) h
  · cases h
 | choose q k ih =>
  intro w w' b h
  simp only[Sem.run]at h
  split at h
  · exact ih _ h
  · exact Nat.le_trans (Nat.le_succ _) (ih _ (w:={ w with drawn:=w.drawn+1 }) h)
 | sys c k ih =>
  intro w w' b h
  simp only[Sem.run]at h
  refine Nat.le_trans ?_ (ih _ h)
  unfold World.sys
  have:=Gy (Kernel.perform c w.os) w
  split
  · exact Nat.le_refl _
  · rename_i r os w2 hr
    rw[hr]at this
    exact this
 | program k ih=>intro w w' b h;simp only[Sem.run]at h;exact ih _ h
 | mark m k ih=>intro w w' b h;simp only[Sem.run]at h;exact ih h
 | halt h0=>intro w w' b h;simp only[Sem.run]at h;cases h
section
variable {w0:Base} {Pr M0 M:Nat→Prop} {β:Nat→Option (Nat × Nat)} {st:St} {a:Act} {w:World}
theorem Room.of_block {w w':World} {b n:Nat} (h:w'.heap[b]?=w.heap[b]?) (hr:Room w b n):Room w' b n:=by
 obtain⟨C,e,fr,h1,h2,h3⟩:=hr
 exact⟨C,e,fr,by rw[h];exact h1,h2,h3⟩
theorem Room.mono {w:World} {b n m:Nat} (hr:Room w b (2*n)) (h:m≤n):Room w b (2*m):=by
 obtain⟨C,e,fr,h1,h2,h3⟩:=hr.get
 exact Room.mk h1 (by omega) h3
theorem Rel.world (r : Rel w0 Pr M0 M β st a w) {w' : World} {M' : Nat → Prop} (hsz : w.heap.size ≤ w'.heap.size) (hos : w'.os = w.os) (htp : w'.tape = w.tape) (hop : w'.output = w.output)
    (hb:∀ b,b<w.heap.size→(M b∨(∃ s o,(look st.heap s).isSome=true∧β s=some (b,o))∨(b<w0.heap.size∧¬ Pr b))→w'.heap[b]?=w.heap[b]?)
    (hrm:∀ b n,b<w0.n0→b<w.heap.size→Pr b→Room w b n→Room w' b n) (h1:∀ b,M b→M' b) (h2:∀ b,M' b→M b∨(w.heap.size≤b∧b<w'.heap.size)):Rel w0 Pr M0 M' β st a w':=by
  have hM:∀ b,M b→M' b∧w'.heap[b]?=w.heap[b]?:=fun b h=>⟨h1 b h,hb b (r.fJ b h) (.inl h)⟩
  have hB:∀ s b o,(look st.heap s).isSome=true→β s=some (b,o)→w'.heap[b]?=w.heap[b]?:=fun s b o h3 h4=>hb b (r.own s b o h3 h4).2.1 (.inr (.inl ⟨s,o,h3,h4⟩))
  have key:∀ (v:AV) (c:Value),AR w M β (look st.heap) v c→AR w' M' β (look st.heap) v c:=fun v c h =>
   h.mono hM fun s blk _ hl=>⟨blk,hl,Like.refl _,rfl,fun b o n h3 hr=>hr.of_block (hB s b o (by rw[hl];rfl) h3)⟩
  refine⟨r.lV,fun t v h=>key _ _ (r.env t v h),?_,?_,r.inj,?_,?_,fun b h=>h1 b (r.oJ b h),?_,fun b n h3 h4 h5=>hrm b n h3 (by have:=r.size;have:=w0.le';omega) h4 (r.room b n h3 h4 h5),by have:=r.size;omega,hos.trans r.os,htp.trans r.tape,hop.trans r.output,fun p hp=>⟨(hM _ (r.lK p hp).1).1,(hM _ (r.lK p hp).1).2.trans (r.lK p hp).2⟩⟩
  · intro s blk hl
    have hi:(look st.heap s).isSome=true:=by rw[hl];rfl
    cases r.heap s blk hl with
    | box cs b o C e fr g1 g2 g3 g4 g5 g6=>exact .box _ b o C e fr g1 (by rw[hB s b o hi g1];exact g2) g3 g4 g5 fun j c hc=>key _ _ (g6 j c hc)
    | fM a ks=>exact .fM a ks
    | log on ys=>exact .log on ys
    | arr a ks xs b o C e fr g1 g2 g3 g4 g5 g6=>exact .arr a ks xs b o C e fr g1 (by rw[hB s b o hi g1];exact g2) g3 g4 g5 fun i x j c hx hc=>(g6 i x j c hx hc).mono hM
    | tb t c0 c1 b C fr g1 g2 g3 g4 g5 g6 g7 g8=>exact .tb t c0 c1 b C fr g1 (by rw[hB s b 0 hi g1];exact g2) g3 g4 g5 g6 (key _ _ g7) (key _ _ g8)
    | mp t es b o E k g1 g2 g3 g4=>exact .mp t es b o E k g1 (by rw[hB s b o hi g1];exact g2) g3 fun i p e hi he=>⟨(g4 i p e hi he).1.mono hM,(g4 i p e hi he).2.mono hM⟩
    | DR e=>exact .DR e
    | br e xs b C fr g1 g2 g3 g4 g5 g6=>exact .br e xs b C fr g1 (by rw[hB s b 0 hi g1];exact g2) g3 g4 g5 g6
  · intro s b o hl h3
    obtain⟨g1,g2,g3⟩:=r.own s b o hl h3
    refine⟨fun hm=>?_,by omega,g3⟩
    rcases h2 b hm with h | h
    · exact g1 h
    · omega
  · intro b h
    rcases h2 b h with h | h
    · have:=r.fJ b h;omega
    · omega
  · intro b h
    rcases h2 b h with h | h
    · exact r.jX b h
    · right;have:=r.size;have:=w0.le';exact⟨by omega,.inl (by omega)⟩
  · intro b h3 h4
    rw[hb b (by have:=r.size;omega) (.inr (.inr ⟨h3,h4⟩)),r.keep b h3 h4]
theorem Rel.lay (r : Rel w0 Pr M0 M β st a w) {s : Nat} {blk : aI} (hs : look st.heap s = none) {p : Option (Nat × Nat)}
    (hp:∀ b o,p=some (b,o)→¬ M b∧b<w.heap.size∧((w0.heap.size≤b∨Pr b)∧(w0.n0≤b∨ah≤s))∧(∀ s' o',(look st.heap s').isSome=true→β s'≠some (b,o')))
    (hb:BR w M (fun x=>if x=s then p else β x) (fun x=>if x=s then some blk else look st.heap x) s blk) :
    Rel w0 Pr M0 M (fun x=>if x=s then p else β x) { st with heap:=put st.heap s blk } a w:=by
  have hlk:look (put st.heap s blk)=fun x=>if x=s then some blk else look st.heap x:=funext fun x=>aV _ _ _ _
  have key:∀ (v:AV) (c:Value),AR w M β (look st.heap) v c→AR w M (fun x=>if x=s then p else β x) (look (put st.heap s blk)) v c:=by
   intro v c h
   refine h.mono (fun b hb=>⟨hb,rfl⟩) fun s' blk' _ hl=>?_
   have hne:s'≠s:=by rintro rfl;rw[hs]at hl;cases hl
   exact⟨blk',by rw[hlk];simp only[if_neg hne];exact hl,Like.refl _,by simp only[if_neg hne],fun _ _ _ _ h=>h⟩
  refine⟨r.lV,fun t v h=>key _ _ (r.env t v h),?_,?_,?_,r.fJ,r.jX,r.oJ,r.keep,r.room,r.size,r.os,r.tape,r.output,r.lK⟩
  · intro s' b' hl
    by_cases hne:s'=s
    · subst hne
      rw[hlk]at hl;simp only[if_true,Option.some.injEq]at hl;subst hl
      show BR w M _ (look (put st.heap s' blk)) s' blk
      rw[hlk];exact hb
    · simp only[hlk,if_neg hne]at hl
      cases r.heap s' b' hl with
      | box cs b o C e fr g1 g2 g3 g4 g5 g6=>exact .box _ b o C e fr (by simp only[if_neg hne];exact g1) g2 g3 g4 g5 fun j c hc=>key _ _ (g6 j c hc)
      | fM a ks=>exact .fM a ks
      | log on ys=>exact .log on ys
      | arr a ks xs b o C e fr g1 g2 g3 g4 g5 g6=>exact .arr a ks xs b o C e fr (by simp only[if_neg hne];exact g1) g2 g3 g4 g5 g6
      | tb t c0 c1 b C fr g1 g2 g3 g4 g5 g6 g7 g8=>exact .tb t c0 c1 b C fr (by simp only[if_neg hne];exact g1) g2 g3 g4 g5 g6 (key _ _ g7) (key _ _ g8)
      | mp t es b o E k g1 g2 g3 g4=>exact .mp t es b o E k (by simp only[if_neg hne];exact g1) g2 g3 g4
      | DR e=>exact .DR e
      | br e xs b C fr g1 g2 g3 g4 g5 g6=>exact .br e xs b C fr (by simp only[if_neg hne];exact g1) g2 g3 g4 g5 g6
  · intro s' b o hl h1
    by_cases hne:s'=s
    · subst hne;simp only[if_true]at h1
      obtain⟨g1,g2,g3,_⟩:=hp b o h1
      exact⟨g1,g2,g3⟩
    · simp only[hlk,if_neg hne]at hl h1;exact r.own s' b o hl h1
  · intro s' s'' b o o' hl hl' h1 h2
    by_cases hne:s'=s
    · subst hne
      by_cases hne':s''=s'
      · exact hne'.symm
      · simp only[if_true,if_neg hne']at h1 h2
        simp only[hlk,if_neg hne']at hl'
        exact absurd h2 ((hp b o h1).2.2.2 s'' o' hl')
    · by_cases hne':s''=s
      · subst hne'
        simp only[if_true,if_neg hne]at h1 h2
        simp only[hlk,if_neg hne]at hl
        exact absurd h1 ((hp b o' h2).2.2.2 s' o hl)
      · simp only[if_neg hne,if_neg hne']at h1 h2
        simp only[hlk,if_neg hne]at hl
        simp only[hlk,if_neg hne']at hl'
        exact r.inj s' s'' b o o' hl hl' h1 h2
theorem Rel.Zk (r : Rel w0 Pr M0 M β st a w) {s b : Nat} {blk blk' : aI} {o : Nat} {w' : World} {C C' : Array Value} {e : TypeId} {fr fr' : Nat × Nat}
    (hs:look st.heap s=some blk) (hl:Like blk blk') (hb:β s=some (b,o)) (hw:w.heap[b]?=some (.cells C e fr)) (hw':w'.heap=w.heap.setIfInBounds b (.cells C' e fr')) (hfr:Open C fr→Open C' fr')
    (hC:C'.size=C.size) (hos:w'.os=w.os) (htp:w'.tape=w.tape) (hop:w'.output=w.output)
    (hB:(∀ (v:AV) (c:Value),AR w M β (look st.heap) v c→AR w' M β (fun x=>if x=s then some blk' else look st.heap x) v c)→(∀ (v:PV) (c:Value),VR w M v c→VR w' M v c) →
      w'.heap[b]?=some (.cells C' e fr')→BR w' M β (fun x=>if x=s then some blk' else look st.heap x) s blk') :
    Rel w0 Pr M0 M β { st with heap:=put st.heap s blk' } a w':=by
  have hi:(look st.heap s).isSome=true:=by rw[hs];rfl
  obtain⟨o1,o2,o3⟩:=r.own s b o hi hb
  have hlk:look (put st.heap s blk')=fun x=>if x=s then some blk' else look st.heap x:=funext fun x=>aV _ _ _ _
  have hsz:w'.heap.size=w.heap.size:=by rw[hw'];simp
  have hne:∀ b',b'≠b→w'.heap[b']?=w.heap[b']?:=fun b' h=>by rw[hw',Array.getElem?_setIfInBounds_ne (fun e=>h e.symm)]
  have hself:w'.heap[b]?=some (.cells C' e fr'):=by rw[hw'];simp[o2]
  have hM:∀ b',M b'→M b'∧w'.heap[b']?=w.heap[b']?:=fun b' h=>⟨h,hne b' fun e=>o1 (e▸h)⟩
  have hroom:∀ b' n,Room w b' n→Room w' b' n:=by
   intro b' n hr
   by_cases h:b'=b
   · subst h
     obtain⟨C1,e1,Rh,h1,h2,h3⟩:=hr
     rw[hw]at h1;cases h1
     exact⟨C',e,fr',hself,by omega,fun h=>hfr (h3 h)⟩
   · exact hr.of_block (hne b' h)
  have key:∀ (v:AV) (c:Value),AR w M β (look st.heap) v c→AR w' M β (fun x=>if x=s then some blk' else look st.heap x) v c:=by
   intro v c h
   refine h.mono hM fun s' b' _ h1=>?_
   by_cases h2:s'=s
   · subst h2;rw[hs]at h1;cases h1
     exact⟨blk',by simp,hl,rfl,fun b o n _ hr=>hroom b n hr⟩
   · exact⟨b',by simp only[if_neg h2];exact h1,Like.refl _,rfl,fun b o n _ hr=>hroom b n hr⟩
  refine⟨r.lV,fun t v h=>by rw[hlk];exact key _ _ (r.env t v h),?_,?_,?_,fun b' h=>by rw[hsz];exact r.fJ b' h,r.jX,r.oJ,?_,fun b' n h1 h2 h3=>hroom b' n (r.room b' n h1 h2 h3),by rw[hsz];exact r.size,hos.trans r.os,htp.trans r.tape,hop.trans r.output,fun p hp=>⟨(hM _ (r.lK p hp).1).1,(hM _ (r.lK p hp).1).2.trans (r.lK p hp).2⟩⟩
  · intro s' b' h1
    show BR w' M β (look (put st.heap s blk')) s' b'
    by_cases h2:s'=s
    · subst h2
      simp only[hlk,if_true,Option.some.injEq]at h1;subst h1
      rw[hlk];exact hB key (fun v c h=>h.mono hM) hself
    · simp only[hlk,if_neg h2]at h1
      have hi':(look st.heap s').isSome=true:=by rw[h1];rfl
      rw[hlk]
      cases r.heap s' b' h1 with
      | box cs b1 o1 C1 e1 Rh g1 g2 g3 g4 g5 g6 =>
       exact .box _ b1 o1 C1 e1 Rh g1 (by rw[hne b1 fun e=>h2 (r.inj s' s b _ _ hi' hi (e▸g1) hb)];exact g2) g3 g4 g5 fun j c hc=>key _ _ (g6 j c hc)
      | fM a ks=>exact .fM a ks
      | log on ys=>exact .log on ys
      | arr a ks xs b1 o1 C1 e1 Rh g1 g2 g3 g4 g5 g6 =>
       exact .arr a ks xs b1 o1 C1 e1 Rh g1 (by rw[hne b1 fun e=>h2 (r.inj s' s b _ _ hi' hi (e▸g1) hb)];exact g2) g3 g4 g5 fun i x j c hx hc=>(g6 i x j c hx hc).mono hM
      | tb t c0 c1 b1 C1 Rh g1 g2 g3 g4 g5 g6 g7 g8 =>
       exact .tb t c0 c1 b1 C1 Rh g1 (by rw[hne b1 fun e=>h2 (r.inj s' s b _ _ hi' hi (e▸g1) hb)];exact g2) g3 g4 g5 g6 (key _ _ g7) (key _ _ g8)
      | mp t es b1 o1 E k g1 g2 g3 g4 =>
       exact .mp t es b1 o1 E k g1 (by rw[hne b1 fun e=>h2 (r.inj s' s b _ _ hi' hi (e▸g1) hb)];exact g2) g3 fun i p e hi he=>⟨(g4 i p e hi he).1.mono hM,(g4 i p e hi he).2.mono hM⟩
      | DR e=>exact .DR e
      | br e xs b1 C fr g1 g2 g3 g4 g5 g6=>exact .br e xs b1 C fr g1 (by rw[hne b1 fun e=>h2 (r.inj s' s b _ _ hi' hi (e▸g1) hb)];exact g2) g3 g4 g5 g6
  · intro s' b' o' h1 h2
    rw[hsz]
    by_cases h3:s'=s
    · subst h3;exact r.own s' b' o' hi h2
    · simp only[hlk,if_neg h3]at h1;exact r.own s' b' o' h1 h2
  · intro s' s'' b' o1 o2 h1 h2 h3 h4
    have hx:∀ x,(look (put st.heap s blk') x).isSome=true→(look st.heap x).isSome=true:=by
     intro x hx
     by_cases h:x=s
     · subst h;exact hi
     · simpa only[hlk,if_neg h] using hx
    exact r.inj s' s'' b' o1 o2 (hx _ h1) (hx _ h2) h3 h4
  · intro b' h1 h2
    rw[hne b' ?_,r.keep b' h1 h2]
    rintro rfl
    rcases o3.1 with h | h
    · omega
    · exact h2 h
theorem Rel.write (r : Rel w0 Pr M0 M β st a w) {s b : Nat} {blk blk' : aI} {o : Nat} {w' : World} {C C' : Array Value} {e : TypeId} {fr : Nat × Nat}
    (hs:look st.heap s=some blk) (hl:Like blk blk') (hb:β s=some (b,o)) (hw:w.heap[b]?=some (.cells C e fr)) (hw':w'.heap=w.heap.setIfInBounds b (.cells C' e fr))
    (hC:C'.size=C.size) (hos:w'.os=w.os) (htp:w'.tape=w.tape) (hop:w'.output=w.output)
    (hB:(∀ (v:AV) (c:Value),AR w M β (look st.heap) v c→AR w' M β (fun x=>if x=s then some blk' else look st.heap x) v c)→(∀ (v:PV) (c:Value),VR w M v c→VR w' M v c) →
      w'.heap[b]?=some (.cells C' e fr)→BR w' M β (fun x=>if x=s then some blk' else look st.heap x) s blk') :
    Rel w0 Pr M0 M β { st with heap:=put st.heap s blk' } a w' :=
  r.Zk hs hl hb hw hw' (fun h=>h.size hC) hC hos htp hop hB
end
theorem NT {w:World} {M:Nat→Prop} {v:Value} {x:PV} (h:Pv v=some x):VR w M x v∧x.leaf=true:=by
 unfold Pv at h
 split at h<;>first | (cases h;refine⟨?_,rfl⟩;constructor) | cases h
theorem Ia {w:World} {M:Nat→Prop}:∀ {l:List Value} {xs:List PV},yg l=some xs→xs.length=l.length∧(∀ x∈xs,x.leaf=true)∧∀ (i:Nat) (x:PV),xs[i]?=some x→∃ v,l[i]?=some v∧VR w M x v
 | [],xs,h=>by simp[yg]at h;subst h;simp
 | v::r,xs,h=>by
  simp only[yg]at h
  split at h
  · rename_i x ys h1 h2
    cases h
    obtain⟨g1,g2,g3⟩:=Ia (w:=w) (M:=M) h2
    obtain⟨k1,k2⟩:=NT (w:=w) (M:=M) h1
    refine⟨by simp[g1],?_,?_⟩
    · intro y hy
      rcases List.mem_cons.1 hy with rfl | hy
      · exact k2
      · exact g2 y hy
    · intro i y hi
      cases i with
      | zero=>simp at hi;subst hi;exact⟨v,by simp,k1⟩
      | succ i=>simp at hi;simpa using g3 i y hi
  · cases h
theorem DU {w:World} {M:Nat→Prop} {v:Value} {x:PV} (h:ofValue v=some x):VR w M x v:=by
 unfold ofValue at h
 split at h
 · rename_i cs
   cases h1:yg cs.toList with
   | none=>rw[h1]at h;cases h
   | some ys =>
    rw[h1]at h;cases h
    obtain⟨g1,g2,g3⟩:=Ia (w:=w) (M:=M) h1
    refine .agg ys cs (by simpa using g1.symm) g2 fun i c hi=>?_
    obtain⟨v,h4,h5⟩:=g3 i c hi
    have:cs.getD i undef=v:=by
     have:cs[i]?=some v:=by simpa using h4
     simp[this]
    rw[this];exact h5
 · exact(NT h).1
section
variable {w0:Base} {Pr M0 M:Nat→Prop} {β:Nat→Option (Nat × Nat)} {st:St} {a:Act} {w:World}
theorem aaW {env:List AV} {t:Nat}:env.getD t .undef=.undef∨env[t]?=some (env.getD t .undef):=by
 by_cases h:t<env.length
 · right;simp[h]
 · left;simp[List.getD,List.getElem?_eq_none (by omega:env.length≤t)]
theorem Rel.slot (r:Rel w0 Pr M0 M β st a w) (t:Nat):AR w M β (look st.heap) (st.env.getD t .undef) (a.tmps.getD t undef):=by
 rcases aaW (env:=st.env) (t:=t) with h | h
 · rw[h];exact .undef _
 · exact r.env t _ h
theorem Rel.aU (r:Rel w0 Pr M0 M β st a w) (x:Operand):AR w M β (look st.heap) (Skm.aU st.env x) (a.eval x):=by
 cases x with
 | tmp t=>exact r.slot t
 | const v =>
  simp only[Skm.aU,Act.eval]
  split
  · rename_i x h;exact .p _ _ (DU h)
  · exact .undef _
 | global g=>exact .undef _
 | func f=>exact .p _ _ (.fn f [] #[] rfl fun i c h=>by simp at h)
end
end Go.Skm
namespace Go.Skm
def yB (e:TypeId) (w:World) (v:Value) (q:Option (Nat × Nat)) (cs:List Value):Prop :=
 (q=none∧cs=[]∧v=.slice none 0 0) ∨
 ∃ b cap C fr,q=some (b,0)∧v=.slice (some ⟨b,0,none⟩) cs.length cap∧cs.length≤cap∧0<cs.length∧w.heap[b]?=some (.cells C e fr)∧cap≤C.size∧Past cs.length fr∧∀ (j:Nat) (c:Value),cs[j]?=some c→C.getD j undef=c
def zJ (l:List UInt8):List Value:=l.map fun x=>.int .u8 x.toNat
structure NU (e:TypeId) (w:World) (t:TypeId) (b:Nat) (q:Option (Nat × Nat)) (cs:List Value) (C:Array Value) (fr:Nat × Nat):Prop where
 hw:w.heap[b]?=some (.cells C t fr)
 hn:C.size=2
 ho:Open C fr
 h0:C.getD 0 undef=.pointer none∨C.getD 0 undef=.pointer (some ⟨b,0,none⟩)
 h1:yB e w (C.getD 1 undef) q cs
 bytes:∀ c∈cs,∃ n,c=.int .u8 n
 ne:∀ o,q≠some (b,o)
structure EZ (w:World) (b:Nat) (q:Option (Nat × Nat)) (w':World):Prop where
 keep:∀ k,k<w.heap.size→k≠b→(∀ o,q≠some (k,o))→w'.heap[k]?=w.heap[k]?
 size:w.heap.size≤w'.heap.size
 os:w'.os=w.os
 tape:w'.tape=w.tape
 output:w'.output=w.output
 drawn:w.drawn≤w'.drawn
structure PN (e:TypeId) (w:World) (t:TypeId) (b:Nat) (q:Option (Nat × Nat)) (cs:List Value) (fr:Nat × Nat) (w':World):Prop extends EZ w b q w' where
 put:∃ v' q',w'.heap[b]?=some (.cells #[.pointer (some ⟨b,0,none⟩),v'] t fr)∧yB e w' v' q' cs∧∀ g o,q'=some (g,o)→g≠b∧((∃ o',q=some (g,o'))∨w.heap.size≤g)
def VN (P:Program) (f:FuncId) (ts:List TypeId) (e:TypeId):Prim→Prop
 | .none=>True
 | .Zb => ∀ t ∈ ts,∀ (w : World) (b : Nat) (q : Option (Nat × Nat)) (cs : List Value) (C : Array Value) (fr : Nat × Nat) (x : ByteArray),NU e w t b q cs C fr → cs.length + x.size ≤ 2147483648 →
     Calls P f #[.pointer (some ⟨b,0,none⟩),.string x] w fun r w'=>r=.returned (.tuple #[.int .i64 x.size,.nilIface])∧PN e w t b q (cs++zJ x.data.toList) fr w'
 | .Zc => ∀ t ∈ ts,∀ (w : World) (b : Nat) (q : Option (Nat × Nat)) (cs : List Value) (C : Array Value) (fr : Nat × Nat) (n : Int),NU e w t b q cs C fr → cs.length + 1 ≤ 2147483648 →
     Calls P f #[.pointer (some ⟨b,0,none⟩),.int .u8 n] w fun r w'=>r=.returned .nilIface∧PN e w t b q (cs++[.int .u8 n]) fr w'
 | .str => ∀ t ∈ ts,∀ (w : World) (b : Nat) (q : Option (Nat × Nat)) (l : List UInt8) (C : Array Value) (fr : Nat × Nat),NU e w t b q (zJ l) C fr → l.length ≤ 2147483648 →
     Calls P f #[.pointer (some ⟨b,0,none⟩)] w fun r w'=>r=.returned (.string ⟨l.toArray⟩)∧EZ w b q w'∧w'.heap[b]?=w.heap[b]?∧∀ g o,q=some (g,o)→∃ C e fr fr',w.heap[g]?=some (.cells C e fr)∧w'.heap[g]?=some (.cells C e fr')∧Past l.length fr'
structure bP (P:Program) (T:Tab):Prop where
 types:∀ t i,bG T.types t=some i→nO P t=some i
 funcs : ∀ f fi, bG T.funcs f = some fi → P.funcs[f]? = some fi.fn ∧ (fi.fn.name == "runtime.NumGoroutine") = false ∧ (∀ c, fi.fn.body = some c → iD T fi.hides c = true) ∧
  (fi.cfg.zD=false→fi.cfg.shares=false→lT T fi.cfg.rets fi.fn.resultTypes.toList=true)
 mixed:P.follows .mixedOrders=true
 nvars:∀ f fi,bG T.funcs f=some fi→fi.cfg.nvars≤100000
 aeF:∀ f fi,bG T.funcs f=some fi→fi.cfg.zT.is=true→(∃ c,fi.fn.body=some c)∧VN P f fi.cfg.Gi fi.cfg.JR fi.cfg.zT
section
variable {P:Program} {T:Tab} (ok:bP P T)
include ok
theorem bP.ti {t : TypeId} {i : TI} (h : bG T.types t = some i) : ∃ d j,P.underlying t = some d ∧ P.info? t = some j ∧
    i={ desc:=d,size:=j.size,bytes:=j.bytes,agg:=tY P t,sh:=aX P 8 t,zero:=j.zero.bind ofValue,plain:=JU P t }:=by
  have:=ok.types t i h
  unfold nO at this
  split at this
  · rename_i d j h1 h2
    exact⟨d,j,h1,h2,by simpa using this.symm⟩
  · cases this
theorem bP.und {t:TypeId} {d:TypeDesc} (h:Skm.und T t=some d):P.underlying t=some d:=by
 unfold Skm.und at h
 cases h1:bG T.types t with
 | none=>rw[h1]at h;cases h
 | some i =>
  obtain⟨d',j,h2,_,h4⟩:=ok.ti h1
  rw[h1]at h;subst h4;simp at h;subst h;exact h2
theorem bP.size {t:TypeId} {n:Nat} (h:mP T t=some n):∃ i,P.info? t=some i∧i.size=n:=by
 unfold mP at h
 cases h1:bG T.types t with
 | none=>rw[h1]at h;cases h
 | some i =>
  obtain⟨d',j,_,h3,h4⟩:=ok.ti h1
  rw[h1]at h;subst h4;simp at h;exact⟨j,h3,h⟩
theorem bP.bytes {t:TypeId} {n:Nat} (h:EL T t=some n):∃ i,P.info? t=some i∧i.bytes=n:=by
 unfold EL at h
 cases h1:bG T.types t with
 | none=>rw[h1]at h;cases h
 | some i =>
  obtain⟨d',j,_,h3,h4⟩:=ok.ti h1
  rw[h1]at h;subst h4;simp at h;exact⟨j,h3,h⟩
theorem bP.zero {t:TypeId} {z:PV} (h:Hz T t=some z):∃ i v,P.info? t=some i∧i.zero=some v∧ofValue v=some z:=by
 unfold Hz at h
 cases h1:bG T.types t with
 | none=>rw[h1]at h;cases h
 | some i =>
  obtain⟨d',j,_,h3,h4⟩:=ok.ti h1
  rw[h1]at h;subst h4;simp at h
  cases h5:j.zero with
  | none=>rw[h5]at h;cases h
  | some v=>rw[h5]at h;exact⟨j,v,h3,h5,by simpa using h⟩
theorem bP.agg {t:TypeId} {n:Nat} (h:mP T t=some n):Ze T t=tY P t:=by
 unfold mP at h
 unfold Ze
 cases h1:bG T.types t with
 | none=>rw[h1]at h;cases h
 | some i =>
  obtain⟨d',j,_,h3,h4⟩:=ok.ti h1
  subst h4;rfl
theorem bP.plain {t:TypeId} (h:Gj T t=true):JU P t=true:=by
 unfold Gj at h
 cases h1:bG T.types t with
 | none=>rw[h1]at h;cases h
 | some i =>
  obtain⟨d',j,_,h3,h4⟩:=ok.ti h1
  rw[h1]at h;subst h4;exact h
end
theorem aZ {P:Program} {t:TypeId} {d:TypeDesc} (h:P.underlying t=some d) (w:World):(underlying t).run P w=.ok d w:=by
 simp[underlying,h]
theorem nX {P:Program} {t:TypeId} {i:TypeInfo} (h:P.info? t=some i) (w:World):(typeInfo t).run P w=.ok i w:=by
 simp[typeInfo,h]
theorem fE {P:Program} {t:TypeId} {i:TypeInfo} (h:P.info? t=some i) (w:World):(sizeOf t).run P w=.ok i.size w:=by
 simp[sizeOf,nX h]
theorem kU {P:Program} {t:TypeId} {d:TypeDesc} (h:P.underlying t=some d) (w:World):(isAgg t).run P w=.ok (tY P t) w:=by
 unfold isAgg tY
 simp only[h,Sem.run_bind,aZ h,Result.andThen_ok]
 cases d<;>rfl
structure aj (P:Program) (w:World) (M:Nat→Prop) (β:Nat→Option (Nat × Nat)) (h:Nat→Option aI) (D:DT) (sem:Sem Value):Prop where
 Zl:∀ (α:Type) (k:Eff→Option α) (r:α),D.run k=some r→∃ v c,k { val:=v }=some r∧AR w M β h v c∧sem.run P w=.ok c w
theorem PO {α:Type} {c:Bool} {x:DT} {k:Eff→Option α} {r:α} (h:(chk c x).run k=some r):c=true∧x.run k=some r:=by
 cases c
 · simp[chk,DT.run]at h
 · exact⟨rfl,by simpa [chk,DT.run] using h⟩
section
variable {P:Program} {T:Tab} {w:World} {M:Nat→Prop} {β:Nat→Option (Nat × Nat)} {h:Nat→Option aI}
theorem aj.ret {v:AV} {c:Value} {sem:Sem Value} (h1:AR w M β h v c) (h2:sem.run P w=.ok c w):aj P w M β h (.ret { val:=v }) sem :=
 ⟨fun _ _ _ hk=>⟨v,c,hk,h1,h2⟩⟩
theorem aj.fail {sem:Sem Value}:aj P w M β h .fail sem:=⟨fun _ _ _ hk=>by simp[DT.run]at hk⟩
theorem aj.chk {c:Bool} {D:DT} {sem:Sem Value} (h1:c=true→aj P w M β h D sem):aj P w M β h (Skm.chk c D) sem :=
 ⟨fun α k r hk=>by obtain⟨h2,h3⟩:=PO hk;exact(h1 h2).Zl α k r h3⟩
theorem aj.ite {c:Bool} {D E:DT} {sem:Sem Value} (h1:c=true→aj P w M β h D sem) (h2:c=false→aj P w M β h E sem):aj P w M β h (.ite c D E) sem:=by
 refine⟨fun α k r hk=>?_⟩
 cases c
 · exact(h2 rfl).Zl α k r (by simpa [DT.run] using hk)
 · exact(h1 rfl).Zl α k r (by simpa [DT.run] using hk)
theorem AR.zK {k:IntKind} {n:Int} {c:Value} (h1:AR w M β h (.p (.int k n)) c):c=.int k n:=by
 cases h1;rename_i h2;cases h2;rfl
theorem AR.zf {b:Bool} {c:Value} (h1:AR w M β h (.p (.bool b)) c):c=.bool b:=by
 cases h1;rename_i h2;cases h2;rfl
theorem AR.Kv {s:ByteArray} {c:Value} (h1:AR w M β h (.p (.str s)) c):c=.string s:=by
 cases h1;rename_i h2;cases h2;rfl
theorem AR.int (k:IntKind) (n:Int):AR w M β h (.p (.int k n)) (.int k n):=.p _ _ (.int k n)
theorem AR.bool (b:Bool):AR w M β h (.p (.bool b)) (.bool b):=.p _ _ (.bool b)
theorem AR.str (s:ByteArray):AR w M β h (.p (.str s)) (.string s):=.p _ _ (.str s)
theorem Kw:∀ (x y:List UInt8),yT x y=Op.bytesLess x y
 | [],[]=>rfl
 | _::_,[]=>rfl
 | [],_::_=>rfl
 | a::x,b::y=>by simp[yT,Op.bytesLess,Kw x y]
theorem ac4 {op:UnOp} {x:AV} {c:Value} (hx:AR w M β h x c):aj P w M β h (JW op x) (Op.unary op c):=by
 unfold JW
 split
 · rw[hx.zK]
   exact aj.ret (.int _ _) (by simp[Op.unary,Op.intArith])
 · rw[hx.zf]
   exact aj.ret (.bool _) (by simp[Op.unary])
 · exact aj.fail
theorem Uk {op:BinOp} {j:IntKind} {a b:Int} {v:PV} (hv:Ud op j a b=some v) (t:TypeId):∃ c,VR w M v c∧(binOp op t (.int j a) (.int j b)).run P w=.ok c w:=by
 unfold Ud at hv
 split at hv<;>first
  | (cases hv;exact⟨_,.int _ _,by simp[binOp,Op.intArith,Op.intBits]⟩)
  | (cases hv;exact⟨_,.bool _,by simp[binOp,Op.intCmp]⟩)
  | cases hv
theorem Ul {op:BinOp} {a b:ByteArray} {v:PV} (hv:Ue op a b=some v) (t:TypeId):∃ c,VR w M v c∧(binOp op t (.string a) (.string b)).run P w=.ok c w:=by
 unfold Ue at hv
 split at hv<;>first
  | (cases hv;exact⟨_,.bool _,by simp[binOp,Op.stringOp,Kw]⟩)
  | cases hv
theorem Xi (ok : bP P T) {d : Nat} {t : TypeId} {x y : PV} {vx vy : Value} {b : Bool} (hl : JV (und T t) x y = some b) (hx : VR w M x vx) (hy : VR w M y vy) :
    (Op.equalIn (d+1) t vx vy).run P w=.ok b w:=by
  unfold JV at hl
  split at hl
  · cases hx;cases hy
    split at hl
    · rename_i h
      rename_i j1 x1 k1 y1 _ _
      by_cases hjk:j1=k1
      · subst hjk
        simp at hl;subst hl
        exact run_equalIn_int w d t _ _ _ _ (ok.und h)
      · have:(j1==k1)=false:=by simpa using hjk
        simp[this]at hl
    · cases hl
  · cases hx;cases hy
    split at hl
    · rename_i h
      cases hl
      exact run_equalIn_bool w d t _ _ (ok.und h)
    · cases hl
  · cases hx;cases hy
    split at hl
    · rename_i h
      cases hl
      rw[run_equalIn_string w d t _ _ (ok.und h),beq_toListBytes]
    · cases hl
  · cases hl
theorem getD_some {vs:Array Value} {i:Nat} (h:i<vs.size):vs[i]?=some (vs.getD i undef):=by
 rw[Array.getElem?_eq_getElem h];simp[Array.getD,h]
def Rep (P:Program) (w:World) (M:Nat→Prop) (t:TypeId) (xs:List PV) (v:Value):Prop :=
 if tY P t=true then ∃ vs:Array Value,v=.agg vs∧vs.size=xs.length∧∀ (i:Nat) (c:PV),xs[i]?=some c→VR w M c (vs.getD i undef) else ∃ x,xs=[x]∧VR w M x v
theorem VO (ok : bP P T) {g : TypeId → List PV → List PV → Option Bool} {gp : TypeId → Bool} {d : Nat} {xs ys : Array Value}
    (hg:∀ t as bs b va vb,gp t=true→g t as bs=some b→Rep P w M t as va→Rep P w M t bs vb→(Op.equalIn d t va vb).run P w=.ok b w) (hu:∀ t,gp t=true→∃ dd,P.underlying t=some dd)
    (h1:∀ t,gp t=true→tY P t=false→∀ as bs b,g t as bs=some b→∃ x y,as=[x]∧bs=[y]) :
    ∀ (fs:List Field) (o:Nat) (as bs:List PV) (r:Bool),I8 (fun t=>(P.info? t).map (·.size)) gp o fs=true →
    (∀ (i:Nat) (c:PV),as[i]?=some c→VR w M c (xs.getD (o+i) undef))→(∀ (i:Nat) (c:PV),bs[i]?=some c→VR w M c (ys.getD (o+i) undef)) →
    o+as.length=xs.size→o+bs.length=ys.size→MK (mP T) g fs as bs=some r→(Op.eqFields d xs ys fs).run P w=.ok r w
  | [],o,as,bs,r,_,_,_,_,_,he=>by
   cases as<;>cases bs<;>simp[MK]at he
   subst he;simp[Op.eqFields]
  | f::fs,o,as,bs,r,hp,ha,hb,h3,h4,he=>by
   unfold MK at he
   unfold I8 at hp
   cases hn:mP T f.type with
   | none=>rw[hn]at he;simp at he
   | some n =>
   obtain⟨ti,hti,hsz⟩:=ok.size hn
   rw[hn]at he
   simp only at he
   cases aaX:(Nat.ble n as.length&&Nat.ble n bs.length) with
   | false=>rw[aaX]at he;cases he
   | true =>
   rw[aaX,cond_true]at he
   rw[Bool.and_eq_true,Nat.ble_eq,Nat.ble_eq]at aaX
   obtain⟨hl1,hl2⟩:=aaX
   simp only[hti,Option.map_some,hsz,Bool.and_eq_true,beq_iff_eq,bne_iff_ne,ne_eq]at hp
   obtain⟨hoff,hname,hgp,hrest⟩:=hp
   cases hl:g f.type (as.take n) (bs.take n) with
   | none=>rw[hl]at he;simp at he
   | some b1 =>
   cases hr:MK (mP T) g fs (as.drop n) (bs.drop n) with
   | none=>rw[hl,hr]at he;simp at he
   | some b2 =>
   rw[hl,hr]at he
   simp only[Option.some.injEq]at he
   obtain⟨dd,hdd⟩:=hu _ hgp
   have hpart:∀ (zs:Array Value) (cs:List PV),n≤cs.length→(tY P f.type=false→∃ x,cs.take n=[x])→(∀ (i:Nat) (c:PV),cs[i]?=some c→VR w M c (zs.getD (o+i) undef))→o+cs.length=zs.size→∃ v,(part f.type zs f.offset).run P w=.ok v w∧Rep P w M f.type (cs.take n) v:=by
    intro zs cs hle hone hc hsize
    cases hagg:tY P f.type with
    | true =>
     refine⟨.agg (zs.extract o (o+n)),?_,?_⟩
     · simp only[part,Sem.run_bind,kU hdd,hagg,Result.andThen_ok,if_true,fE hti,hsz,hoff,Sem.run_pure]
     · unfold Rep
       rw[if_pos hagg]
       refine⟨_,rfl,by simp only[Array.size_extract,List.length_take];omega,fun i c hi=>?_⟩
       rw[List.getElem?_take]at hi
       split at hi
       · rename_i hlt
         have hlen:=(List.getElem?_eq_some_iff.1 hi).1
         have:=hc i c hi
         have e:(zs.extract o (o+n)).getD i undef=zs.getD (o+i) undef:=by
          have h1:i<(zs.extract o (o+n)).size:=by simp only[Array.size_extract];omega
          have h2:o+i<zs.size:=by omega
          simp only[Array.getD,h1,h2,dite_true]
          exact Array.getElem_extract ..
         rw[e];exact this
       · cases hi
    | false =>
     obtain⟨x,hx⟩:=hone hagg
     have hx0:cs[0]?=some x:=by
      have:(cs.take n)[0]?=some x:=by rw[hx];rfl
      rw[List.getElem?_take]at this
      split at this
      · exact this
      · cases this
     have hlen:=(List.getElem?_eq_some_iff.1 hx0).1
     refine⟨zs.getD o undef,?_,?_⟩
     · simp only[part,Sem.run_bind,kU hdd,hagg,Result.andThen_ok,Bool.false_eq_true,if_false,hoff,getD_some (by omega:o<zs.size),Sem.run_pure]
     · unfold Rep
       rw[hagg,if_neg (by simp)]
       exact⟨x,hx,by simpa using hc 0 x hx0⟩
   have hone:tY P f.type=false→(∃ x,as.take n=[x])∧∃ y,bs.take n=[y]:=by
    intro hag
    obtain⟨x,y,e1,e2⟩:=h1 _ hgp hag _ _ _ hl
    exact⟨⟨x,e1⟩,⟨y,e2⟩⟩
   obtain⟨va,pa,ra⟩:=hpart xs as hl1 (fun hag=>(hone hag).1) ha h3
   obtain⟨vb,pb,rb⟩:=hpart ys bs hl2 (fun hag=>(hone hag).2) hb h4
   have heq:=hg _ _ _ _ _ _ hgp hl ra rb
   simp only[Op.eqFields,hname,ne_eq,not_false_eq_true,if_true,Sem.run_bind,pa,pb,heq,Result.andThen_ok,Sem.run_ite]
   cases b1
   · simp at he;subst he;rfl
   · simp at he;subst he
     exact VO ok hg hu h1 fs (o+n) (as.drop n) (bs.drop n) b2 hrest (fun i c hi=>by
      rw[List.getElem?_drop]at hi
      have:=ha (n+i) c hi
      rwa[show o+(n+i)=o+n+i by omega]at this) (fun i c hi=>by
      rw[List.getElem?_drop]at hi
      have:=hb (n+i) c hi
      rwa[show o+(n+i)=o+n+i by omega]at this) (by simp only[List.length_drop];omega) (by simp only[List.length_drop];omega) hr
theorem Um (ok:bP P T):∀ (n d:Nat) (t:TypeId) (as bs:List PV) (b:Bool) (va vb:Value),Az P n t=true→OX T n t as bs=some b→Rep P w M t as va→Rep P w M t bs vb→(Op.equalIn (d+n) t va vb).run P w=.ok b w
 | 0,d,t,as,bs,b,va,vb,hp,_,_,_=>by simp[Az]at hp
 | n+1,d,t,as,bs,b,va,vb,hp,he,ra,rb=>by
  unfold OX at he
  unfold Az at hp
  split at he
  · rename_i fs hu
    have hu:=ok.und hu
    rw[hu]at hp
    simp only[Bool.and_eq_true,Bool.not_eq_true']at hp
    have hagg:tY P t=true:=by unfold tY;rw[hu]
    unfold Rep at ra rb
    rw[if_pos hagg]at ra rb
    obtain⟨vs,rfl,e1,h1⟩:=ra
    obtain⟨us,rfl,e2,h2⟩:=rb
    have hfs:P.fieldsOf t=fs:=by simp[Program.fieldsOf,hu]
    rw[← Nat.add_assoc,run_equalIn_struct w (d+n) t vs us (by rw[hfs];exact hu) hp.1,hfs]
    refine VO ok (g:=OX T n) (gp:=Az P n) (fun t as bs b va vb h1 h2 h3 h4=>Um ok n d t as bs b va vb h1 h2 h3 h4) (fun t ht=>?_) (fun t ht hag as bs b hb=>?_) fs.toList 0 as bs b hp.2 (fun i c hi=>by simpa using h1 i c hi) (fun i c hi=>by simpa using h2 i c hi) (by omega) (by omega) he
    · cases n with
      | zero=>simp[Az]at ht
      | succ n =>
       unfold Az at ht
       cases hh:P.underlying t with
       | none=>rw[hh]at ht;simp at ht
       | some dd=>exact⟨dd,rfl⟩
    · cases n with
      | zero=>simp[OX]at hb
      | succ n =>
       unfold OX at hb
       split at hb
       · rename_i fs' hu'
         have:=ok.und hu'
         unfold tY at hag
         rw[this]at hag
         simp at hag
       · split at hb
         · exact⟨_,_,rfl,rfl⟩
         · cases hb
  · rename_i hns
    split at he
    · rename_i x y
      have hagg:tY P t=false:=by
       unfold tY
       cases hh:P.underlying t with
       | none=>rfl
       | some dd =>
        rw[hh]at hp
        cases dd<;>first
         | rfl
         | (simp at hp;done)
         | (rename_i fs
            exfalso
            cases hu:und T t with
            | none=>rw[hu]at he;unfold JV at he;cases x<;>cases y<;>simp at he
            | some d2 =>
             have:=ok.und hu
             rw[hh]at this
             cases this
             exact hns fs hu)
      unfold Rep at ra rb
      rw[hagg,if_neg (by simp)]at ra rb
      obtain⟨x',e1,hx⟩:=ra
      obtain⟨y',e2,hy⟩:=rb
      cases e1
      cases e2
      exact Xi ok (d:=d+n) he hx hy
    · cases he
theorem Zm (ok : bP P T) {op : BinOp} {t : TypeId} {x y : AV} {c d : Value} (ox oy : Operand) (hx : AR w M β h x c) (hy : AR w M β h y d) :
    aj P w M β h (yh T op t x y) (do eqGuard op t ox oy c d;binOp op t c d):=by
  have guard:∀ (e1 e2:Value),(∀ u v,e1≠.agg u∨e2≠.agg v)→(e1≠.nilIface∨e2≠.nilIface)→(eqGuard op t ox oy e1 e2).run P w=.ok () w:=by
   intro e1 e2 h1 h2
   cases op<;>first
    | (simp[eqGuard];done)
    | (cases e1 <;> first
        | (simp[eqGuard];done)
        | (cases e2<;>first | (simp[eqGuard];done) | (rcases h1 _ _ with h1 | h1<;>exact absurd rfl h1) | (rcases h2 with h2 | h2<;>exact absurd rfl h2)))
  unfold yh
  split
  · rename_i j a i b
    rw[hx.zK,hy.zK]
    have g:=guard (.int j a) (.int i b) (by simp) (by simp)
    split
    · refine aj.chk fun hb=>aj.ret (.int _ _) ?_
      have hb':¬ b<0:=by simpa using hb
      simp only[Sem.run_bind,g,Result.andThen_ok,binOp,Op.shift,if_neg hb']
      simp
    · refine aj.chk fun hb=>aj.ret (.int _ _) ?_
      have hb':¬ b<0:=by simpa using hb
      simp only[Sem.run_bind,g,Result.andThen_ok,binOp,Op.shift,if_neg hb']
      simp
    · refine aj.chk fun hj=>aj.chk fun hb=>aj.ret (.int _ _) ?_
      have hj':j=i:=by simpa using hj
      have hb':¬ b=0:=by simpa using hb
      subst hj'
      simp[g,binOp,Op.intDiv,hb']
    · refine aj.chk fun hj=>aj.chk fun hb=>aj.ret (.int _ _) ?_
      have hj':j=i:=by simpa using hj
      have hb':¬ b=0:=by simpa using hb
      subst hj'
      simp[g,binOp,Op.intDiv,hb']
    · refine aj.chk fun hj=>?_
      have hj':j=i:=by simpa using hj
      subst hj'
      split
      · rename_i v hv
        obtain⟨e,h1,h2⟩:=Uk (P:=P) (w:=w) (M:=M) hv t
        exact aj.ret (.p _ _ h1) (by simp only[Sem.run_bind,g,Result.andThen_ok];exact h2)
      · exact aj.fail
  · rename_i a b
    rw[hx.Kv,hy.Kv]
    have g:=guard (.string a) (.string b) (by simp) (by simp)
    split
    · refine aj.chk fun hb=>aj.ret (.str _) ?_
      have hb':a.size+b.size≤4611686018427387904:=by simpa using hb
      have:¬ ((a.size+b.size:Nat):Int) > IntKind.i64.max:=by
       have:IntKind.i64.max=9223372036854775807:=by decide
       rw[this];omega
      simp only[Sem.run_bind,g,Result.andThen_ok,binOp,Op.stringOp,if_neg this]
      rfl
    · split
      · rename_i v hv
        obtain⟨e,h1,h2⟩:=Ul (P:=P) (w:=w) (M:=M) hv t
        exact aj.ret (.p _ _ h1) (by simp only[Sem.run_bind,g,Result.andThen_ok];exact h2)
      · exact aj.fail
  · rename_i a b
    rw[hx.zf,hy.zf]
    have g:=guard (.bool a) (.bool b) (by simp) (by simp)
    split
    · rename_i hu
      exact aj.ret (.bool _) (by simp[g,binOp,run_equal_bool w t a b (ok.und hu)])
    · rename_i hu
      exact aj.ret (.bool _) (by simp[g,binOp,run_equal_bool w t a b (ok.und hu)])
    · exact aj.fail
  · rename_i as bs
    cases hx with
    | p _ _ hx =>
    cases hy with
    | p _ _ hy =>
    cases hx with
    | agg _ vs hn1 hl1 h1 =>
    cases hy with
    | agg _ us hn2 hl2 h2 =>
    refine aj.chk fun hp=>?_
    have hp:=ok.plain hp
    split
    · rename_i fs hu
      have hu:=ok.und hu
      have hfs:P.fieldsOf t=fs:=by simp[Program.fieldsOf,hu]
      unfold JU at hp
      rw[hu]at hp
      simp only[Bool.and_eq_true,Bool.not_eq_true']at hp
      obtain⟨hp1,hp3⟩:=hp
      have hagg:tY P t=true:=by unfold tY;rw[hu]
      have g:(eqGuard op t ox oy (.agg vs) (.agg us)).run P w=.ok () w:=run_eqGuard_agg w op t ox oy vs us hp3
      have main:∀ r,OX T 4 t as bs=some r→(Op.equalIn 10000 t (.agg vs) (.agg us)).run P w=.ok r w:=by
       intro r hr
       exact Um ok 4 9996 t as bs r (.agg vs) (.agg us) hp1 hr (by unfold Rep;rw[if_pos hagg];exact⟨vs,rfl,hn1,h1⟩) (by unfold Rep;rw[if_pos hagg];exact⟨us,rfl,hn2,h2⟩)
      split
      · rename_i r hr
        exact aj.ret (.bool _) (by simp only[Sem.run_bind,g,Result.andThen_ok,run_eql_struct w t vs us,main r hr])
      · rename_i r hr
        exact aj.ret (.bool _) (by simp only[Sem.run_bind,g,Result.andThen_ok,run_neq_struct w t vs us,main r hr])
      · exact aj.fail
    · exact aj.fail
  · exact aj.fail
theorem DV (ok : bP P T) {op : BinOp} {t : TypeId} {x y : AV} {c d : Value} (ox oy : Operand) (hx : AR w M β h x c) (hy : AR w M β h y d) :
    aj P w M β h (yU T op t (isLit oy) x y) (do eqGuard op t ox oy c d;binOp op t c d):=by
  have guard:∀ (e1 e2:Value),(∀ u v,e1≠.agg u∨e2≠.agg v)→(e1≠.nilIface∨e2≠.nilIface)→(eqGuard op t ox oy e1 e2).run P w=.ok () w:=by
   intro e1 e2 h1 h2
   cases op<;>first
    | (simp[eqGuard];done)
    | (cases e1 <;> first
        | (simp[eqGuard];done)
        | (cases e2<;>first | (simp[eqGuard];done) | (rcases h1 _ _ with h1 | h1<;>exact absurd rfl h1) | (rcases h2 with h2 | h2<;>exact absurd rfl h2)))
  unfold yU
  split
  · rename_i x
    cases hy with
    | p _ _ hy =>
    cases hy
    cases hx with
    | p _ _ hx =>
    have hg:=guard c .nilFunc (fun _ _=>.inr (by simp)) (.inr (by simp))
    have run:∀ (p r:Array TypeId) (b:Bool),P.underlying t=some (.func p r b)→x.isF=true→(Op.equal t c .nilFunc).run P w=.ok x.Ar w:=by
     intro p r b hu hf
     have key:∀ d,(Op.equalIn (d+1) t c .nilFunc).run P w=.ok x.Ar w:=fun d=>by
      cases hx<;>first | (simp[PV.isF]at hf;done) | simp[Op.equalIn,aZ hu,PV.Ar]
     exact key 9999
    have hb:∀ o,(o=.eql∨o=.neq)→binOp o t c .nilFunc=(match o with | .eql=>(do pure (.bool (← Op.equal t c .nilFunc)):Sem Value) | _=>(do pure (.bool (!(← Op.equal t c .nilFunc))):Sem Value)):=by
     intro o ho
     rcases ho with rfl | rfl<;>(cases hx<;>rfl)
    split
    · rename_i hu
      refine aj.chk fun hf=>aj.ret (.p _ _ (.bool _)) ?_
      simp only[Sem.run_bind,hg,Result.andThen_ok,hb .eql (.inl rfl),run _ _ _ (ok.und hu) hf,Sem.run_pure]
    · rename_i hu
      refine aj.chk fun hf=>aj.ret (.p _ _ (.bool _)) ?_
      simp only[Sem.run_bind,hg,Result.andThen_ok,hb .neq (.inr rfl),run _ _ _ (ok.und hu) hf,Sem.run_pure]
    · exact aj.fail
  · rename_i x
    cases hy with
    | p _ _ hy =>
    cases hy
    cases hx with
    | p _ _ hx =>
    have hg:isLit oy=true→(eqGuard op t ox oy c .nilIface).run P w=.ok () w:=by
     intro hl
     cases oy<;>simp[isLit]at hl
     cases op<;>first | (simp[eqGuard];done) | (cases c<;>simp[eqGuard])
    have run:∀ ms,P.underlying t=some (.interface ms)→x.isI=true→(Op.equal t c .nilIface).run P w=.ok x.JQ w:=by
     intro ms hu hf
     have key:∀ d,(Op.equalIn (d+1) t c .nilIface).run P w=.ok x.JQ w:=fun d=>by
      cases hx<;>first | (simp[PV.isI]at hf;done) | simp[Op.equalIn,aZ hu,PV.JQ]
     exact key 9999
    have hb:∀ o,(o=.eql∨o=.neq)→binOp o t c .nilIface=(match o with | .eql=>(do pure (.bool (← Op.equal t c .nilIface)):Sem Value) | _=>(do pure (.bool (!(← Op.equal t c .nilIface))):Sem Value)):=by
     intro o ho
     rcases ho with rfl | rfl<;>(cases hx<;>rfl)
    split
    · rename_i hu
      refine aj.chk fun hf=>?_
      simp only[Bool.and_eq_true]at hf
      refine aj.ret (.p _ _ (.bool _)) ?_
      simp only[Sem.run_bind,hg hf.1,Result.andThen_ok,hb .eql (.inl rfl),run _ (ok.und hu) hf.2,Sem.run_pure]
    · rename_i hu
      refine aj.chk fun hf=>?_
      simp only[Bool.and_eq_true]at hf
      refine aj.ret (.p _ _ (.bool _)) ?_
      simp only[Sem.run_bind,hg hf.1,Result.andThen_ok,hb .neq (.inr rfl),run _ (ok.und hu) hf.2,Sem.run_pure]
    · exact aj.fail
  · rename_i a ks xs
    cases hy with
    | p _ _ hy =>
    cases hy
    cases hx with
    | p _ _ hx =>
    have hg:=guard c (.slice none 0 0) (fun _ _=>.inr (by simp)) (.inr (by simp))
    have run:∀ e,P.underlying t=some (.slice e)→0<xs.length→(Op.equal t c (.slice none 0 0)).run P w=.ok false w:=by
     intro e hu hl
     have key:∀ d,(Op.equalIn (d+1) t c (.slice none 0 0)).run P w=.ok false w:=fun d=>by
      cases hx with
      | list=>simp[Op.equalIn,aZ hu]
      | kD=>simp at hl
     exact key 9999
    have hb:∀ o,(o=.eql∨o=.neq)→binOp o t c (.slice none 0 0)=(match o with | .eql=>(do pure (.bool (← Op.equal t c (.slice none 0 0))):Sem Value) | _=>(do pure (.bool (!(← Op.equal t c (.slice none 0 0)))):Sem Value)):=by
     intro o ho
     rcases ho with rfl | rfl<;>(cases hx<;>rfl)
    split
    · rename_i hu
      refine aj.chk fun hf=>aj.ret (.p _ _ (.bool _)) ?_
      simp only[Sem.run_bind,hg,Result.andThen_ok,hb .eql (.inl rfl),run _ (ok.und hu) (Nat.le_of_ble_eq_true hf),Sem.run_pure]
    · rename_i hu
      refine aj.chk fun hf=>aj.ret (.p _ _ (.bool _)) ?_
      simp only[Sem.run_bind,hg,Result.andThen_ok,hb .neq (.inr rfl),run _ (ok.und hu) (Nat.le_of_ble_eq_true hf),Sem.run_pure]
      rfl
    · exact aj.fail
  · exact aj.fail
theorem aaY (ok : bP P T) {op : BinOp} {t : TypeId} {x y : AV} {c d : Value} (ox oy : Operand) (hx : AR w M β h x c) (hy : AR w M β h y d) :
    aj P w M β h (EO T op t (isLit oy) x y) (do eqGuard op t ox oy c d;binOp op t c d):=by
  unfold EO
  split
  · exact DV ok ox oy hx hy
  · exact DV ok ox oy hx hy
  · exact DV ok ox oy hx hy
  · exact Zm ok ox oy hx hy
end
end Go.Skm
namespace Go.Skm
theorem Ib:∀ {cs:List AV},AV.BJ cs=true→∀ c∈cs,c≠.undef∧(∀ x,c≠.mG x)∧(∀ x,c≠.agg x)
 | [],_,c,hc=>by simp at hc
 | v::r,h,c,hc=>by
  rcases List.mem_cons.1 hc with rfl | hc
  · cases c<;>simp[AV.BJ]at h ⊢
  · refine Ib (cs:=r) ?_ c hc
    cases v<;>simp[AV.BJ]at h<;>exact h
section
variable {P:Program} {T:Tab} {w:World} {M:Nat→Prop} {β:Nat→Option (Nat × Nat)} {h:Nat→Option aI}
theorem AR.cells {v : AV} {c : Value} (hv : AR w M β h v c) (ok : v.ok = true) : c.cells.size = v.cells.length ∧
    ∀ (j:Nat) (x:AV),v.cells[j]?=some x→AR w M β h x (c.cells.getD j Go.undef)∧x.leaf=true∧(c.cells.getD j Go.undef).oneCell'=true:=by
  have single : ∀ (v' : AV) (c' : Value),AR w M β h v' c' → v'.cells = [v'] → c'.cells = #[c'] → v'.leaf = true → c'.oneCell' = true →
      c'.cells.size=v'.cells.length∧∀ (j:Nat) (x:AV),v'.cells[j]?=some x→AR w M β h x (c'.cells.getD j Go.undef)∧x.leaf=true∧(c'.cells.getD j Go.undef).oneCell'=true:=by
    intro v' c' h1 h2 h3 h4 h5
    rw[h2,h3]
    refine⟨rfl,fun j x hj=>?_⟩
    cases j with
    | zero=>simp at hj;subst hj;simpa using ⟨h1,h4,h5⟩
    | succ j=>simp at hj
  cases hv with
  | undef c=>simp[AV.ok]at ok
  | p v c hv =>
   cases hv with
   | agg cs vs hn hl hc =>
    simp only[AV.cells,Value.cells,List.length_map,List.getElem?_map]
    refine⟨hn,fun j x hj=>?_⟩
    cases hx:cs[j]? with
    | none=>rw[hx]at hj;simp at hj
    | some y =>
     rw[hx]at hj;simp at hj;subst hj
     have hlf:=hl y (List.mem_of_getElem? hx)
     exact⟨.p _ _ (hc j y hx),hlf,(hc j y hx).one hlf⟩
   | _=>exact single _ _ (.p _ _ (by constructor<;>assumption)) rfl rfl rfl rfl
  | agg cs vs hn hl hc =>
   simp only[AV.cells,Value.cells]
   refine⟨hn,fun j x hj=>?_⟩
   have hm:=List.mem_of_getElem? hj
   have hx:=Ib (by simpa [AV.ok] using ok) x hm
   have hlf:=hl x hm
   have hr:=hc j x hj
   refine⟨hr,hlf,?_⟩
   generalize vs.getD j Go.undef=cj at hr
   cases hr with
   | undef=>exact absurd rfl hx.1
   | p v c hv=>exact hv.one hlf
   | agg=>exact absurd rfl (hx.2.2 _)
   | mG=>exact absurd rfl (hx.2.1 _)
   | _=>rfl
  | mG=>simp[AV.ok]at ok
  | _=>exact single _ _ (by constructor<;>assumption) rfl rfl rfl rfl
theorem qp:∀ {cs:List AV} {vs:List PV},zF cs=some vs→cs=vs.map .p
 | [],vs,h=>by simp[zF]at h;subst h;rfl
 | v::r,vs,h=>by
  cases v<;>simp only[zF]at h<;>first | cases h | skip
  split at h
  · rename_i ys hy
    cases h
    simp[qp hy]
  · cases h
theorem AR.zG {cs : List AV} {vs : Array Value} (hn : vs.size = cs.length) (hl : ∀ c ∈ cs,c.leaf = true) (hc : ∀ (i : Nat) (c : AV),cs[i]? = some c → AR w M β h c (vs.getD i Go.undef)) :
    AR w M β h (Skm.zG cs) (.agg vs):=by
  unfold Skm.zG
  split
  · rename_i xs hx
    have e:=qp hx
    subst e
    refine .p _ _ (.agg xs vs (by simpa using hn) (fun c hc=>by simpa [AV.leaf] using hl (.p c) (by simpa using hc)) fun i c hi=>?_)
    have:=hc i (.p c) (by simp[hi])
    cases this;assumption
  · exact .agg cs vs hn hl hc
theorem Zn {c a b : AV} {x y z : Value} (hc : AR w M β h c x) (ha : AR w M β h a y) (hb : AR w M β h b z) :
    aj P w M β h (JX c a b) (do pure (if ← asBool x then y else z)):=by
  unfold JX
  split
  · rename_i q
    rw[hc.zf]
    split
    · rename_i u v
      rw[ha.zf,hb.zf]
      exact aj.ret (.bool _) (by cases q<;>simp[asBool])
    · refine aj.ite (fun e=>aj.ret ha ?_) (fun e=>aj.ret hb ?_)<;>simp[asBool,e]
  · exact aj.fail
theorem Ri {x:AV} {i:Nat} {c:Value} (hx:AR w M β h x c):aj P w M β h (AO x i) (Instr.extract c i):=by
 unfold AO
 split
 · rename_i vs
   cases hx with
   | mG _ us hn hc =>
   split
   · rename_i v hv
     refine aj.ret (hc i v hv) ?_
     have hi:i<us.size:=by rw[hn];exact(List.getElem?_eq_some_iff.1 hv).1
     simp only[Instr.extract,getD_some hi,Sem.run_pure]
   · exact aj.fail
 · exact aj.fail
theorem Ky:∀ {cs:List PV},(∀ c∈cs,c.leaf=true)→aA true (cs.map Uc) (.agg cs)=true
 | [],_=>rfl
 | c::cs,h=>by
  have ih:=Ky (cs:=cs) fun x hx=>h x (by simp[hx])
  have hc:=h c (by simp)
  simp only[aA,List.map_cons,bH,Bool.and_eq_true]at ih ⊢
  refine⟨?_,ih⟩
  cases c<;>simp[Uc,kindOk,PV.leaf]at hc ⊢
theorem MN (ok:bP P T) {t:TypeId} {x:AV} {f:Nat} {c:Value} (hx:AR w M β h x c):aj P w M β h (wR T t x f) (Instr.fieldAt t c f):=by
 unfold wR
 split
 · rename_i fs hu
   have hu:=ok.und hu
   split
   · rename_i fd hf
     split
     · rename_i n hn
       obtain⟨i,hi,hsz⟩:=ok.size hn
       have place:∀ (b o:Nat),(fieldPlace ⟨b,o,none⟩ fd).run P w=.ok ⟨b,o+fd.offset,none⟩ w:=by
        intro b o
        simp only[fieldPlace,Sem.run_bind,fE hi,Result.andThen_ok,hsz]
        rw[if_neg (by omega)]
        simp only[Sem.run_pure,Addr.add]
        by_cases h0:fd.offset=0<;>simp[h0]
       split
       · rename_i s idx off
         cases hx with
         | ptrB s off cs b o h1 h2 =>
          refine aj.ret (c:=.pointer (some ⟨b,o+off+fd.offset,none⟩)) ?_ ?_
          · rw[Nat.add_assoc];exact .ptrB s _ cs b o h1 h2
          · simp[Instr.fieldAt,aZ hu,hf,Instr.sureAddr,place]
         | ptrA s idx off a ks xs b o h1 h2 h3 =>
          refine aj.ret (c:=.pointer (some ⟨b,o+idx*ks.length+off+fd.offset,none⟩)) ?_ ?_
          · rw[Nat.add_assoc];exact .ptrA s idx _ a ks xs b o h1 h2 h3
          · simp[Instr.fieldAt,aZ hu,hf,Instr.sureAddr,place]
         | ptrT s off t c0 c1 b h1 h2 =>
          refine aj.ret (c:=.pointer (some ⟨b,off+fd.offset,none⟩)) (.ptrT s _ t c0 c1 b h1 h2) ?_
          simp[Instr.fieldAt,aZ hu,hf,Instr.sureAddr,place]
       · cases hx with
         | mO _ _ _ _ b o g h1 h2 h3 h4 =>
          rename_i off
          refine aj.ret (c:=.pointer (some ⟨b,o+off+fd.offset,none⟩)) ?_ ?_
          · rw[Nat.add_assoc];exact .mO _ _ _ _ b o g h1 h2 h3 h4
          · simp[Instr.fieldAt,aZ hu,hf,Instr.sureAddr,place]
       · rename_i cs
         cases hx with
         | p _ _ hv =>
          cases hv with
          | ref _ b o g hM hl hc hv =>
           refine aj.ret (c:=.pointer (some ⟨b,o+fd.offset,none⟩)) ?_ ?_
           · exact .mO true (cs.map Uc) (.agg cs) fd.offset b o g hM (Ky hl) (fun j c hj=>hc j c hj) (fun j c hj=>hv j c hj)
           · simp[Instr.fieldAt,aZ hu,hf,Instr.sureAddr,place]
       · exact aj.fail
     · exact aj.fail
   · exact aj.fail
 · exact aj.fail
theorem DW (ok : bP P T) {t : TypeId} {n off : Nat} {cs : List AV} {v : AV} (hn : mP T t = some n) (hv : qX T t n cs off = some v) :
    off+n≤cs.length∧((tY P t=true∧v=Skm.zG ((cs.drop off).take n))∨(tY P t=false∧n=1∧v=cs.getD off .undef)):=by
  unfold qX at hv
  cases h1:Nat.ble (off+n) cs.length with
  | false=>rw[h1]at hv;cases hv
  | true =>
   rw[h1]at hv
   simp only[cond_true]at hv
   refine⟨Nat.le_of_ble_eq_true h1,?_⟩
   rw[ok.agg hn]at hv
   cases h2:tY P t with
   | true=>rw[h2]at hv;left;exact⟨rfl,by simpa using hv.symm⟩
   | false =>
    rw[h2]at hv
    right
    cases h3:Nat.beq n 1 with
    | false=>rw[h3]at hv;simp at hv
    | true=>rw[h3]at hv;exact⟨rfl,Nat.eq_of_beq_eq_true h3,by simpa using hv.symm⟩
theorem Kz {t : TypeId} {n off : Nat} {cs : List AV} {vs : Array Value} {v : AV} (ok : bP P T) (hn : mP T t = some n) (hv : qX T t n cs off = some v) (hlen : vs.size = cs.length)
    (hl:∀ c∈cs,c.leaf=true) (hc:∀ (i:Nat) (c:AV),cs[i]?=some c→AR w M β h c (vs.getD i undef)) (hd:∃ d,P.underlying t=some d) :
    ∃ c,AR w M β h v c∧(part t vs off).run P w=.ok c w:=by
  obtain⟨i,hi,hsz⟩:=ok.size hn
  obtain⟨d,hd⟩:=hd
  obtain⟨h1,h2⟩:=DW ok hn hv
  rcases h2 with ⟨h2,rfl⟩ | ⟨h2,rfl,rfl⟩
  · refine⟨.agg (vs.extract off (off+n)),AR.zG ?_ ?_ ?_,?_⟩
    · simp;omega
    · intro c hc'
      exact hl c (List.mem_of_mem_drop (List.mem_of_mem_take hc'))
    · intro j c hj
      have hj':j<n:=by
       have:=(List.getElem?_eq_some_iff.1 hj).1
       simp at this;omega
      rw[List.getElem?_take,if_pos hj',List.getElem?_drop]at hj
      have:=hc _ _ hj
      have e:(vs.extract off (off+n)).getD j undef=vs.getD (off+j) undef:=by
       simp only[Array.getD_eq_getD_getElem?,Array.getElem?_extract]
       rw[if_pos (by omega)]
      rw[e];exact this
    · simp[part,kU hd,h2,fE hi,hsz]
  · have ho:off<cs.length:=by omega
    refine⟨vs.getD off undef,hc off _ (by simp[ho]),?_⟩
    simp only[part,Sem.run_bind,kU hd,h2,Result.andThen_ok,Bool.false_eq_true,if_false,getD_some (by omega:off<vs.size),Sem.run_pure]
theorem bP.Xj (ok:bP P T) {t:TypeId} {n:Nat} (h:mP T t=some n):∃ d,P.underlying t=some d:=by
 unfold mP at h
 cases h1:bG T.types t with
 | none=>rw[h1]at h;cases h
 | some i=>obtain⟨d',j,h2,_,h4⟩:=ok.ti h1;exact⟨d',h2⟩
theorem Xk (ok:bP P T) {t:TypeId} {x:AV} {f:Nat} {c:Value} (hx:AR w M β h x c):aj P w M β h (Gp T t x f) (Instr.field t c f):=by
 unfold Gp
 split
 · rename_i fs hu
   have hu:=ok.und hu
   split
   · rename_i fd hf
     split
     · rename_i n cs hn
       cases hx with
       | p _ _ hx=>cases hx with
       | agg _ vs hn1 hl hc =>
       split
       · rename_i v hv
         obtain⟨c,h1,h2⟩:=Kz (w:=w) (M:=M) (β:=β) (h:=h) ok hn hv (by simpa using hn1) (fun c hc'=>by
          obtain⟨y,hy,rfl⟩:=List.mem_map.1 hc'
          exact hl y hy) (fun i c hi=>by
          rw[List.getElem?_map]at hi
          cases hy:cs[i]? with
          | none=>rw[hy]at hi;simp at hi
          | some y=>rw[hy]at hi;simp at hi;subst hi;exact .p _ _ (hc i y hy)) (ok.Xj hn)
         exact aj.ret h1 (by simp[Instr.field,aZ hu,hf,asAgg,h2])
       · exact aj.fail
     · rename_i n cs hn
       cases hx with
       | agg _ vs hn1 hl hc =>
       split
       · rename_i v hv
         obtain⟨c,h1,h2⟩:=Kz (w:=w) (M:=M) (β:=β) (h:=h) ok hn hv hn1 hl hc (ok.Xj hn)
         exact aj.ret h1 (by simp[Instr.field,aZ hu,hf,asAgg,h2])
       · exact aj.fail
     · exact aj.fail
   · exact aj.fail
 · exact aj.fail
end
end Go.Skm
