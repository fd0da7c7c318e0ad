/-
  A machine that runs this program's functions on pure values, and the proof that what it returns is true of the program; no condition beside the hypotheses of each.
-/
import Derived.Orders
import Derived.WalkKit
namespace Go.Skm
inductive Kd where
 | int (k:IntKind)
 | bool
 | str
 | slice (a:Bool) (ks:List Kd)
 | other
 deriving Inhabited
mutual
def Kd.beq:Kd→Kd→Bool
 | .int j,.int k=>j==k
 | .bool,.bool=>true
 | .str,.str=>true
 | .slice a ks,.slice b ls=>a==b&&Kd.beqs ks ls
 | .other,.other=>true
 | _,_=>false
def Kd.beqs:List Kd→List Kd→Bool
 | [],[]=>true
 | k::ks,l::ls=>Kd.beq k l&&Kd.beqs ks ls
 | _,_=>false
end
inductive PV where
 | bool (b:Bool)
 | int (k:IntKind) (n:Int)
 | str (s:ByteArray)
 | agg (cs:List PV)
 | list (a:Bool) (ks:List Kd) (xs:List PV)
 | full (a:Bool) (ks:List Kd) (xs:List PV)
 | nil
 | fn (f:Nat) (caps:List PV)
 | ref (cs:List PV)
 | nilp
 | nilfn
 | ifc
 | nilif
 | mapv (ks vs:List PV)
 | nilm
 deriving Inhabited
def PV.cells:PV→List PV
 | .agg cs=>cs
 | v=>[v]
def PV.cell:PV→Nat→PV
 | .agg cs,j=>cs.getD j .nil
 | v,_=>v
def PV.mkeys:PV→List PV
 | .mapv ks _=>ks
 | _=>[]
def PV.mvals:PV→List PV
 | .mapv _ vs=>vs
 | _=>[]
def PV.isMap:PV→Bool
 | .mapv ks vs=>Nat.beq ks.length vs.length
 | .nilm=>true
 | _=>false
def PV.toInt:PV→Int
 | .int _ n=>n
 | _=>0
def PV.toBool:PV→Bool
 | .bool b=>b
 | _=>false
def PV.toStr:PV→ByteArray
 | .str s=>s
 | _=>ByteArray.empty
def PV.toList:PV→List PV
 | .list _ _ xs=>xs
 | .full _ _ xs=>xs
 | _=>[]
def PV.cap:PV→Nat→PV
 | .fn _ cs,j=>cs.getD j .nil
 | _,_=>.nil
def PV.rcell:PV→Nat→PV
 | .ref cs,j=>cs.getD j .nil
 | v,_=>v
def PV.isF:PV→Bool
 | .fn _ _=>true
 | .nilfn=>true
 | _=>false
def PV.isNilF:PV→Bool
 | .nilfn=>true
 | _=>false
def PV.isI:PV→Bool
 | .ifc=>true
 | .nilif=>true
 | _=>false
def PV.isNilI:PV→Bool
 | .nilif=>true
 | _=>false
def eta:Kd→PV→PV
 | .int k,v=>.int k v.toInt
 | .bool,v=>.bool v.toBool
 | .str,v=>.str v.toStr
 | .slice a ks,v=>.list a ks v.toList
 | .other,v=>v
def etaFrom:List Kd→PV→Nat→List PV
 | [],_,_=>[]
 | k::ks,x,j=>eta k (x.cell j)::etaFrom ks x (j+1)
def kindOk:Kd→PV→Bool
 | .int j,.int k _=>j==k
 | .bool,.bool _=>true
 | .str,.str _=>true
 | .slice a ks,.list b ls _=>a==b&&Kd.beqs ks ls
 | .slice _ _,.nil=>true
 | .other,.agg _=>false
 | .other,_=>true
 | _,_=>false
def kindsOk:List Kd→List PV→Bool
 | [],[]=>true
 | k::ks,v::vs=>kindOk k v&&kindsOk ks vs
 | _,_=>false
def etaRef:List Kd→PV→Nat→List PV
 | [],_,_=>[]
 | k::ks,x,j=>eta k (x.rcell j)::etaRef ks x (j+1)
def etaCap:Bool × List Kd→PV→PV
 | (true,ks),v=>.ref (etaRef ks v 0)
 | (false,[k]),v=>eta k v
 | _,v=>v
def etaCaps:List (Bool × List Kd)→PV→Nat→List PV
 | [],_,_=>[]
 | s::r,x,j=>etaCap s (x.cap j)::etaCaps r x (j+1)
def capOk:Bool × List Kd→PV→Bool
 | (true,ks),.ref cs=>kindsOk ks cs
 | (false,[k]),v=>kindOk k v
 | _,_=>false
def capsOk:List (Bool × List Kd)→List PV→Bool
 | [],[]=>true
 | s::r,v::vs=>capOk s v&&capsOk r vs
 | _,_=>false
def PV.isCell:PV→Bool
 | .agg _=>false
 | _=>true
def shapeOk:Bool→List Kd→PV→Bool
 | true,ks,.agg cs=>kindsOk ks cs
 | true,_,_=>false
 | false,[k],v=>kindOk k v
 | false,_,_=>false
inductive AV where
 | undef
 | p (v:PV)
 | slice (s z off len:Nat)
 | bslice (s off len:Nat)
 | ptr (s idx off:Nat)
 | lptr (a:Bool) (ks:List Kd) (x:PV) (off:Nat)
 | fn (f:Nat) (caps:List AV)
 | agg (cs:List AV)
 | tup (vs:List AV)
 | fresh (a:Bool) (ks:List Kd) (xs:List PV)
 | yld
 | mref (s:Nat)
 deriving Inhabited
inductive Blk where
 | box (cs:List AV)
 | arr (a:Bool) (ks:List Kd) (xs:List PV)
 | log (on:Bool) (xs:List PV)
 | tb (t:TypeId) (c0 c1:AV)
 | mp (t:TypeId) (es:List (PV × PV))
 | br (e:TypeId) (xs:List PV)
 deriving Inhabited
abbrev Heap:=List (Nat × Blk)
structure St where
 env:List AV
 heap:Heap
inductive Ex where
 | normal
 | exit (id:Nat)
 | ret
structure Eff where
 val:AV
 chg:List (Nat × Blk):=[]
 new:List Nat:=[]
 cut:List Nat:=[]
 frz:List Nat:=[]
def look:Heap→Nat→Option Blk
 | [],_=>none
 | (k,b)::h,s=>bif k==s then some b else look h s
def put:Heap→Nat→Blk→Heap
 | [],s,b=>[(s,b)]
 | (k,c)::h,s,b=>bif k==s then(s,b)::h else(k,c)::put h s b
def drop1:Heap→Nat→Heap
 | [],_=>[]
 | (k,c)::h,s=>bif k==s then drop1 h s else(k,c)::drop1 h s
def putAll:Heap→List (Nat × Blk)→Heap
 | h,[]=>h
 | h,(s,b)::r=>putAll (put h s b) r
def dropAll:Heap→List Nat→Heap
 | h,[]=>h
 | h,s::r=>dropAll (drop1 h s) r
def memN:Nat→List Nat→Bool
 | _,[]=>false
 | x,y::r=>bif x==y then true else memN x r
mutual
def AV.refers (ss:List Nat):AV→Bool
 | .slice s _ _ _=>memN s ss
 | .bslice s _ _=>memN s ss
 | .ptr s _ _=>memN s ss
 | .mref s=>memN s ss
 | .fn _ cs=>AV.refersAny ss cs
 | .agg cs=>AV.refersAny ss cs
 | .tup cs=>AV.refersAny ss cs
 | _=>false
def AV.refersAny (ss:List Nat):List AV→Bool
 | []=>false
 | v::r=>AV.refers ss v||AV.refersAny ss r
end
def AV.kill (ss:List Nat) (v:AV):AV:=bif AV.refers ss v then .undef else v
def killEnv (ss:List Nat):List AV→List AV
 | []=>[]
 | v::r=>AV.kill ss v::killEnv ss r
def Blk.kill (ss:List Nat):Blk→Blk
 | .box cs=>.box (killEnv ss cs)
 | .tb t c0 c1=>.tb t (AV.kill ss c0) (AV.kill ss c1)
 | b=>b
def killHeap (ss:List Nat):Heap→Heap
 | []=>[]
 | (k,b)::h=>(k,b.kill ss)::killHeap ss h
def St.kill (ss:List Nat) (st:St):St :=
 match ss with
 | []=>st
 | _=>{ env:=killEnv ss st.env,heap:=killHeap ss st.heap }
def setEnv (env:List AV) (d:Option Nat) (v:AV):List AV :=
 match d with
 | some d=>env.set d v
 | none=>env
def St.strike (ss:List Nat) (st:St):St :=
 match ss with
 | []=>st
 | ss=>{ env:=killEnv ss st.env,heap:=dropAll (killHeap ss st.heap) ss }
def present (h:Heap):List Nat→List Nat
 | []=>[]
 | s::r=>match look h s with
  | some _=>s::present h r
  | none=>present h r
def St.apply (st:St) (d:Option Nat) (e:Eff):St :=
 let st1:=(st.strike (present st.heap e.new++e.frz)).kill e.cut
 { env:=setEnv st1.env d e.val,heap:=putAll st1.heap e.chg }
def renS (s d x:Nat):Nat:=bif x==s then d else x
mutual
def AV.ren (s d:Nat):AV→AV
 | .slice x z o l=>.slice (renS s d x) z o l
 | .bslice x o l=>.bslice (renS s d x) o l
 | .ptr x i o=>.ptr (renS s d x) i o
 | .mref x=>.mref (renS s d x)
 | .fn f cs=>.fn f (AV.rens s d cs)
 | .agg cs=>.agg (AV.rens s d cs)
 | .tup cs=>.tup (AV.rens s d cs)
 | v=>v
def AV.rens (s d:Nat):List AV→List AV
 | []=>[]
 | v::r=>AV.ren s d v::AV.rens s d r
end
def Blk.ren (s d:Nat):Blk→Blk
 | .box cs=>.box (AV.rens s d cs)
 | .tb t c0 c1=>.tb t (AV.ren s d c0) (AV.ren s d c1)
 | b=>b
def renHeap (s d:Nat):Heap→Heap
 | []=>[]
 | (k,b)::h=>(renS s d k,b.ren s d)::renHeap s d h
def St.rehome (st:St) (s d:Nat):St :=
 let st1:=st.strike [d]
 { env:=AV.rens s d st1.env,heap:=renHeap s d st1.heap }
def keepEnv (live:List Nat):Nat→List AV→List AV
 | _,[]=>[]
 | i,v::r=>(bif memN i live then v else .undef)::keepEnv live (i+1) r
def deadSites (sites:List Nat):Heap→List Nat
 | []=>[]
 | (k,_)::h=>bif memN k sites then deadSites sites h else k::deadSites sites h
def St.forget (st:St) (live sites:List Nat):St :=
 let st1:St:={ st with env:=keepEnv live 0 st.env }
 st1.strike (deadSites sites st1.heap)
inductive RetMode where
 | deep
 | fresh
 | alias (j:Nat)
 | func (g:Nat) (ss:List (Bool × List Kd))
 | funcN (g:Nat) (ss:List (Bool × List Kd))
 | nilF
 | aggF
 | fnAny
 deriving Inhabited
inductive Prim where
 | none
 | wstr
 | wbyte
 | str
 | wline (g:List PV→List PV→ByteArray)
 deriving Inhabited
def Prim.is:Prim→Bool
 | .none=>false
 | _=>true
def Prim.writes:Prim→Bool
 | .wstr=>true
 | .wbyte=>true
 | .wline _=>true
 | _=>false
structure FCfg where
 byRef:Bool:=false
 shares:Bool:=false
 rawNil:Bool:=false
 rets:List RetMode:=[]
 nvars:Nat:=0
 yk:List (Bool × List Kd):=[]
 ys:List Nat:=[]
 cuts:List (Nat × List Nat × List Nat):=[]
 alts:List (Nat × List (Nat × List (Nat × List (Bool × List Kd)))):=[]
 frzs:List Nat:=[]
 prim:Prim:=.none
 primTs:List TypeId:=[]
 primE:TypeId:=0
 homes:List Nat:=[]
 quiet:Bool:=false
 fhomes:List Nat:=[]
 vcall:Bool:=false
 vkeep:Bool:=false
 vElem:TypeId:=0
 deriving Inhabited
structure TI where
 desc:TypeDesc
 size:Nat
 bytes:Nat
 agg:Bool
 sh:Bool × List Kd
 zero:Option PV
 plain:Bool
structure FI where
 fn:Func
 cfg:FCfg
 hides:List (Nat × List (List Nat)):=[]
structure Tab where
 types:List (Nat × TI)
 funcs:List (Nat × FI)
 strict:Bool:=false
 owns:List (Nat × Nat):=[]
 calcs:List Nat:=[]
 fulls:List Nat:=[]
 glob:Bool→World→Prop:=fun _ _=>True
def tlook {β:Type}:List (Nat × β)→Nat→Option β
 | [],_=>none
 | (k,x)::r,s=>bif k==s then some x else tlook r s
def ofLeaf:Value→Option PV
 | .bool b=>some (.bool b)
 | .int k n=>some (.int k n)
 | .string s=>some (.str s)
 | .slice none 0 0=>some .nil
 | .pointer none=>some .nilp
 | .nilFunc=>some .nilfn
 | .nilIface=>some .nilif
 | .map none=>some .nilm
 | _=>none
def ofLeaves:List Value→Option (List PV)
 | []=>some []
 | v::r=>match ofLeaf v,ofLeaves r with
  | some x,some xs=>some (x::xs)
  | _,_=>none
def ofValue:Value→Option PV
 | .agg cs=>(ofLeaves cs.toList).map .agg
 | v=>ofLeaf v
section
variable (P:Program)
def aggP (t:TypeId):Bool :=
 match P.underlying t with
 | some (.struct _)=>true
 | some (.array _ _)=>true
 | _=>false
def shapeP:Nat→TypeId→Bool × List Kd
 | 0,_=>(false,[.other])
 | n+1,t =>
  match P.underlying t with
  | some (.int k)=>(false,[.int k])
  | some .bool=>(false,[.bool])
  | some .string=>(false,[.str])
  | some (.slice e)=>(false,[.slice (shapeP n e).1 (shapeP n e).2])
  | some (.struct fs)=>(true,fs.toList.flatMap fun f=>(shapeP n f.type).2)
  | some (.array len e)=>(true,(List.replicate len (shapeP n e).2).flatten)
  | _=>(false,[.other])
def plainFs (sz:TypeId→Option Nat) (g:TypeId→Bool):Nat→List Field→Bool
 | _,[]=>true
 | o,f::r=>match sz f.type with
  | some n => f.offset == o && (f.name != "_" && (g f.type && plainFs sz g (o + n) r))
  | none=>false
def plainN:Nat→TypeId→Bool
 | 0,_=>false
 | n+1,t=>match P.underlying t with
  | some (.int _)=>true
  | some .bool=>true
  | some .string=>true
  | some (.struct fs)=>!(P.stoodInHeld t)&&plainFs (fun t=>(P.info? t).map (·.size)) (plainN n) 0 fs.toList
  | _=>false
def plainP (t:TypeId):Bool :=
 match P.underlying t with
 | some (.struct _)=>plainN P 4 t&&!(P.eqGuardType P.depth t)
 | _=>false
def mkTI (t:TypeId):Option TI :=
 match P.underlying t,P.info? t with
 | some d,some i=>some { desc:=d,size:=i.size,bytes:=i.bytes,agg:=aggP P t,sh:=shapeP P 8 t,zero:=i.zero.bind ofValue,plain:=plainP P t }
 | _,_=>none
end
section
variable (T:Tab)
def und (t:TypeId):Option TypeDesc:=(tlook T.types t).map (·.desc)
def szOf (t:TypeId):Option Nat:=(tlook T.types t).map (·.size)
def bytesOfT (t:TypeId):Option Nat:=(tlook T.types t).map (·.bytes)
def aggT (t:TypeId):Bool:=match tlook T.types t with | some i=>i.agg | none=>false
def shapeT (t:TypeId):Bool × List Kd:=match tlook T.types t with | some i=>i.sh | none=>(false,[])
def zeroT (t:TypeId):Option PV:=(tlook T.types t).bind (·.zero)
def plainT (t:TypeId):Bool:=match tlook T.types t with | some i=>i.plain | none=>false
def cfgOf (f:Nat):FCfg:=match tlook T.funcs f with | some i=>i.cfg | none=>{}
def evalO (env:List AV):Operand→AV
 | .tmp t=>env.getD t .undef
 | .const v=>match ofValue v with
  | some x=>.p x
  | none=>.undef
 | .func f=>.p (.fn f [])
 | .global _=>.undef
def evalOs (env:List AV):List Operand→List AV
 | []=>[]
 | x::r=>evalO env x::evalOs env r
def pures:List AV→Option (List PV)
 | []=>some []
 | .p v::r=>match pures r with
  | some vs=>some (v::vs)
  | none=>none
 | _=>none
def mkAgg (cs:List AV):AV :=
 match pures cs with
 | some vs=>.p (.agg vs)
 | none=>.agg cs
def AV.okCells:List AV→Bool
 | []=>true
 | .undef::_=>false
 | .yld::_=>false
 | .tup _::_=>false
 | .fresh _ _ _::_=>false
 | .agg _::_=>false
 | _::r=>AV.okCells r
def AV.ok:AV→Bool
 | .undef=>false
 | .yld=>false
 | .tup _=>false
 | .fresh _ _ _=>false
 | .agg cs=>AV.okCells cs
 | _=>true
def AV.cells:AV→List AV
 | .p (.agg cs)=>cs.map .p
 | .agg cs=>cs
 | v=>[v]
def kdOf:PV→Kd
 | .int j _=>.int j
 | .bool _=>.bool
 | .str _=>.str
 | _=>.other
def boxList (cs:List AV):Option (Kd × List PV) :=
 match pures cs with
 | some (v::vs)=>bif (v::vs).all (kindOk (kdOf v)) then some (kdOf v,v::vs) else none
 | _=>none
def deep1 (h:Nat→Option Blk):AV→Option (PV × List Nat)
 | .p v=>some (v,[])
 | .slice s _ off len=>match h s with
  | some (.arr a ks xs)=>some (.list a ks ((xs.drop off).take len),[s])
  | _=>none
 | .bslice s off len=>match h s with
  | some (.box cs)=>match boxList cs with
   | some (kd,vs)=>some (.list false [kd] ((vs.drop off).take len),[s])
   | none=>none
  | _=>none
 | .mref s=>match h s with
  | some (.mp _ es)=>some (.mapv (es.map (·.1)) (es.map (·.2)),[s])
  | _=>none
 | _=>none
def deeps1 (h:Nat→Option Blk):List AV→Option (List PV × List Nat)
 | []=>some ([],[])
 | v::r=>match deep1 h v,deeps1 h r with
  | some (x,s),some (xs,ss)=>some (x::xs,s++ss)
  | _,_=>none
def deepC (h:Nat→Option Blk):AV→Option (PV × List Nat)
 | .ptr s 0 0=>match h s with
  | some (.box cs)=>match deeps1 h cs with
   | some (vs,ss)=>some (.ref vs,s::ss)
   | none=>none
  | _=>none
 | v=>deep1 h v
def deepCs (h:Nat→Option Blk):List AV→Option (List PV × List Nat)
 | []=>some ([],[])
 | v::r=>match deepC h v,deepCs h r with
  | some (x,s),some (xs,ss)=>some (x::xs,s++ss)
  | _,_=>none
def deep (h:Nat→Option Blk):AV→Option (PV × List Nat)
 | .agg cs=>match deeps1 h cs with
  | some (vs,ss)=>some (.agg vs,ss)
  | none=>none
 | .fn f cs=>match deepCs h cs with
  | some (vs,ss)=>some (.fn f vs,ss)
  | none=>none
 | v=>deepC h v
def deeps (h:Nat→Option Blk):List AV→Option (List PV × List Nat)
 | []=>some ([],[])
 | v::r=>match deep h v,deeps h r with
  | some (x,s),some (xs,ss)=>some (x::xs,s++ss)
  | _,_=>none
def srcOf (h:Nat→Option Blk):AV→Option (Option (Bool × List Kd) × Nat × List PV)
 | .slice s _ off len=>match h s with
  | some (.arr a ks xs)=>some (some (a,ks),len,(xs.drop off).take len)
  | _=>none
 | .bslice s off len=>match h s with
  | some (.box cs)=>match boxList cs with
   | some (kd,vs)=>some (some (false,[kd]),len,(vs.drop off).take len)
   | none=>none
  | _=>none
 | .p (.list a ks xs)=>some (some (a,ks),xs.length,xs)
 | .p (.full a ks xs)=>some (some (a,ks),xs.length,xs)
 | .p .nil=>some (none,0,[])
 | .p (.str s)=>some (some (false,[.int .u8]),s.size,s.data.toList.map fun b=>.int .u8 b.toNat)
 | _=>none
def sameSh (o:Option (Bool × List Kd)) (a:Bool) (ks:List Kd):Bool :=
 match o with
 | none=>true
 | some (b,ls)=>a==b&&Kd.beqs ks ls
def binInt (op:BinOp) (k:IntKind) (x y:Int):Option PV :=
 match op with
 | .add=>some (.int k (k.wrap (x+y)))
 | .sub=>some (.int k (k.wrap (x-y)))
 | .mul=>some (.int k (k.wrap (x*y)))
 | .and=>some (.int k (k.wrap (BitVec.ofInt k.bits x &&& BitVec.ofInt k.bits y).toNat))
 | .or=>some (.int k (k.wrap (BitVec.ofInt k.bits x ||| BitVec.ofInt k.bits y).toNat))
 | .xor=>some (.int k (k.wrap (BitVec.ofInt k.bits x ^^^ BitVec.ofInt k.bits y).toNat))
 | .andNot=>some (.int k (k.wrap (BitVec.ofInt k.bits x &&& ~~~(BitVec.ofInt k.bits y)).toNat))
 | .eql=>some (.bool (x==y))
 | .neq=>some (.bool (x != y))
 | .lss=>some (.bool (decide (x<y)))
 | .leq=>some (.bool (decide (x≤y)))
 | .gtr=>some (.bool (decide (x > y)))
 | .geq=>some (.bool (decide (x ≥ y)))
 | _=>none
def bytesLt:List UInt8→List UInt8→Bool
 | _,[]=>false
 | [],_::_=>true
 | a::x,b::y=>decide (a<b)||(a==b&&bytesLt x y)
def binStr (op:BinOp) (x y:ByteArray):Option PV :=
 match op with
 | .eql=>some (.bool (x.toList==y.toList))
 | .neq=>some (.bool !(x.toList==y.toList))
 | .lss=>some (.bool (bytesLt x.toList y.toList))
 | .leq=>some (.bool (bytesLt x.toList y.toList||x.toList==y.toList))
 | .gtr=>some (.bool !(bytesLt x.toList y.toList||x.toList==y.toList))
 | .geq=>some (.bool !(bytesLt x.toList y.toList))
 | _=>none
def eqLeaf (d:Option TypeDesc):PV→PV→Option Bool
 | .int j x,.int k y=>match d with
  | some (.int _)=>bif j==k then some (x==y) else none
  | _=>none
 | .bool x,.bool y=>match d with
  | some .bool=>some (x==y)
  | _=>none
 | .str x,.str y=>match d with
  | some .string=>some (x==y)
  | _=>none
 | _,_=>none
def eqFs (sz:TypeId→Option Nat) (g:TypeId→List PV→List PV→Option Bool):List Field→List PV→List PV→Option Bool
 | [],[],[]=>some true
 | f::fs,xs,ys=>match sz f.type with
  | some n=>bif Nat.ble n xs.length&&Nat.ble n ys.length then(match g f.type (xs.take n) (ys.take n),eqFs sz g fs (xs.drop n) (ys.drop n) with
   | some a,some b=>some (a&&b)
   | _,_=>none) else none
  | none=>none
 | _,_,_=>none
def eqT:Nat→TypeId→List PV→List PV→Option Bool
 | 0,_,_,_=>none
 | n+1,t,xs,ys=>match und T t with
  | some (.struct fs)=>eqFs (szOf T) (eqT n) fs.toList xs ys
  | d=>match xs,ys with
   | [x],[y]=>eqLeaf d x y
   | _,_=>none
def flatFs:Nat→List Field→Bool
 | _,[]=>true
 | o, f :: r => (f.offset == o && (f.name != "_" && Nat.beq ((szOf T f.type).getD 0) 1)) && ((match und T f.type with
  | some (.int _)=>true
  | _=>false)&&flatFs (o+1) r)
def flatKey (t:TypeId):Bool :=
 plainT T t&&match und T t with
 | some (.struct fs)=>flatFs T 0 fs.toList
 | _=>false
def nFields (t:TypeId):Nat:=match und T t with
 | some (.struct fs)=>fs.size
 | _=>0
def PV.aggCs:PV→Option (List PV)
 | .agg cs=>some cs
 | _=>none
def mapFind (t:TypeId) (k:List PV):List (PV × PV)→Option (Option Nat)
 | []=>some none
 | p::r=>match p.1.aggCs with
  | some c=>match eqT T 4 t k c with
   | some true=>some (some 0)
   | some false=>(mapFind t k r).map fun i=>i.map (·+1)
   | none=>none
  | none=>none
def mapPut (es:List (PV × PV)) (k v:PV):Option Nat→List (PV × PV)
 | some i=>es.set i ((es.getD i (.nil,.nil)).1,v)
 | none=>es++[(k,v)]
inductive DT where
 | fail
 | ret (e:Eff)
 | ite (c:Bool) (x y:DT)
 | call (o:Option (List AV × List Blk)) (f:List AV × List Blk→DT)
def DT.run {α:Type} (k:Eff→Option α):DT→Option α
 | .fail=>none
 | .ret e=>k e
 | .ite c x y=>cond c (DT.run k x) (DT.run k y)
 | .call o f=>match o with
  | some r=>DT.run k (f r)
  | none=>none
abbrev ltI (a b:Int):Bool:=decide (a<b)
abbrev leI (a b:Int):Bool:=decide (a≤b)
abbrev gtI (a b:Int):Bool:=decide (a > b)
abbrev geI (a b:Int):Bool:=decide (a ≥ b)
abbrev ltN (a b:Nat):Bool:=decide (a<b)
abbrev leN (a b:Nat):Bool:=decide (a≤b)
def chk (c:Bool) (x:DT):DT:=.ite c x .fail
def isLit:Operand→Bool
 | .const _=>true
 | _=>false
def stepBin0 (op:BinOp) (t:TypeId) (x y:AV):DT :=
 match x,y with
 | .p (.int j a),.p (.int i b) =>
  match op with
  | .shl=>chk (!(decide (b<0)))<|.ret { val:=.p (.int j (j.wrap (a*2 ^ (min b.toNat j.bits)))) }
  | .shr=>chk (!(decide (b<0)))<|.ret { val:=.p (.int j (a.fdiv (2 ^ (min b.toNat j.bits)))) }
  | .quo=>chk (j==i)<|chk (!(decide (b=0)))<|.ret { val:=.p (.int j (j.wrap (a.tdiv b))) }
  | .rem=>chk (j==i)<|chk (!(decide (b=0)))<|.ret { val:=.p (.int j (a.tmod b)) }
  | op=>chk (j==i)<|match binInt op j a b with
   | some v=>.ret { val:=.p v }
   | none=>.fail
 | .p (.str a),.p (.str b) =>
  match op with
  | .add=>chk (decide (a.size+b.size≤4611686018427387904))<|.ret { val:=.p (.str (a++b)) }
  | op=>match binStr op a b with
   | some v=>.ret { val:=.p v }
   | none=>.fail
 | .p (.bool a),.p (.bool b) =>
  match op,und T t with
  | .eql,some .bool=>.ret { val:=.p (.bool (a==b)) }
  | .neq,some .bool=>.ret { val:=.p (.bool (!(a==b))) }
  | _,_=>.fail
 | .p (.agg a),.p (.agg b) =>
  chk (plainT T t) <|
   match und T t with
   | some (.struct _) =>
    match op,eqT T 4 t a b with
    | .eql,some r=>.ret { val:=.p (.bool r) }
    | .neq,some r=>.ret { val:=.p (.bool (!r)) }
    | _,_=>.fail
   | _=>.fail
 | _,_=>.fail
def stepNil (op:BinOp) (t:TypeId) (kc:Bool) (x y:AV):DT :=
 match y,x with
 | .p .nilfn,.p x =>
  match op,und T t with
  | .eql,some (.func _ _ _)=>chk x.isF<|.ret { val:=.p (.bool x.isNilF) }
  | .neq,some (.func _ _ _)=>chk x.isF<|.ret { val:=.p (.bool (!x.isNilF)) }
  | _,_=>.fail
 | .p .nilif,.p x =>
  match op,und T t with
  | .eql,some (.interface _)=>chk (kc&&x.isI)<|.ret { val:=.p (.bool x.isNilI) }
  | .neq,some (.interface _)=>chk (kc&&x.isI)<|.ret { val:=.p (.bool (!x.isNilI)) }
  | _,_=>.fail
 | .p .nil,.p (.list _ _ xs) =>
  match op,und T t with
  | .eql,some (.slice _)=>chk (Nat.blt 0 xs.length)<|.ret { val:=.p (.bool false) }
  | .neq,some (.slice _)=>chk (Nat.blt 0 xs.length)<|.ret { val:=.p (.bool true) }
  | _,_=>.fail
 | _,_=>.fail
def stepBin (op:BinOp) (t:TypeId) (kc:Bool) (x y:AV):DT :=
 match y with
 | .p .nilfn=>stepNil T op t kc x y
 | .p .nilif=>stepNil T op t kc x y
 | .p .nil=>stepNil T op t kc x y
 | _=>stepBin0 T op t x y
def stepUn (op:UnOp) (x:AV):DT :=
 match op,x with
 | .neg,.p (.int j n)=>.ret { val:=.p (.int j (j.wrap (0-n))) }
 | .not,.p (.bool b)=>.ret { val:=.p (.bool (!b)) }
 | _,_=>.fail
def stepPick (c a b:AV):DT :=
 match c with
 | .p (.bool c) =>
  match a,b with
  | .p (.bool x),.p (.bool y)=>.ret { val:=.p (.bool (cond c x y)) }
  | a,b=>.ite c (.ret { val:=a }) (.ret { val:=b })
 | _=>.fail
def blkOf (t:TypeId):PV→Blk
 | .agg [.nilp,.nil]=>.tb t (.p .nilp) (.p .nil)
 | z=>.box ((AV.p z).cells)
def stepAlloc (d:Option Nat) (t:TypeId):DT :=
 match d,zeroT T t with
 | some d,some z=>.ret { val:=.ptr d 0 0,chg:=[(d,blkOf t z)],new:=[d] }
 | _,_=>.fail
def stepBox (d:Option Nat) (v:AV):DT :=
 match d with
 | some d=>chk (v.ok&&!(AV.refers [d] v))<|.ret { val:=.ptr d 0 0,chg:=[(d,.box v.cells)],new:=[d] }
 | none=>.fail
def patch {β:Type} (cs:List β) (off:Nat) (vs:List β):List β:=cs.take off++vs++cs.drop (off+vs.length)
def fillC (place:Nat→Option (Nat × Nat)):List AV→List (Nat × AV)→Option (List AV)
 | cs,[]=>some cs
 | cs,(i,v)::r=>match place i with
  | none=>none
  | some (off,size) =>
   bif v.cells.length==size&&Nat.ble (off+size) cs.length&&v.ok then fillC place (patch cs off v.cells) r else none
def fieldPlaces:List Field→List (Option (Nat × Nat))
 | []=>[]
 | f::r=>((szOf T f.type).map fun n=>(f.offset,n))::fieldPlaces r
def stepBuild (t:TypeId) (parts:List (Nat × AV)):DT :=
 match zeroT T t,und T t with
 | some (.agg zs),some (.struct fs) =>
  chk ((fieldPlaces T fs.toList).all Option.isSome) <|
  match fillC (fun i=>((fieldPlaces T fs.toList)[i]?).bind id) (zs.map .p) parts with
  | some cs=>.ret { val:=mkAgg cs }
  | none=>.fail
 | some (.agg zs),some (.array _ e) =>
  match szOf T e with
  | some n=>match fillC (fun i=>some (i*n,n)) (zs.map .p) parts with
   | some cs=>.ret { val:=mkAgg cs }
   | none=>.fail
  | none=>.fail
 | _,_=>.fail
def fillX (h:Nat→Option Blk) (a:Bool) (ks:List Kd):List PV→List Nat→List (Nat × AV)→Option (List PV × List Nat)
 | xs,ss,[]=>some (xs,ss)
 | xs,ss,(i,v)::r=>match deep h v with
  | some (x,s)=>bif shapeOk a ks x&&Nat.blt i xs.length then fillX h a ks (xs.set i x) (ss++s) r else none
  | none=>none
def stepBuildSlice (h:Nat→Option Blk) (d:Option Nat) (t:TypeId) (len:Nat) (parts:List (Nat × AV)):DT :=
 match d,und T t with
 | some d,some (.slice e) =>
  match zeroT T e,szOf T e with
  | some z,some n =>
   let sh:=shapeT T e
   chk (n==sh.2.length&&shapeOk sh.1 sh.2 z&&Nat.ble (len*n) 16777216) <|
    match fillX h sh.1 sh.2 (List.replicate len z) [] parts with
    | some (xs,ss)=>.ret { val:=.slice d n 0 len,chg:=[(d,.arr sh.1 sh.2 xs)],new:=[d],frz:=ss }
    | none=>.fail
  | _,_=>.fail
 | _,_=>.fail
def stepBuildFull (l:Bool) (h:Nat→Option Blk) (t:TypeId) (len:Nat) (parts:List (Nat × AV)):DT :=
 match und T t with
 | some (.slice e) =>
  match zeroT T e,szOf T e with
  | some z,some n =>
   let sh:=shapeT T e
   chk (n==sh.2.length&&shapeOk sh.1 sh.2 z&&Nat.ble (len*n) 16777216) <|
    match fillX h sh.1 sh.2 (List.replicate len z) [] parts with
    | some (xs,[])=>.ret { val:=.p (bif l then .list sh.1 sh.2 xs else .full sh.1 sh.2 xs) }
    | _=>.fail
  | _,_=>.fail
 | _=>.fail
def readEl (t:TypeId) (n:Nat) (a:Bool) (ks:List Kd) (x:PV) (off:Nat):Option PV :=
 bif Nat.ble (off+n) ks.length then
  bif aggT T t then(bif a then some (.agg (etaFrom ((ks.drop off).take n) x off)) else none)
  else bif Nat.beq n 1 then(match (ks.drop off).head? with
   | some kd=>some (eta kd (x.cell off))
   | none=>none) else none
 else none
def readBox (t:TypeId) (n:Nat) (cs:List AV) (off:Nat):Option AV :=
 bif Nat.ble (off+n) cs.length then
  bif aggT T t then some (mkAgg ((cs.drop off).take n)) else(bif Nat.beq n 1 then some (cs.getD off .undef) else none)
 else none
def stepLoad (h:Nat→Option Blk) (t:TypeId) (ptr:AV):DT :=
 match szOf T t with
 | none=>.fail
 | some n =>
  match ptr with
  | .ptr s idx off=>match h s with
   | some (.box cs)=>match readBox T t n cs off with
    | some v=>.ret { val:=v }
    | none=>.fail
   | some (.arr a ks xs)=>match readEl T t n a ks (xs.getD idx .nil) off with
    | some v=>.ret { val:=.p v }
    | _=>.fail
   | _=>.fail
  | .lptr a ks x off=>match readEl T t n a ks x off with
   | some v=>.ret { val:=.p v }
   | none=>.fail
  | .p (.ref cs)=>match readBox T t n (cs.map .p) 0 with
   | some v=>.ret { val:=v }
   | none=>.fail
  | _=>.fail
def stepStore (h:Nat→Option Blk) (t:TypeId) (ptr v:AV):DT :=
 match szOf T t with
 | none=>.fail
 | some n =>
  chk (v.cells.length==n) <|
   match ptr with
   | .ptr s idx off=>match h s with
    | some (.box cs) =>
     chk (v.ok&&(Nat.beq idx 0&&Nat.ble (off+n) cs.length))<|.ret { val:=.undef,chg:=[(s,.box (patch cs off v.cells))] }
    | some (.arr a ks xs) =>
     match deep h v with
     | some (x,ss) =>
      match a with
      | true =>
       chk (kindsOk ((ks.drop off).take n) x.cells&&(Nat.ble (off+n) ks.length&&!(memN s ss))) <|
        .ret { val:=.undef,chg:=[(s,.arr a ks (xs.set idx (.agg (patch (etaFrom ks (xs.getD idx .nil) 0) off x.cells))))],frz:=ss }
      | false =>
       chk (shapeOk a ks x&&(Nat.beq off 0&&(Nat.beq n 1&&!(memN s ss))))<|.ret { val:=.undef,chg:=[(s,.arr a ks (xs.set idx x))],frz:=ss }
     | none=>.fail
    | _=>.fail
   | _=>.fail
def stepFieldAddr (t:TypeId) (ptr:AV) (f:Nat):DT :=
 match und T t with
 | some (.struct fs) =>
  match fs[f]? with
  | some fd =>
   match szOf T fd.type with
   | some (_+1) =>
    match ptr with
    | .ptr s idx off=>.ret { val:=.ptr s idx (off+fd.offset) }
    | .lptr a ks x off=>.ret { val:=.lptr a ks x (off+fd.offset) }
    | .p (.ref cs)=>.ret { val:=.lptr true (cs.map kdOf) (.agg cs) fd.offset }
    | _=>.fail
   | _=>.fail
  | none=>.fail
 | _=>.fail
def stepField (t:TypeId) (x:AV) (f:Nat):DT :=
 match und T t with
 | some (.struct fs) =>
  match fs[f]? with
  | some fd =>
   match szOf T fd.type,x with
   | some n,.p (.agg cs)=>match readBox T fd.type n (cs.map .p) fd.offset with
    | some v=>.ret { val:=v }
    | none=>.fail
   | some n,.agg cs=>match readBox T fd.type n cs fd.offset with
    | some v=>.ret { val:=v }
    | none=>.fail
   | _,_=>.fail
  | none=>.fail
 | _=>.fail
def idxAlt (f:Nat→AV) (i:Int):Nat→Nat→DT
 | 0,_=>.fail
 | m+1,j=>.ite (decide (i=(j:Int))) (.ret { val:=f j }) (idxAlt f i m (j+1))
def stepIndexAddr (t:TypeId) (x:AV) (i:AV):DT :=
 match i with
 | .p (.int _ i) =>
  match und T t with
  | some (.slice e) =>
   match szOf T e with
   | none=>.fail
   | some n =>
   match x with
   | .slice s z off len=>chk (z==n)<|chk (decide (0≤i)&&decide (i<(len:Int)))<|.ret { val:=.ptr s (off+i.toNat) 0 }
   | .bslice s off len=>chk (n==1)<|chk (decide (0≤i)&&decide (i<(len:Int)))<|.ret { val:=.ptr s 0 (off+i.toNat) }
   | .p (.list a ks xs)=>chk (ks.length==n)<|chk (decide (0≤i)&&decide (i<(xs.length:Int)))<|.ret { val:=.lptr a ks (xs.getD i.toNat .nil) 0 }
   | .p (.full a ks xs)=>chk (ks.length==n)<|chk (decide (0≤i)&&decide (i<(xs.length:Int)))<|.ret { val:=.lptr a ks (xs.getD i.toNat .nil) 0 }
   | _=>.fail
  | some (.array n e) =>
   match x,szOf T e with
   | .ptr s idx off,some m=>chk (decide (0≤i)&&decide (i<(n:Int)))<|bif Nat.ble n 8 then idxAlt (fun j=>.ptr s idx (off+j*m)) i n 0 else .ret { val:=.ptr s idx (off+i.toNat*m) }
   | .lptr a ks y off,some m=>chk (decide (0≤i)&&decide (i<(n:Int)))<|.ret { val:=.lptr a ks y (off+i.toNat*m) }
   | _,_=>.fail
  | _=>.fail
 | _=>.fail
def stepIndex (t:TypeId) (x:AV) (i:AV):DT :=
 match i with
 | .p (.int _ i) =>
  match und T t,x with
  | some .string,.p (.str s)=>chk (decide (0≤i)&&decide (i<(s.size:Int)))<|.ret { val:=.p (.int .u8 ((s.data.getD i.toNat 0).toNat:Int)) }
  | some (.array n e),.p (.agg cs) =>
   match (shapeT T e).2,szOf T e with
   | [kd],some 1 =>
    chk (cs.all (kindOk kd)&&Nat.beq cs.length n&&!(aggT T e)) <|
     chk (decide (0≤i)&&decide (i<(n:Int)))<|.ret { val:=.p (eta kd (cs.getD i.toNat .nil)) }
   | _,some m =>
    chk (Nat.ble n 8&&((List.range n).all (fun j=>(readBox T e m (cs.map .p) (j*m)).isSome))) <|
     chk (decide (0≤i)&&decide (i<(n:Int)))<|idxAlt (fun j=>(readBox T e m (cs.map .p) (j*m)).getD .undef) i n 0
   | _,_=>.fail
  | _,_=>.fail
 | _=>.fail
def stepMakeSlice (d:Option Nat) (t:TypeId) (len cap:AV):DT :=
 match d,und T t,len,cap with
 | some d,some (.slice e),.p (.int _ l),.p (.int _ c) =>
  match zeroT T e,szOf T e,bytesOfT T e with
  | some z,some n,some by_ =>
   let sh:=shapeT T e
   chk (n==sh.2.length&&shapeOk sh.1 sh.2 z&&Nat.ble by_ 16384) <|
    chk (decide (0≤l)&&(decide (l≤c)&&decide (c≤2147483648))) <|
     .ret { val:=.slice d n 0 l.toNat,chg:=[(d,.arr sh.1 sh.2 (List.replicate l.toNat z))],new:=[d] }
  | _,_,_=>.fail
 | _,_,_,_=>.fail
def bound (dflt:Int):Option AV→Option Int
 | none=>some dflt
 | some (.p (.int _ n))=>some n
 | _=>none
def stepMakeMap (d:Option Nat) (t:TypeId) (hint:Option AV):DT :=
 match d,und T t,hint with
 | some d,some (.map _ _),none=>.ret { val:=.mref d,chg:=[(d,.mp t [])],new:=[d] }
 | _,_,_=>.fail
def PV.keyLeaf:PV→Bool
 | .int _ _=>true
 | .str _=>true
 | _=>false
def leafKey (t:TypeId):Bool:=match und T t with
 | some (.int _)=>true
 | some .string=>true
 | _=>false
def mapFindL (t:TypeId) (k:PV):List (PV × PV)→Option (Option Nat)
 | []=>some none
 | p::r=>match eqLeaf (und T t) k p.1 with
  | some true=>some (some 0)
  | some false=>(mapFindL t k r).map fun i=>i.map (·+1)
  | none=>none
def stepMapUpdateL (h:Nat→Option Blk) (t:TypeId) (m k v:AV):DT :=
 match und T t,m,k,v with
 | some (.map kt _),.mref s,.p k,.p v=>match h s with
  | some (.mp u es) =>
   chk (leafKey T kt&&(v.isCell&&k.keyLeaf)) <|
   chk ((mapFindL T kt k es).isSome)<|.ret { val:=.undef,chg:=[(s,.mp u (mapPut es k v ((mapFindL T kt k es).getD none)))] }
  | _=>.fail
 | _,_,_,_=>.fail
def stepMapUpdate (h:Nat→Option Blk) (t:TypeId) (m k v:AV):DT :=
 match k with
 | .p (.agg kc) =>
  match und T t,m,v with
  | some (.map kt _),.mref s,.p v=>match h s with
   | some (.mp u es) =>
    chk (flatKey T kt&&(v.isCell&&Nat.beq kc.length (nFields T kt))) <|
    chk ((mapFind T kt kc es).isSome)<|.ret { val:=.undef,chg:=[(s,.mp u (mapPut es (.agg kc) v ((mapFind T kt kc es).getD none)))] }
   | _=>.fail
  | _,_,_=>.fail
 | k=>stepMapUpdateL T h t m k v
def keyFind (t:TypeId) (k:PV) (es:List (PV × PV)):Option (Option Nat) :=
 match k with
 | .agg kc=>bif flatKey T t&&Nat.beq kc.length (nFields T t) then mapFind T t kc es else none
 | k=>bif leafKey T t&&k.keyLeaf then mapFindL T t k es else none
def mapAt (z:PV) (es:List (PV × PV)):Option Nat→PV
 | some i=>(es.getD i (.nil,.nil)).2
 | none=>z
def lookDT (kt:TypeId) (kd:Kd) (z:PV) (es:List (PV × PV)) (k:PV) (ok:Bool):DT :=
 chk ((keyFind T kt k es).isSome) <|
  chk (kindOk kd (mapAt z es ((keyFind T kt k es).getD none))) <|
   .ret { val:=bif ok then .tup [.p (eta kd (mapAt z es ((keyFind T kt k es).getD none))),.p (.bool ((keyFind T kt k es).getD none).isSome)] else .p (eta kd (mapAt z es ((keyFind T kt k es).getD none))) }
def stepMapEntry (h:Nat→Option Blk) (t:TypeId) (m k:AV):DT :=
 match und T t,m,k with
 | some (.map kt et),.mref s,.p (.agg kc)=>match h s,zeroT T et with
  | some (.mp u es),some z =>
   chk (flatKey T kt&&(z.isCell&&Nat.beq kc.length (nFields T kt))) <|
   chk ((mapFind T kt kc es).isSome) <|
    .ret { val:=.tup [.p (mapAt z es ((mapFind T kt kc es).getD none)),.p (.int .i64 ((((mapFind T kt kc es).getD none).getD es.length:Nat):Int))],chg:=[(s,.mp u (mapPut es (.agg kc) (mapAt z es ((mapFind T kt kc es).getD none)) ((mapFind T kt kc es).getD none)))] }
  | _,_=>.fail
 | _,_,_=>.fail
def stepEntryStore (h:Nat→Option Blk) (m k v:AV):DT :=
 match m,k,v with
 | .mref s,.p (.int _ n),.p v=>match h s with
  | some (.mp u es)=>chk (v.isCell&&(decide (0≤n)&&decide (n.toNat<es.length)))<|.ret { val:=.undef,chg:=[(s,.mp u (es.set n.toNat ((es.getD n.toNat (.nil,.nil)).1,v)))] }
  | _=>.fail
 | _,_,_=>.fail
def stepLookup (h:Nat→Option Blk) (t:TypeId) (m k:AV) (ok:Bool):DT :=
 match und T t with
 | some (.map kt et) =>
  match zeroT T et,shapeT T et,k with
  | some z,(false,[kd]),.p k =>
   match m with
   | .mref s=>match h s with
    | some (.mp _ es)=>lookDT T kt kd z es k ok
    | _=>.fail
   | .p v=>chk v.isMap<|lookDT T kt kd z (v.mkeys.zip v.mvals) k ok
   | _=>.fail
  | _,_,_=>.fail
 | _=>.fail
def stepSlice (t:TypeId) (x:AV) (lo hi mx:Option AV):DT :=
 match und T t with
 | some .string =>
  match x,mx with
  | .p (.str s),none =>
   match bound 0 lo,bound s.size hi with
   | some l,some u=>chk (decide (0≤l)&&(decide (l≤u)&&decide (u≤(s.size:Int))))<|.ret { val:=.p (.str (s.extract l.toNat u.toNat)) }
   | _,_=>.fail
  | _,_=>.fail
 | some (.slice e) =>
  match szOf T e with
  | none=>.fail
  | some n =>
  match x with
  | .slice s z off len =>
   match bound 0 lo,bound len hi,bound len mx with
   | some l,some u,some m =>
    chk (z==n)<|chk (decide (0≤l)&&(decide (l≤u)&&(decide (u≤m)&&decide (m≤(len:Int)))))<|.ret { val:=.slice s z (off+l.toNat) (u-l).toNat }
   | _,_,_=>.fail
  | .bslice s off len =>
   match bound 0 lo,bound len hi,bound len mx with
   | some l,some u,some m =>
    chk (n==1)<|chk (decide (0≤l)&&(decide (l≤u)&&(decide (u≤m)&&decide (m≤(len:Int)))))<|.ret { val:=.bslice s (off+l.toNat) (u-l).toNat }
   | _,_,_=>.fail
  | .p (.list a ks xs) =>
   match bound 0 lo,bound xs.length hi,bound xs.length mx with
   | some l,some u,some m =>
    chk (ks.length==n)<|chk (decide (0≤l)&&(decide (l≤u)&&(decide (u≤m)&&decide (m≤(xs.length:Int))))) <|
     match mx with
     | none=>.ret { val:=.p (.list a ks ((xs.drop l.toNat).take (u-l).toNat)) }
     | some _=>.ite (decide (u=m)) (.ret { val:=.p (.full a ks ((xs.drop l.toNat).take (u-l).toNat)) })
      (.ret { val:=.p (.list a ks ((xs.drop l.toNat).take (u-l).toNat)) })
   | _,_,_=>.fail
  | .p .nil =>
   match bound 0 lo,bound 0 hi,bound 0 mx with
   | some l,some u,some m=>chk (decide (l=0)&&(decide (u=0)&&decide (m=0)))<|.ret { val:=.p .nil }
   | _,_,_=>.fail
  | _=>.fail
 | _=>.fail
def stepExtract (x:AV) (i:Nat):DT :=
 match x with
 | .tup vs=>match vs[i]? with
  | some v=>.ret { val:=v }
  | none=>.fail
 | _=>.fail
def isSl:AV→Bool
 | .slice _ _ _ _=>true
 | .p (.list _ _ _)=>true
 | _=>false
def bytesOf (xs:List PV):ByteArray:=⟨(xs.map fun x=>UInt8.ofNat x.toInt.toNat).toArray⟩
def stepConvert (h:Nat→Option Blk) (_d:Option Nat) (src dst:TypeId) (x:AV):DT :=
 match x with
 | .p (.int _ n)=>match und T src,und T dst with
  | some _,some (.int j)=>.ret { val:=.p (.int j (j.wrap n)) }
  | _,_=>.fail
 | x=>match und T src,und T dst with
  | some (.slice e),some .string=>match und T e,srcOf h x with
   | some (.int .u8),some (s2,_,ys)=>chk (sameSh s2 false [.int .u8]&&isSl x)<|.ret { val:=.p (.str (bytesOf ys)) }
   | _,_=>.fail
  | _,_=>.fail
def stepMakeFunc (fn:Fn) (first:List AV) (caps:List AV):DT :=
 match fn,first with
 | .func f,[]=>match pures caps with
  | some vs=>.ret { val:=.p (.fn f vs) }
  | none=>chk (AV.okCells caps)<|.ret { val:=.fn f caps }
 | _,_=>.fail
def stepLen (h:Nat→Option Blk) (t:TypeId) (x:AV):DT :=
 match und T t,x with
 | some (.map _ _),.mref s=>match h s with
  | some (.mp _ es)=>.ret { val:=.p (.int .i64 es.length) }
  | _=>.fail
 | some .string,.p (.str s)=>.ret { val:=.p (.int .i64 s.size) }
 | some (.slice _),.slice _ _ _ len=>.ret { val:=.p (.int .i64 len) }
 | some (.slice _),.bslice _ _ len=>.ret { val:=.p (.int .i64 len) }
 | some (.slice _),.p (.list _ _ xs)=>.ret { val:=.p (.int .i64 xs.length) }
 | some (.slice _),.p (.full _ _ xs)=>.ret { val:=.p (.int .i64 xs.length) }
 | some (.slice _),.p .nil=>.ret { val:=.p (.int .i64 0) }
 | some (.array n _),_=>.ret { val:=.p (.int .i64 n) }
 | _,_=>.fail
def stepApp (h:Nat→Option Blk) (d:Nat) (sh:Bool × List Kd) (x:AV) (s2:Option (Bool × List Kd)) (m:Nat) (ys:List PV):DT :=
 chk (sameSh s2 sh.1 sh.2) <|
 match x with
 | .slice s _ off len =>
  match h s with
  | some (.arr a ks xs) =>
   chk (a==sh.1&&(Kd.beqs ks sh.2&&Nat.blt s 100000)) <|
   chk (decide (len+m≤2147483648)) <|
    .ret { val:=.slice s sh.2.length 0 (len+m),chg:=[(s,.arr sh.1 sh.2 ((xs.drop off).take len++ys))],cut:=[s] }
  | _=>.fail
 | .p .nil=>chk (decide (m≤2147483648))<|.ret { val:=.slice d sh.2.length 0 m,chg:=[(d,.arr sh.1 sh.2 ys)],new:=[d] }
 | .p (.full a ks xs) =>
  chk (a==sh.1&&Kd.beqs ks sh.2)<|chk (decide (0<m∨xs.length=0)&&decide (xs.length+m≤2147483648)) <|
   .ret { val:=.slice d sh.2.length 0 (xs.length+m),chg:=[(d,.arr sh.1 sh.2 (xs++ys))],new:=[d] }
 | _=>.fail
def stepAppend (h:Nat→Option Blk) (d:Option Nat) (t t2:TypeId) (x y:AV):DT :=
 match d,und T t with
 | some d,some (.slice e) =>
  match zeroT T e,szOf T e,bytesOfT T e with
  | some z,some n,some by_ =>
   chk (n==(shapeT T e).2.length&&(shapeOk (shapeT T e).1 (shapeT T e).2 z&&Nat.ble by_ 16384)) <|
   match und T t2 with
   | some (.int _)=>match y with
    | .p (.int _ m)=>chk (decide (0≤m)&&decide (m≤2147483648))<|stepApp h d (shapeT T e) x none m.toNat (List.replicate m.toNat z)
    | _=>.fail
   | some _=>match srcOf h y with
    | some (s2,m,ys)=>stepApp h d (shapeT T e) x s2 m ys
    | none=>.fail
   | none=>.fail
  | _,_,_=>.fail
 | _,_=>.fail
def argSite:Nat:=100000
def pureBlk:Blk→Bool
 | .box cs=>(pures cs).isSome
 | .arr _ _ _=>true
 | _=>false
def AV.freshList:AV→List PV
 | .fresh _ _ xs=>xs
 | _=>[]
def AV.pv:AV→PV
 | .p v=>v
 | _=>.nil
def AV.aggPv:AV→PV
 | .agg cs=>.agg (cs.map AV.pv)
 | .p v=>v
 | _=>.nil
def AV.aggList:AV→List PV
 | .agg cs=>(cs.getD (cs.length-1) .undef).freshList
 | _=>[]
def unsnoc {β:Type}:List β→Option (List β × β)
 | []=>none
 | [x]=>some ([],x)
 | x::y::r=>match unsnoc (y::r) with
  | some (l,z)=>some (x::l,z)
  | none=>none
def AV.sOff:AV→Nat
 | .slice _ _ o _=>o
 | _=>0
def AV.sLen:AV→Nat
 | .slice _ _ _ l=>l
 | _=>0
def Blk.xs:Blk→List PV
 | .arr _ _ xs=>xs
 | _=>[]
def Blk.cs:Blk→List AV
 | .box cs=>cs
 | _=>[]
def Blk.ls:Blk→List PV
 | .log _ xs=>xs
 | _=>[]
def resVal (d:Nat) (i:Nat) (_ss:List Nat) (m:RetMode) (t:TypeId) (r:AV):Option (AV × List (Nat × Blk)) :=
 match m with
 | .deep=>match shapeT T t with
  | (true,ks)=>some (.p (.agg (etaFrom ks r.pv 0)),[])
  | (false,[k])=>some (.p (eta k r.pv),[])
  | _=>none
 | .fresh=>match und T t with
  | some (.slice e)=>some (.slice (d+1000*i) (shapeT T e).2.length 0 r.freshList.length,[(d+1000*i,.arr (shapeT T e).1 (shapeT T e).2 r.freshList)])
  | _=>none
 | .alias _=>none
 | .func g qs=>some (.p (.fn g (etaCaps qs r.pv 0)),[])
 | .nilF=>some (.p .nilfn,[])
 | .funcN _ _=>none
 | .fnAny=>none
 | .aggF=>match shapeT T t with
  | (true,ks)=>match unsnoc ks with
   | some (ks,.slice a ls)=>some (.agg ((etaFrom ks r.aggPv 0).map .p++[.slice (d+1000*i) ls.length 0 r.aggList.length]),[(d+1000*i,.arr a ls r.aggList)])
   | _=>none
  | _=>none
def resVals (d:Nat) (ss:List Nat):Nat→List RetMode→List TypeId→List AV→Option (List AV × List (Nat × Blk))
 | _,_,[],_=>some ([],[])
 | i,ms,t::ts,rs =>
  match resVal T d i ss (ms.headD .deep) t (rs.headD .undef),resVals d ss (i+1) ms.tail ts rs.tail with
  | some (v,b),some (vs,bs)=>some (v::vs,b++bs)
  | _,_=>none
def wrapRes:List AV→AV
 | [v]=>v
 | vs=>.tup vs
def keysOf:List (Nat × Blk)→List Nat
 | []=>[]
 | (k,_)::r=>k::keysOf r
def Kd.flat:Kd→Bool
 | .int _=>true
 | .bool=>true
 | .str=>true
 | _=>false
def retFlat (m:RetMode) (t:TypeId):Bool :=
 match m with
 | .deep=>(shapeT T t).2.all Kd.flat
 | .fresh=>match und T t with
  | some (.slice e)=>(shapeT T e).2.all Kd.flat
  | _=>false
 | .alias _=>false
 | .func _ _=>false
 | .fnAny=>false
 | .aggF=>match shapeT T t with
  | (true,ks)=>match unsnoc ks with
   | some (ks,.slice _ ls)=>ks.all Kd.flat&&ls.all Kd.flat
   | _=>false
  | _=>false
 | _=>true
def retsFlat:List RetMode→List TypeId→Bool
 | _,[]=>true
 | ms,t::ts=>retFlat T (ms.headD .deep) t&&retsFlat ms.tail ts
def normPV:Bool × List Kd→PV→PV
 | (false,[.slice a ks]),.nil=>.list a ks []
 | _,v=>v
def normArgs:List TypeId→List PV→List AV
 | t::ts,v::vs=>.p (normPV (shapeT T t) v)::normArgs ts vs
 | [],vs=>vs.map .p
 | _::_,[]=>[]
abbrev CallF:=Nat→List AV→List Blk→Option (List AV × List Blk)
def nilAt:List RetMode→List AV→Option Bool
 | [],_=>none
 | .funcN _ _::_,rs=>some (rs.headD .undef).pv.isNilF
 | _::ms,rs=>nilAt ms rs.tail
def asNil:List RetMode→List RetMode
 | []=>[]
 | .funcN _ _::ms=>.nilF::ms
 | m::ms=>m::asNil ms
def asFn:List RetMode→List RetMode
 | []=>[]
 | .funcN g qs::ms=>.func g qs::ms
 | m::ms=>m::asFn ms
def retSplit (ms:List RetMode) (rs:List AV) (k:List RetMode→DT):DT :=
 match nilAt ms rs with
 | none=>k ms
 | some b=>.ite b (k (asNil ms)) (k (asFn ms))
def strPVs (s:ByteArray):List PV:=s.data.toList.map fun b=>.int .u8 b.toNat
def ownAddr (s:Nat):AV→Bool
 | .p .nilp=>true
 | .ptr x 0 0=>x==s
 | _=>false
def PV.isByte:PV→Bool
 | .int .u8 n=>decide (0≤n)&&decide (n<256)
 | _=>false
def PV.fullOf (k:Kd):PV→Bool
 | .full false [l] xs=>Kd.beq l k&&Nat.blt 0 xs.length
 | _=>false
def PV.isI64:PV→Bool
 | .int .i64 n=>decide (-9223372036854775808≤n)&&decide (n≤9223372036854775807)
 | _=>false
def appBytes (h:Nat→Option Blk) (d s:Nat) (t e:TypeId) (c1:AV) (m:Nat) (ys:List PV) (val:AV):DT :=
 match c1 with
 | .p .nil=>chk (!(d==s))<|chk (decide (m≤2147483648))<|.ret { val,chg:=[(d,.br e ys),(s,.tb t (.ptr s 0 0) (.mref d))],new:=[d] }
 | .mref g=>match h g with
  | some (.br f xs)=>chk (f==e&&(Nat.blt g 100000&&!(g==s)))<|chk (decide (xs.length+m≤2147483648)) <|
   .ret { val,chg:=[(g,.br e (xs++ys)),(s,.tb t (.ptr s 0 0) (.mref g))],cut:=[g] }
  | _=>.fail
 | _=>.fail
def stepPrim (k:Prim) (ts:List TypeId) (e:TypeId) (h:Nat→Option Blk) (d:Option Nat) (args:List AV):DT :=
 match d,k,args with
 | some d,.wline g,[.ptr s 0 0,.p x,.p y]=>match h s with
  | some (.tb t c0 c1)=>chk (memN t ts&&(ownAddr s c0&&Nat.blt s 100000))<|chk (x.fullOf .str&&y.fullOf (.int .i64))<|chk (y.toList.all PV.isI64)<|appBytes h d s t e c1 (g x.toList y.toList).size (strPVs (g x.toList y.toList)) (.tup [])
  | _=>.fail
 | some _,.str,[.ptr s 0 0]=>match h s with
  | some (.tb t c0 c1)=>chk (memN t ts&&(ownAddr s c0&&Nat.blt s 100000)) <|
   match c1 with
   | .p .nil=>.ret { val:=.p (.str ByteArray.empty) }
   | .mref g=>match h g with
    | some (.br f xs)=>chk (f==e&&(Nat.blt g 100000&&!(g==s)))<|chk (decide (xs.length≤2147483648))<|chk (xs.all PV.isByte)<|.ret { val:=.p (.str (bytesOf xs)) }
    | _=>.fail
   | _=>.fail
  | _=>.fail
 | _,_,_=>.fail
def stepCall0 (C:CallF) (h:Nat→Option Blk) (d:Option Nat) (f:Nat) (args:List AV):DT :=
 match d,tlook T.funcs f with
 | some d,some fi =>
  match fi.cfg.byRef with
  | false =>
   match deeps h args with
   | some (vs,ss) =>
    .call (C f (cond fi.cfg.rawNil (vs.map .p) (normArgs T fi.fn.params.toList vs)) []) fun r =>
     retSplit fi.cfg.rets r.1 fun ms =>
     match resVals T d [] 0 ms fi.fn.resultTypes.toList r.1 with
     | some (xs,bs)=>.ret { val:=wrapRes xs,chg:=bs,new:=keysOf bs,frz:=cond fi.cfg.shares ss [] }
     | none=>.fail
   | none=>.fail
  | true=>.fail
 | _,_=>.fail
def varSite (keep:Bool):Nat:=cond keep 100001 99999
def varHeap (keep:Bool):List Blk→Heap
 | [b0,b1]=>[(argSite,b0),(varSite keep,b1)]
 | _=>[]
def varXs (bl:List Blk):List PV:=(bl.getD 1 (.box [])).xs
def varV (bl:List Blk):AV:=(bl.headD (.box [])).cs.headD .undef
def varGo (C:CallF) (h:Nat→Option Blk) (d f:Nat) (fi:FI) (pre:List AV) (s A:Nat) (nw:List Nat) (a:Bool) (ks:List Kd) (off len:Nat) (xs:List PV):DT :=
 match deeps h pre with
 | some (vs,ss) =>
  bif (Nat.blt s 100000&&(Nat.blt A 100000&&!(A==s)))&&(!(memN s ss)&&!(memN A ss)) then
  .call (C f (cond fi.cfg.rawNil (vs.map .p) (normArgs T fi.fn.params.toList vs)++[.ptr argSite 0 0]) [.box [.slice (varSite fi.cfg.vkeep) ks.length off len],.arr a ks xs]) fun r =>
   match resVals T d [] 0 fi.cfg.rets fi.fn.resultTypes.toList r.1 with
   | some (rv,[])=>.ret { val:=wrapRes rv,chg:=[(A,.arr a ks (varXs r.2)),(s,.box [.slice A ks.length (varV r.2).sOff (varV r.2).sLen])],new:=nw,cut:=cond fi.cfg.vkeep [] [A],frz:=ss }
   | _=>.fail
  else .fail
 | none=>.fail
def stepVar (C:CallF) (h:Nat→Option Blk) (d:Option Nat) (f:Nat) (args:List AV):DT :=
 match d,tlook T.funcs f,unsnoc args with
 | some d,some fi,some (pre,.ptr s 0 0)=>match h s with
  | some (.box [.slice A _ off len])=>match h A with
   | some (.arr a ks xs)=>varGo T C h d f fi pre s A [] a ks off len xs
   | _=>.fail
  | some (.box [.p .nil])=>bif fi.cfg.vkeep then .fail else varGo T C h d f fi pre s d [d] (shapeT T fi.cfg.vElem).1 (shapeT T fi.cfg.vElem).2 0 0 []
  | _=>.fail
 | _,_,_=>.fail
def stepCall (C:CallF) (h:Nat→Option Blk) (d:Option Nat) (f:Nat) (args:List AV):DT :=
 bif (cfgOf T f).prim.is then stepPrim (cfgOf T f).prim (cfgOf T f).primTs (cfgOf T f).primE h d args else
 bif (cfgOf T f).vcall then stepVar T C h d f args else stepCall0 T C h d f args
def optEval (env:List AV):Option Operand→Option AV
 | none=>none
 | some x=>some (evalO env x)
def partsEval (env:List AV):List (Nat × Operand)→List (Nat × AV)
 | []=>[]
 | (i,x)::r=>(i,evalO env x)::partsEval env r
def inFulls:Option Nat→Bool
 | some d=>memN d T.fulls||memN (1000000+d) T.fulls
 | none=>false
def inLists:Option Nat→Bool
 | some d=>memN (1000000+d) T.fulls
 | none=>false
def stepOp (C:CallF) (env:List AV) (h:Nat→Option Blk) (o:Oper):DT :=
 match o.op with
 | .move x=>.ret { val:=evalO env x }
 | .assign x =>
  match o.dst,x,und T o.type with
  | some d,.const (.slice none 0 0),some (.slice e)=>.ret { val:=.slice d (shapeT T e).2.length 0 0,chg:=[(d,.arr (shapeT T e).1 (shapeT T e).2 [])],new:=[d] }
  | _,x,_=>.ret { val:=evalO env x }
 | .pick c a b=>stepPick (evalO env c) (evalO env a) (evalO env b)
 | .alloc t=>stepAlloc T o.dst t
 | .box _ v=>stepBox o.dst (evalO env v)
 | .build t parts=>stepBuild T t (partsEval env parts.toList)
 | .buildSlice t len parts=>bif inFulls T o.dst then stepBuildFull T (inLists T o.dst) h t len (partsEval env parts.toList) else stepBuildSlice T h o.dst t len (partsEval env parts.toList)
 | .load t a=>stepLoad T h t (evalO env a)
 | .store t a v=>stepStore T h t (evalO env a) (evalO env v)
 | .binOp op t x y _=>stepBin T op t (isLit y) (evalO env x) (evalO env y)
 | .unOp op _ x=>stepUn op (evalO env x)
 | .convert s t x=>stepConvert T h o.dst s t (evalO env x)
 | .makeFunc fn first caps=>stepMakeFunc fn (evalOs env first.toList) (evalOs env caps.toList)
 | .makeSlice t l c=>stepMakeSlice T o.dst t (evalO env l) (evalO env c)
 | .makeMap t r=>stepMakeMap T o.dst t (optEval env r)
 | .mapUpdate t m k v=>stepMapUpdate T h t (evalO env m) (evalO env k) (evalO env v)
 | .insert t m k v=>stepMapUpdate T h t (evalO env m) (evalO env k) (evalO env v)
 | .mapEntry t m k=>stepMapEntry T h t (evalO env m) (evalO env k)
 | .entryStore _ m k v=>stepEntryStore h (evalO env m) (evalO env k) (evalO env v)
 | .lookup t m k ok=>stepLookup T h t (evalO env m) (evalO env k) ok
 | .slice t x lo hi mx=>match und T t with
  | some (.array _ _)=>.fail
  | _=>match mx,hi with
   | some _,none=>.fail
   | _,_=>stepSlice T t (evalO env x) (optEval env lo) (optEval env hi) (optEval env mx)
 | .fieldAddr t x f=>stepFieldAddr T t (evalO env x) f
 | .field t x f=>stepField T t (evalO env x) f
 | .indexAddr t x i=>stepIndexAddr T t (evalO env x) (evalO env i)
 | .index t x i=>stepIndex T t (evalO env x) (evalO env i)
 | .extract x i=>stepExtract (evalO env x) i
 | .call c =>
  match c.callee with
  | .builtin .len=>match c.args.toList,c.argTypes.toList with
   | [x],t::_=>stepLen T h t (evalO env x)
   | _,_=>.fail
  | .builtin .append=>match c.args.toList,c.argTypes.toList with
   | [x,y],[t,t2]=>stepAppend T h o.dst t t2 (evalO env x) (evalO env y)
   | _,_=>.fail
  | .value f=>match evalO env f with
   | .p (.fn f caps)=>stepCall T C h o.dst f (evalOs env c.args.toList++caps.map .p)
   | .fn f caps=>stepCall T C h o.dst f (evalOs env c.args.toList++caps)
   | _=>.fail
  | _=>.fail
 | _=>.fail
section
variable {α:Type}
def forceNat (m:Nat) (k:Nat→Option α):Option α :=
 match m with
 | 0=>k 0
 | m+1=>k (m+1)
def forceInt (n:Int) (k:Int→Option α):Option α :=
 match n with
 | .ofNat m=>forceNat m fun m=>k (.ofNat m)
 | .negSucc m=>forceNat m fun m=>k (.negSucc m)
mutual
def forcePV (b:Bool):PV→(PV→Option α)→Option α
 | .bool c,k=>bif b then cond c (k (.bool true)) (k (.bool false)) else k (.bool c)
 | .int j n,k=>bif b then forceInt n fun n=>k (.int j n) else k (.int j n)
 | .str s,k=>k (.str s)
 | .agg cs,k=>forcePVs b cs fun cs=>k (.agg cs)
 | .list a ks xs,k=>bif b then forcePVs b xs fun xs=>k (.list a ks xs) else k (.list a ks xs)
 | .full a ks xs,k=>bif b then forcePVs b xs fun xs=>k (.full a ks xs) else k (.full a ks xs)
 | .nil,k=>k .nil
 | .fn f cs,k=>bif b then forcePVs b cs fun cs=>k (.fn f cs) else k (.fn f cs)
 | .ref cs,k=>forcePVs b cs fun cs=>k (.ref cs)
 | .nilp,k=>k .nilp
 | .nilfn,k=>k .nilfn
 | .ifc,k=>k .ifc
 | .nilif,k=>k .nilif
 | .mapv ks vs,k=>k (.mapv ks vs)
 | .nilm,k=>k .nilm
def forcePVs (b:Bool):List PV→(List PV→Option α)→Option α
 | [],k=>k []
 | v::r,k=>forcePV b v fun v=>forcePVs b r fun r=>k (v::r)
end
mutual
def forceAV (b:Bool):AV→(AV→Option α)→Option α
 | .undef,k=>k .undef
 | .p v,k=>bif b then forcePV b v fun v=>k (.p v) else k (.p v)
 | .slice s z o l,k=>bif b then forceNat o fun o=>forceNat l fun l=>k (.slice s z o l) else k (.slice s z o l)
 | .bslice s o l,k=>bif b then forceNat o fun o=>forceNat l fun l=>k (.bslice s o l) else k (.bslice s o l)
 | .ptr s i o,k=>bif b then forceNat i fun i=>forceNat o fun o=>k (.ptr s i o) else k (.ptr s i o)
 | .lptr a ks x o,k=>bif b then forcePV b x fun x=>forceNat o fun o=>k (.lptr a ks x o) else k (.lptr a ks x o)
 | .fn f cs,k=>forceAVs b cs fun cs=>k (.fn f cs)
 | .agg cs,k=>forceAVs b cs fun cs=>k (.agg cs)
 | .tup cs,k=>forceAVs b cs fun cs=>k (.tup cs)
 | .fresh a ks xs,k=>bif b then forcePVs b xs fun xs=>k (.fresh a ks xs) else k (.fresh a ks xs)
 | .yld,k=>k .yld
 | .mref s,k=>k (.mref s)
def forceAVs (b:Bool):List AV→(List AV→Option α)→Option α
 | [],k=>k []
 | v::r,k=>forceAV b v fun v=>forceAVs b r fun r=>k (v::r)
end
def spine:List AV→(List AV→Option α)→Option α
 | [],k=>k []
 | v::r,k=>spine r fun r=>k (v::r)
def forceBlk (b:Bool):Blk→(Blk→Option α)→Option α
 | .box cs,k=>forceAVs b cs fun cs=>k (.box cs)
 | .arr a ks xs,k=>bif b then forcePVs b xs fun xs=>k (.arr a ks xs) else k (.arr a ks xs)
 | .log on xs,k=>bif b then forcePVs b xs fun xs=>k (.log on xs) else k (.log on xs)
 | .tb t c0 c1,k=>forceAV b c0 fun c0=>forceAV b c1 fun c1=>k (.tb t c0 c1)
 | .mp t es,k=>k (.mp t es)
 | .br e xs,k=>bif b then forcePVs b xs fun xs=>k (.br e xs) else k (.br e xs)
def forceBlks (b:Bool):List Blk→(List Blk→Option α)→Option α
 | [],k=>k []
 | x::r,k=>forceBlk b x fun x=>forceBlks b r fun r=>k (x::r)
def forceChg (b:Bool):List (Nat × Blk)→(List (Nat × Blk)→Option α)→Option α
 | [],k=>k []
 | (s,x)::r,k=>forceBlk b x fun x=>forceChg b r fun r=>k ((s,x)::r)
def spineH:Heap→(Heap→Option α)→Option α
 | [],k=>k []
 | (s,x)::r,k=>spineH r fun r=>k ((s,x)::r)
def forceSt (st:St) (k:St→Option α):Option α :=
 spine st.env fun env=>spineH st.heap fun heap=>k { env,heap }
def forceEff (b:Bool) (st:St) (d:Option Nat) (e:Eff) (k:St→Option α):Option α :=
 forceAV b e.val fun v=>forceChg b e.chg fun c=>forceSt (st.apply d { e with val:=v,chg:=c }) k
end
inductive Cls where
 | const | plain | pure | read | own (t:Nat) | store | heavy
def isConstO:Operand→Bool
 | .const _=>true
 | .func _=>true
 | _=>false
def opOf (t:Nat):List Oper→Option Op
 | []=>none
 | o::r=>match o.dst with
  | some d=>bif d==t then some o.op else opOf t r
  | none=>opOf t r
def rootOf (all:List Oper):Nat→Nat→Option Nat
 | 0,_=>none
 | n+1,t=>match opOf t all with
  | none=>some t
  | some (.alloc _)=>some t
  | some (.fieldAddr _ (.tmp u) _)=>rootOf all n u
  | _=>none
def fullHere (t:Nat):List Oper→Bool
 | []=>false
 | o::r=>(match o.op,o.dst with
  | .slice _ _ _ _ (some _),some d=>bif d==t then true else fullHere t r
  | _,_=>fullHere t r)
def fullApp (xs:List Operand) (all:List Oper):Bool :=
 match xs with
 | .tmp t::_=>fullHere t all
 | .const (.slice none 0 0)::_=>true
 | _=>false
def isMapT (t:TypeId):Bool:=match und T t with
 | some (.map _ _)=>true
 | _=>false
def ownD:Option Nat→Option Nat
 | some d=>tlook T.owns d
 | none=>none
def storeKey (t:Nat):Operand→Nat
 | .tmp v=>1000000+(1000*t+v)
 | _=>0
def storeOwn (all:List Oper) (t:Nat) (v:Operand):Option Nat:=match tlook T.owns (storeKey t v) with
 | some s=>some s
 | none=>rootOf all 4 t
def moveCls:Operand→Option Nat→Cls
 | .tmp u,some d=>bif memN (1000*d+u) T.calcs then .plain else .pure
 | _,_=>.pure
def opClass (all:List Oper) (o:Oper):Cls :=
 match o.op with
 | .assign (.const (.slice none 0 0))=>.read
 | .assign x=>bif isConstO x then .const else .pure
 | .move x=>bif isConstO x then .const else moveCls T x o.dst
 | .binOp ..=>.plain
 | .unOp ..=>.plain
 | .pick .. | .build .. | .makeFunc .. | .fieldAddr .. | .field .. | .indexAddr .. | .index .. | .extract .. | .nilCheck ..=>.pure
 | .slice t ..=>match und T t with
  | some (.array _ _)=>.read
  | _=>.pure
 | .alloc .. | .box .. | .buildSlice .. | .load .. | .makeSlice .. | .convert .. | .makeMap .. | .lookup ..=>.read
 | .mapUpdate ..=>.store
 | .insert ..=>.store
 | .store _ (.tmp t) v=>match storeOwn T all t v with
  | some s=>.own s
  | none=>.store
 | .call c=>match c.callee with
  | .builtin .len=>bif c.argTypes.toList.any (isMapT T) then .read else .pure
  | .builtin .min | .builtin .max | .builtin .cap=>.pure
  | .builtin .append=>bif fullApp c.args.toList all then .read else .heavy
  | .builtin .copy=>.store
  | .value (.tmp _)=>match ownD T o.dst with
   | some s=>.own s
   | none=>.read
  | .value (.func f)=>bif (cfgOf T f).byRef||(((cfgOf T f).shares&&!(cfgOf T f).quiet)||(cfgOf T f).prim.writes) then .heavy else .read
  | .value _=>.read
  | _=>.heavy
 | _=>.heavy
def opSites (all:List Oper) (o:Oper):List Nat :=
 match o.dst with
 | some d=>match o.op with
  | .assign (.const (.slice none 0 0))=>[d]
  | .alloc .. | .box .. | .buildSlice .. | .makeSlice .. | .convert .. | .makeMap ..=>[d]
  | .call c=>match c.callee with
   | .value _=>[d,d+1000,d+2000,d+3000]
   | .builtin .append=>bif fullApp c.args.toList all then [d] else []
   | _=>[]
  | _=>[]
 | none=>[]
def ownSites (all:List Oper) (o:Oper):List Nat :=
 match o.op with
 | .store _ (.tmp t) v=>match storeOwn T all t v with
  | some s=>[s]
  | none=>[]
 | .call c=>match c.callee,ownD T o.dst with
  | .value (.tmp _),some s=>[s]
  | _,_=>[]
 | _=>[]
def allSites (all:List Oper):List Oper→List Nat
 | []=>[]
 | o::r=>opSites all o++allSites all r
def noneIn (ss:List Nat):List Nat→Bool
 | []=>true
 | x::r=>!(memN x ss)&&noneIn ss r
def keysIn (ss:List Nat):List (Nat × Blk)→Bool
 | []=>true
 | (k,_)::r=>memN k ss&&keysIn ss r
def subN (ss:List Nat):List Nat→Bool
 | []=>true
 | x::r=>memN x ss&&subN ss r
def tmpsOf:List Operand→List Nat
 | []=>[]
 | .tmp t::r=>t::tmpsOf r
 | _::r=>tmpsOf r
def looksOf (ops:List Oper) (o:Oper):List Nat :=
 tmpsOf o.op.operands.toList++(match o.guard with
  | some (g,_)=>match (ops[g]?).bind (·.dst) with
   | some d=>[d]
   | none=>[]
  | none=>[])
def apartO (ops:List Oper) (x y:Oper):Bool :=
 (match x.dst with
  | some d=>!(memN d (looksOf ops y))&&!(y.dst==some d)
  | none=>true) &&
 (match y.dst with
  | some d=>!(memN d (looksOf ops x))
  | none=>true)
def clashFree (all:List Oper) (hx ho:List Nat) (x o:Oper):Bool :=
 apartO all x o&&(noneIn (opSites all x) (opSites all o)&&(match opClass T all x,opClass T all o with
  | .const,_=>true
  | _,.const=>true
  | .plain,_=>true
  | _,.plain=>true
  | .pure,.heavy=>false
  | .heavy,.pure=>false
  | .pure,_=>true
  | _,.pure=>true
  | .read,.read=>true
  | .read,.own t=>memN t hx&&!(memN t (opSites all x))
  | .own t,.read=>memN t ho&&!(memN t (opSites all o))
  | _,_=>false))
def addAll:List Nat→List Nat→List Nat
 | acc,[]=>acc
 | acc,x::r=>addAll (bif memN x acc then acc else x::acc) r
def predsOf (done:List (List Nat)) (o:Oper):List Nat :=
 (o.after.toList).foldl (fun acc e=>match e.ground with
   | .textOnly _=>acc
   | .gcOnly _=>acc
   | _=>addAll (addAll acc [e.on]) (done.getD e.on [])) []
def predTable:List Oper→List (List Nat)→List (List Nat)
 | [],acc=>acc
 | o::r,acc=>predTable r (acc++[predsOf acc o])
def openOk (all:List Oper) (hd:List (List Nat)) (preds:List Nat) (j:Nat) (o:Oper):Nat→List Oper→Bool
 | _,[]=>true
 | i,x::r=>bif Nat.ble j i then true else
  (bif memN i preds then true else clashFree T all (hd.getD i []) (hd.getD j []) x o)&&openOk all hd preds j o (i+1) r
def backEdges (j:Nat) (o:Oper):Bool :=
 o.after.toList.all fun e=>match e.ground with
  | .textOnly _=>true
  | .gcOnly _=>true
  | _=>Nat.blt e.on j
def okDraw (all:List Oper) (tab hd:List (List Nat)):Nat→List Oper→Bool
 | _,[]=>true
 | j,o::r=>backEdges j o&&openOk T all hd (tab.getD j []) j o 0 all&&okDraw all tab hd (j+1) r
def openSites (all:List Oper) (tab:List (List Nat)) (j:Nat):Nat→List Oper→List Nat
 | _,[]=>[]
 | i,o::r =>
  bif i==j||memN i (tab.getD j [])||memN j (tab.getD i []) then openSites all tab j (i+1) r else opSites all o++(ownSites T all o++openSites all tab j (i+1) r)
section
variable {α:Type}
def hideH (U:List Nat) (h:Nat→Option Blk):Nat→Option Blk :=
 match U with
 | []=>h
 | U=>fun s=>bif memN s U then none else h s
def dstOf (all:List Oper) (g:Nat):Option Nat:=(all[g]?).bind (·.dst)
def frzOk:List Nat→Bool
 | []=>true
 | s::r=>Nat.blt s 100000&&frzOk r
def chgOk (h:Heap):List (Nat × Blk)→Bool
 | []=>true
 | (_,.log _ _)::_=>false
 | (s,_)::r=>bif s==argSite then(match look h argSite with
  | some (.log _ _)=>false
  | _=>chgOk h r) else chgOk h r
def AV.isPV:AV→Bool
 | .p _=>true
 | .tup []=>true
 | _=>false
def quietEff (draw:Bool) (cls:Cls) (ss:List Nat) (h:Heap) (e:Eff):Bool :=
 match draw,cls with
 | false,_=>chgOk h e.chg
 | true,.heavy=>true
 | true,.store=>e.cut.isEmpty&&(e.frz.isEmpty&&e.new.isEmpty)
 | true,.own t=>e.cut.isEmpty&&(e.frz.isEmpty&&(keysIn [t] e.chg&&e.new.isEmpty))
 | true,.read=>e.cut.isEmpty&&(e.frz.isEmpty&&(keysIn ss e.chg&&(subN ss e.new&&(present h e.new).isEmpty)))
 | true,.plain=>e.cut.isEmpty&&(e.frz.isEmpty&&(e.chg.isEmpty&&(e.new.isEmpty&&e.val.isPV)))
 | true,_=>e.cut.isEmpty&&(e.frz.isEmpty&&(e.chg.isEmpty&&e.new.isEmpty))
def yieldOf (st:St) (o:Oper):Option (List PV × List PV) :=
 match o.op with
 | .call c=>match c.callee with
  | .value (.tmp t)=>match st.env.getD t .undef with
   | .yld=>match look st.heap argSite,deeps (look st.heap) (evalOs st.env c.args.toList) with
    | some (.log true xs),some (vs,_)=>some (xs,vs)
    | _,_=>none
   | _=>none
  | _=>none
 | _=>none
def yieldAt (draw:Bool) (st:St) (o:Oper):Option (List PV × List PV):=match draw with | true=>none | false=>yieldOf st o
def keysBut (s:Nat):Heap→List Nat
 | []=>[]
 | (k,_)::h=>bif k==s then keysBut s h else k::keysBut s h
def refOf (h:Nat→Option Blk):AV→Option PV
 | .ptr s 0 0=>match h s with
  | some (.box cs)=>match pures cs with
   | some vs=>some (.ref vs)
   | none=>none
  | _=>none
 | _=>none
def refKill (h:Nat→Option Blk) (ss:List Nat) (v:AV):AV:=match refOf h v with
 | some x=>.p x
 | none=>AV.kill ss v
def refEnv (h:Nat→Option Blk) (ss:List Nat):List AV→List AV
 | []=>[]
 | v::r=>refKill h ss v::refEnv h ss r
def afterYield (st:St) (d:Option Nat) (xs vs:List PV) (b:Bool):St :=
 let st1:St:={ env:=refEnv (hideH [argSite] (look st.heap)) (keysBut argSite st.heap) st.env,heap:=(st.strike (keysBut argSite st.heap)).heap }
 { env:=setEnv st1.env d (.p (.bool b)),heap:=put st1.heap argSite (.log b (xs++[.agg vs])) }
def fork (no yes:Option α):Option α :=
 match no with
 | some _=>yes
 | none=>none
def runOps (C:CallF) (draw:Bool) (hd:List (List Nat)) (all:List Oper):List Oper→Nat→St→(St→Option α)→Option α
 | [],_,st,k=>k st
 | o::rest,j,st,k =>
  let go (st:St):Option α :=
   match yieldAt draw st o with
   | some (xs,vs)=>fork (forceSt (afterYield st o.dst xs vs false) fun st=>runOps C draw hd all rest (j+1) st k) (forceSt (afterYield st o.dst xs vs true) fun st=>runOps C draw hd all rest (j+1) st k)
   | none=>(stepOp T C st.env (hideH (hd.getD j []) (look st.heap)) o).run fun e =>
    bif frzOk (e.new++e.frz)&&quietEff draw (opClass T all o) (opSites all o) st.heap e then forceEff T.strict st o.dst e fun st=>runOps C draw hd all rest (j+1) st k else none
  let skip (st:St):Option α:=forceSt { st with env:=setEnv st.env o.dst (.tup []) } fun st=>runOps C draw hd all rest (j+1) st k
  match o.guard with
  | none=>go st
  | some (g,want) =>
   match dstOf all g with
   | none=>none
   | some t =>
    match st.env.getD t .undef with
    | .p (.bool b) =>
     cond b (bif want then go { st with env:=st.env.set t (.p (.bool true)) } else skip { st with env:=st.env.set t (.p (.bool true)) })
      (bif want then skip { st with env:=st.env.set t (.p (.bool false)) } else go { st with env:=st.env.set t (.p (.bool false)) })
    | .tup []=>skip st
    | _=>none
def rehomes (nv:Nat) (hs:List Nat):List Oper→St→St
 | [],st=>st
 | o::r,st =>
  match o.op,o.dst with
  | .assign _,some d =>
   match st.env.getD d .undef with
   | .slice s _ _ _=>bif (Nat.ble nv s||(memN d hs&&!(s==d)))&&(Nat.blt d nv&&Nat.blt s 100000) then rehomes nv hs r (st.rehome s d) else rehomes nv hs r st
   | _=>rehomes nv hs r st
  | _,_=>rehomes nv hs r st
def frzFind:List Nat→Nat→Option Nat
 | [],_=>none
 | x::r,d=>bif Nat.ble 1000000 x&&Nat.beq ((x-1000000) / 1000) d then some ((x-1000000)%1000) else frzFind r d
def frzSlot (ts:List Nat) (d:Nat):Option Nat:=bif memN d ts then some d else frzFind ts d
def freezes (ts:List Nat):List Oper→St→St
 | [],st=>st
 | o::r,st =>
  match o.op,o.dst with
  | .assign _,some d =>
   match frzSlot ts d with
   | some x=>(match deep (look st.heap) (st.env.getD x .undef) with
    | some (v,ss)=>bif frzOk ss then freezes ts r { (st.strike ss) with env:=(st.strike ss).env.set x (.p v) } else freezes ts r st
    | none=>freezes ts r st)
   | none=>freezes ts r st
  | _,_=>freezes ts r st
def frehomes (hs:List Nat):List Oper→St→St
 | [],st=>st
 | o::r,st =>
  match o.op with
  | .store _ _ (.tmp x) =>
   match st.env.getD x .undef with
   | .slice s _ _ _=>bif memN x hs&&(Nat.blt s 5000&&Nat.blt x 5000) then frehomes hs r (st.rehome s (5000+x)) else frehomes hs r st
   | _=>frehomes hs r st
  | .call _=>match o.dst with
   | some d=>match look st.heap d with
    | some (.br _ _)=>bif memN d hs&&Nat.blt d 5000 then frehomes hs r (st.rehome d 7990) else frehomes hs r st
    | _=>frehomes hs r st
   | none=>frehomes hs r st
  | _=>frehomes hs r st
def settle (F:FCfg) (ops:List Oper) (st:St):St:=freezes F.frzs ops (match F.fhomes with
 | []=>rehomes F.nvars F.homes ops st
 | h::hs=>frehomes (h::hs) ops (rehomes F.nvars F.homes ops st))
def firstReg:Code→Option Nat
 | .region id _ _=>some id
 | .seq a b=>match firstReg a with
  | some i=>some i
  | none=>firstReg b
 | .block _ c=>firstReg c
 | .loop c=>firstReg c
 | .scope c=>firstReg c
 | .rangeFunc _ _ a b=>match firstReg a with
  | some i=>some i
  | none=>firstReg b
 | _=>none
def cutAt:List (Nat × List Nat × List Nat)→Nat→Option (List Nat × List Nat)
 | [],_=>none
 | (i,l,s)::r,j=>bif i==j then some (l,s) else cutAt r j
def forgetAt (F:FCfg) (c:Code) (st:St):St :=
 match firstReg c with
 | none=>st
 | some i=>match cutAt F.cuts i with
  | none=>st
  | some (l,s)=>st.forget l s
def kindSt:Kd→PV→Bool
 | .slice _ _,.nil=>false
 | k,v=>kindOk k v
def kindsSt:List Kd→List PV→Bool
 | [],[]=>true
 | k::ks,v::vs=>kindSt k v&&kindsSt ks vs
 | _,_=>false
def capSt:Bool × List Kd→PV→Bool
 | (true,ks),.ref cs=>kindsSt ks cs
 | (false,[k]),v=>kindSt k v
 | _,_=>false
def capsSt:List (Bool × List Kd)→List PV→Bool
 | [],[]=>true
 | s::r,v::vs=>capSt s v&&capsSt r vs
 | _,_=>false
def PV.isFn (g:Nat) (qs:List (Bool × List Kd)):PV→Bool
 | .fn f cs=>f==g&&capsSt qs cs
 | _=>false
def AV.isP:AV→Bool
 | .p _=>true
 | _=>false
def altOne:List (Nat × List (Bool × List Kd))→Nat→St→(St→Option α)→Option α
 | [],_,_,_=>none
 | (g,qs)::r,t,st,k=>cond ((st.env.getD t .undef).isP&&PV.isFn g qs (st.env.getD t .undef).pv) (k { st with env:=st.env.set t (.p (.fn g (etaCaps qs (st.env.getD t .undef).pv 0))) }) (altOne r t st k)
def altSt:List (Nat × List (Nat × List (Bool × List Kd)))→St→(St→Option α)→Option α
 | [],st,k=>k st
 | (t,cs)::r,st,k=>altOne cs t st fun st=>altSt r st k
def altsAt:List (Nat × List (Nat × List (Nat × List (Bool × List Kd))))→Nat→List (Nat × List (Nat × List (Bool × List Kd)))
 | [],_=>[]
 | (i,l)::r,j=>bif i==j then l else altsAt r j
def loopN (fg:St→St) (body:St→(Ex→St→Option α)→Option α):Nat→St→(Ex→St→Option α)→Option α
 | 0,_,_=>none
 | m+1,st,k=>body st fun ex st' =>
  match ex with
  | .normal=>forceSt (fg st') fun st'=>loopN fg body m st' k
  | .exit id=>k (.exit id) st'
  | .ret=>k .ret st'
def relog (b:Option Blk) (st:St) (k:St→Option α):Option α :=
 match look st.heap argSite with
 | some (.log _ _)=>match b with
  | some (.log on xs)=>k { st with heap:=put st.heap argSite (.log on xs) }
  | _=>none
 | _=>k st
def noRange:Code→Bool
 | .seq a b=>noRange a&&noRange b
 | .cond _ a b=>noRange a&&noRange b
 | .block _ c=>noRange c
 | .loop c=>noRange c
 | .scope c=>noRange c
 | .rangeFunc _ _ _ _=>false
 | _=>true
def codeDsts:Code→List Nat
 | .region _ ops _=>ops.toList.filterMap (·.dst)
 | .seq a b=>codeDsts a++codeDsts b
 | .cond _ a b=>codeDsts a++codeDsts b
 | .block _ c=>codeDsts c
 | .loop c=>codeDsts c
 | .scope c=>codeDsts c
 | .rangeFunc _ ps a b=>ps.toList++(codeDsts a++codeDsts b)
 | _=>[]
def opsOf:Code→List Oper
 | .region _ ops _=>ops.toList
 | .seq a b=>opsOf a++opsOf b
 | .cond _ a b=>opsOf a++opsOf b
 | .block _ c=>opsOf c
 | .loop c=>opsOf c
 | .scope c=>opsOf c
 | .rangeFunc _ _ a b=>opsOf a++opsOf b
 | _=>[]
def yOp (ys:List Nat) (o:Oper):Bool :=
 (match o.dst with
 | some t=>bif memN t ys then(match o.op with
  | .move (.tmp s)=>memN s ys
  | .assign (.tmp s)=>memN s ys
  | _=>false) else true
 | none=>true) &&
 (match o.op with
 | .call c=>match c.callee with
  | .value (.tmp t)=>memN t ys
  | _=>true
 | _=>true)
def yOps (ys:List Nat):List Oper→Bool
 | []=>true
 | o::r=>yOp ys o&&yOps ys r
def ysFrom (n:Nat):List Nat→Bool
 | []=>true
 | t::r=>(Nat.beq t 0||Nat.blt n t)&&ysFrom n r
def bodyPlain (fi:FI) (n:Nat):Bool:=match fi.fn.body with | some c=>noRange c&&(ysFrom n fi.cfg.ys&&(yOps fi.cfg.ys (opsOf c)&&!fi.cfg.vcall)) | none=>false
def plainCode:Code→Bool
 | .skip=>true
 | .region _ _ _=>true
 | .seq a b=>plainCode a&&plainCode b
 | _=>false
def dropEnv (ws:List Nat):Nat→List AV→List AV
 | _,[]=>[]
 | i,v::r=>(bif memN i ws then .undef else v)::dropEnv ws (i+1) r
def etaArg:Bool × List Kd→PV→PV
 | (true,ks),v=>.agg (etaFrom ks v 0)
 | (false,[k]),v=>eta k v
 | _,v=>v
def setPs:List (Bool × List Kd)→List Nat→PV→Nat→List AV→Option (List AV)
 | [],[],v,i,env=>bif Nat.beq v.cells.length i then some env else none
 | s::ss,t::ts,v,i,env=>bif shapeOk s.1 s.2 (v.cell i) then setPs ss ts v (i+1) (env.set t (.p (etaArg s (v.cell i)))) else none
 | _,_,_,_,_=>none
def back (ws:List Nat) (st:St):St:={ st with env:=dropEnv ws 0 st.env }
def rnext (fg:St→St) (ws:List Nat) (L:St→Option α) (k:Ex→St→Option α):Ex→St→Option α
 | .normal,st=>forceSt (fg (back ws st)) L
 | .exit id,st=>forceSt (back ws st) (k (.exit id))
 | .ret,st=>forceSt (back ws st) (k .ret)
def rangeL (fg:St→St) (ss:List (Bool × List Kd)) (ps ws:List Nat) (round:St→(Ex→St→Option α)→Option α):List PV→St→(Ex→St→Option α)→Option α
 | [],st,k=>k .normal st
 | v::xs,st,k =>
  match setPs ss ps v 0 st.env with
  | none=>none
  | some env=>forceSt { st with env:=env } fun st=>round st (rnext fg ws (fun st=>rangeL fg ss ps ws round xs st k) k)
def logOf (l:List Blk):List PV:=(l.headD (.box [])).ls
def allBelow (l:List Nat):Nat→Bool
 | 0=>true
 | n+1=>memN n l&&allBelow l n
def chainFrom (tab:List (List Nat)) (j:Nat):Nat→List Oper→Bool
 | _,[]=>true
 | i,_::r=>(Nat.blt i j||allBelow (tab.getD i []) i)&&chainFrom tab j (i+1) r
def yPlace (ys:List Nat):Nat→List Oper→Option Nat
 | _,[]=>none
 | i,o::r=>match o.op with
  | .call c=>match c.callee with
   | .value (.tmp t)=>bif memN t ys then some i else yPlace ys (i+1) r
   | _=>yPlace ys (i+1) r
  | _=>yPlace ys (i+1) r
def yCut (ys:List Nat) (ops:List Oper):Option Nat:=match ys with
 | []=>none
 | _=>match yPlace ys 0 ops with
  | some j=>bif chainFrom (predTable ops []) j 0 ops then some j else none
  | none=>none
def rangeKey (a b:Code):Nat:=match firstReg (.seq a b) with
 | some i=>1000000+i
 | none=>0
def runCode (C:CallF) (F:FI) (n:Nat):Code→St→(Ex→St→Option α)→Option α
 | .skip,st,k=>k .normal st
 | .region id ops draw,st,k=>altSt (altsAt F.cfg.alts id) st fun st =>
  match draw with
  | false=>runOps T C false [] ops.toList ops.toList 0 st fun st'=>forceSt (settle F.cfg ops.toList st') fun st'=>k .normal st'
  | true =>
   match tlook F.hides id with
   | some hd=>forceSt (st.strike (present st.heap (allSites ops.toList ops.toList))) fun st =>
    match yCut F.cfg.ys ops.toList with
    | none=>runOps T C true hd ops.toList ops.toList 0 st fun st'=>relog (look st.heap argSite) st' fun st'=>forceSt (settle F.cfg ops.toList st') fun st'=>k .normal st'
    | some j=>runOps T C true hd ops.toList (ops.toList.take j) 0 st fun st'=>relog (look st.heap argSite) st' fun st'=>runOps T C false [] ops.toList (ops.toList.drop j) j st' fun st'=>forceSt (settle F.cfg ops.toList st') fun st'=>k .normal st'
   | none=>none
 | .seq a b,st,k=>runCode C F n a st fun ex st' =>
  match ex with
  | .normal=>runCode C F n b (forgetAt F.cfg b st') k
  | .exit id=>k (.exit id) st'
  | .ret=>k .ret st'
 | .cond c x y,st,k =>
  match evalO st.env c with
  | .p (.bool b)=>cond b (runCode C F n x st k) (runCode C F n y st k)
  | _=>none
 | .block id c,st,k=>runCode C F n c st fun ex st' =>
  match ex with
  | .normal=>k .normal st'
  | .exit i=>bif i==id then k .normal st' else k (.exit i) st'
  | .ret=>k .ret st'
 | .scope c,st,k=>runCode C F n c st k
 | .loop c,st,k=>loopN (forgetAt F.cfg c) (fun st' k'=>runCode C F n c st' k') n (forgetAt F.cfg c st) k
 | .exit id,st,k=>k (.exit id) st
 | .ret,st,k=>k .ret st
 | .label _,st,k=>k .normal st
 | .rangeFunc f ps a b,st,k=>altSt (altsAt F.cfg.alts (rangeKey a b)) st fun st =>
  match evalO st.env f with
  | .p (.fn g caps) =>
   match tlook T.funcs g,plainCode a with
   | some fi,true =>
    bif bodyPlain fi caps.length then
    match C g (.yld::caps.map .p) [.log true []] with
    | some r => rangeL (forgetAt F.cfg (.seq a b)) fi.cfg.yk ps.toList (ps.toList ++ (codeDsts a ++ codeDsts b))
        (fun st k=>runCode C F n a st fun ex st' =>
          match ex with
          | .normal=>runCode C F n b (forgetAt F.cfg b st') k
          | .exit id=>k (.exit id) st'
          | .ret=>k .ret st') (logOf r.2) (forgetAt F.cfg (.seq a b) st) k
    | none=>none
    else none
   | _,_=>none
  | _=>none
 | _,_,_=>none
end
def AV.aggCells:AV→Option (List AV)
 | .p (.agg cs)=>some (cs.map .p)
 | .agg cs=>some cs
 | _=>none
def freshOf (h:Nat→Option Blk) (a:Bool) (ks:List Kd):AV→Option (List PV × List Nat)
 | .slice s _ off len=>match h s with
  | some (.arr b ls xs)=>bif b==a&&Kd.beqs ls ks&&Nat.blt s 100000 then some ((xs.drop off).take len,[s]) else none
  | _=>none
 | .p .nil=>some ([],[])
 | _=>none
def retVal (h:Nat→Option Blk) (m:RetMode) (t:TypeId) (v:AV):Option (AV × List Nat) :=
 match m with
 | .deep=>match deep h v with
  | some (x,ss)=>bif shapeOk (shapeT T t).1 (shapeT T t).2 x&&ss.all (fun s=>Nat.blt s 100000) then some (.p x,ss) else none
  | none=>none
 | .fresh=>match und T t with
  | some (.slice e) =>
   match v with
   | .slice s _ off len=>match h s with
    | some (.arr a ks xs) =>
     bif a==(shapeT T e).1&&Kd.beqs ks (shapeT T e).2&&Nat.blt s 100000 then some (.fresh a ks ((xs.drop off).take len),[s]) else none
    | _=>none
   | .p .nil=>some (.fresh (shapeT T e).1 (shapeT T e).2 [],[])
   | _=>none
  | _=>none
 | .alias _=>none
 | .func g qs=>match deep h v with
  | some (.fn f cs,ss)=>bif (f==g&&capsOk qs cs)&&ss.all (fun s=>Nat.blt s 100000) then some (.p (.fn f cs),ss) else none
  | _=>none
 | .funcN _ _=>none
 | .nilF=>none
 | .fnAny=>none
 | .aggF=>match shapeT T t with
  | (true,ks)=>match unsnoc ks,v.aggCells with
   | some (ks,.slice a ls),some cs=>match unsnoc cs with
    | some (cs,x)=>match pures cs,freshOf h a ls x with
     | some vs,some (xs,ss)=>bif kindsOk ks vs then some (.agg (vs.map .p++[.fresh a ls xs]),ss) else none
     | _,_=>none
    | none=>none
   | _,_=>none
  | _=>none
def retVals (h:Heap):List RetMode→List TypeId→List AV→Option (List AV)
 | _,[],[]=>some []
 | ms,t::ts,v::vs =>
  match retVal T (look h) (ms.headD .deep) t v with
  | some (x,ss)=>match retVals (dropAll h ss) ms.tail ts vs with
   | some xs=>some (x::xs)
   | none=>none
  | none=>none
 | _,_,_=>none
def backCell:AV→AV→Bool
 | .p (.int k _),.p (.int j _)=>k==j
 | .p (.int _ _),_=>false
 | .p (.bool _),.p (.bool _)=>true
 | .p (.bool _),_=>false
 | .p (.str _),.p (.str _)=>true
 | .p (.str _),_=>false
 | .p (.list a ks _),.p (.list b ls _)=>a==b&&Kd.beqs ks ls
 | .p (.list _ _ _),_=>false
 | _,_=>true
def backCellsOk:List AV→List AV→Bool
 | [],[]=>true
 | x::xs,y::ys=>backCell x y&&backCellsOk xs ys
 | _,_=>false
def backOk:Blk→Blk→Bool
 | .arr a ks _,.arr b ls _=>a==b&&Kd.beqs ks ls
 | .box cs,.box ds=>backCellsOk cs ds
 | .log _ _,.log _ _=>true
 | _,_=>false
def backBlkOk:Blk→Bool
 | .log _ _=>true
 | b=>pureBlk b
def argsBack (h:Heap):Nat→List Blk→Option (List Blk)
 | _,[]=>some []
 | i,b0::r=>match look h (argSite+i),argsBack h (i+1) r with
  | some b,some bs=>bif backBlkOk b&&backOk b0 b then some (b::bs) else none
  | _,_=>none
def resOf (env:List AV) (h:Nat→Option Blk):ResultVar→Option AV
 | .tmp t=>some (env.getD t .undef)
 | .cell t ty=>match env.getD t .undef,szOf T ty with
  | .ptr s 0 0,some n=>match h s with
   | some (.box cs)=>readBox T ty n cs 0
   | _=>none
  | _,_=>none
def resAll (env:List AV) (h:Nat→Option Blk):List ResultVar→Option (List AV)
 | []=>some []
 | r::rs=>match resOf T env h r,resAll env h rs with
  | some v,some vs=>some (v::vs)
  | _,_=>none
def retK (F:FCfg) (fn:Func) (bl:List Blk) (st:St):Option (List AV × List Blk) :=
 match resAll T st.env (look st.heap) fn.results.toList with
 | none=>none
 | some vs =>
  match retVals T st.heap F.rets fn.resultTypes.toList vs,argsBack st.heap 0 bl with
  | some rs,some bl=>forceAVs T.strict rs fun rs=>forceBlks T.strict bl fun bl=>some (rs,bl)
  | _,_=>none
def initHeap:Nat→List Blk→Heap
 | _,[]=>[]
 | i,b::r=>(argSite+i,b)::initHeap (i+1) r
def startSt (fn:Func) (args:List AV) (bl:List Blk):St :=
 { env:=args++List.replicate (fn.ntmps-args.length) .undef,heap:=initHeap 0 bl }
def callB (F:FCfg) (bl:List Blk):Bool:=match F.vcall with
 | true=>match bl with
  | [.box [.slice _ _ _ _],.arr _ _ _]=>true
  | _=>false
 | false=>true
def startF (F:FCfg) (fn:Func) (args:List AV) (bl:List Blk):St:=match F.vcall with
 | true=>{ env:=args++List.replicate (fn.ntmps-args.length) .undef,heap:=varHeap F.vkeep bl }
 | false=>startSt fn args bl
def deepRets:List RetMode→Bool
 | []=>true
 | .deep::r=>deepRets r
 | _=>false
def retV (F:FCfg) (fn:Func) (bl:List Blk) (st:St):Option (List AV × List Blk) :=
 match resAll T st.env (look st.heap) fn.results.toList,bl with
 | some vs,[_,.arr a0 ks0 _]=>match look st.heap argSite with
  | some (.box [.slice X _ off len])=>match look st.heap X with
   | some (.arr a ks xs) =>
    bif (a==a0&&Kd.beqs ks ks0)&&(deepRets F.rets&&(cond F.vkeep (X==100001) (Nat.blt X 100000))) then
    match retVals T (dropAll st.heap [argSite,X]) F.rets fn.resultTypes.toList vs with
    | some rs=>forceAVs T.strict rs fun rs=>forceBlks T.strict [.box [.slice (varSite F.vkeep) ks0.length off len],.arr a0 ks0 xs] fun bl=>some (rs,bl)
    | none=>none
    else none
   | _=>none
  | _=>none
 | _,_=>none
def retF (F:FCfg) (fn:Func) (bl:List Blk) (st:St):Option (List AV × List Blk):=match F.vcall with
 | true=>retV T F fn bl st
 | false=>retK T F fn bl st
abbrev Ext:=Nat→Option (List AV→List Blk→Option (List AV × List Blk))
def acall (X:Ext):Nat→CallF
 | 0,_,_,_=>none
 | n+1,f,args,bl =>
  match tlook T.funcs f with
  | none=>none
  | some fi =>
   match X f with
   | some s=>s args bl
   | none =>
   match fi.fn.body with
   | none=>none
   | some c=>bif callB fi.cfg bl then
    forceAVs T.strict args fun args=>forceBlks T.strict bl fun bl=>forceSt (startF fi.cfg fi.fn args bl) fun st =>
    runCode T (acall X n) fi n c st fun ex st =>
     match ex with
     | .exit _=>none
     | _=>retF T fi.cfg fi.fn bl st
    else none
def hidesOf (ops:List Oper):List (List Nat) :=
 let tab:=predTable ops []
 (List.range ops.length).map fun j=>openSites T ops tab j 0 ops
def sameNats:List (List Nat)→List (List Nat)→Bool
 | [],[]=>true
 | x::xs,y::ys=>x==y&&sameNats xs ys
 | _,_=>false
def drawsOk (hides:List (Nat × List (List Nat))):Code→Bool
 | .region id ops true=>match tlook hides id with
  | none=>true
  | some hd=>okDraw T ops.toList (predTable ops.toList []) hd 0 ops.toList&&sameNats hd (hidesOf T ops.toList)
 | .seq a b=>drawsOk hides a&&drawsOk hides b
 | .cond _ a b=>drawsOk hides a&&drawsOk hides b
 | .block _ c=>drawsOk hides c
 | .loop c=>drawsOk hides c
 | .scope c=>drawsOk hides c
 | .rangeFunc _ _ a b=>drawsOk hides a&&drawsOk hides b
 | _=>true
end
end Go.Skm
namespace Go.Skm
def PV.leaf:PV→Bool
 | .agg _=>false
 | _=>true
def AV.leaf:AV→Bool
 | .p v=>v.leaf
 | .agg _=>false
 | .tup _=>false
 | .fresh _ _ _=>false
 | _=>true
def MapWf (E:Array MapEntry) (k n:Nat):Prop:=E.size=n∧(∀ e∈E.toList,e.born<k)∧(E.toList.map (·.born)).Nodup∧(k=n∧∀ (i:Nat) (e:MapEntry),E[i]?=some e→e.born=i)
inductive VR (w:World) (M:Nat→Prop):PV→Value→Prop
 | bool (b:Bool):VR w M (.bool b) (.bool b)
 | int (k:IntKind) (n:Int):VR w M (.int k n) (.int k n)
 | str (s:ByteArray):VR w M (.str s) (.string s)
 | agg (cs : List PV) (vs : Array Value) (hn : vs.size = cs.length) (hl : ∀ c ∈ cs,c.leaf = true)
     (h:∀ (i:Nat) (c:PV),cs[i]?=some c→VR w M c (vs.getD i undef)):VR w M (.agg cs) (.agg vs)
 | list (a : Bool) (ks : List Kd) (xs : List PV) (b o cap : Nat) (f : Nat → Nat → Value) (hM : M b) (hcap : xs.length ≤ cap)
     (hc:∀ (i:Nat) (x:PV) (j:Nat) (c:PV),xs[i]?=some x→x.cells[j]?=some c→w.cell? ⟨b,o+i*ks.length+j,none⟩=some (f i j))
     (hv:∀ (i:Nat) (x:PV) (j:Nat) (c:PV),xs[i]?=some x→x.cells[j]?=some c→VR w M c (f i j))
     (hs:∀ x∈xs,shapeOk a ks x=true):VR w M (.list a ks xs) (.slice (some ⟨b,o,none⟩) xs.length cap)
 | listE (a:Bool) (ks:List Kd) (base:Option Addr) (cap:Nat):VR w M (.list a ks []) (.slice base 0 cap)
 | full (a : Bool) (ks : List Kd) (xs : List PV) (b o : Nat) (f : Nat → Nat → Value) (hM : M b)
     (hc:∀ (i:Nat) (x:PV) (j:Nat) (c:PV),xs[i]?=some x→x.cells[j]?=some c→w.cell? ⟨b,o+i*ks.length+j,none⟩=some (f i j))
     (hv:∀ (i:Nat) (x:PV) (j:Nat) (c:PV),xs[i]?=some x→x.cells[j]?=some c→VR w M c (f i j))
     (hs:∀ x∈xs,shapeOk a ks x=true):VR w M (.full a ks xs) (.slice (some ⟨b,o,none⟩) xs.length xs.length)
 | fullE (a:Bool) (ks:List Kd) (base:Option Addr):VR w M (.full a ks []) (.slice base 0 0)
 | nil:VR w M .nil (.slice none 0 0)
 | fn (f : Nat) (cs : List PV) (vs : Array Value) (hn : vs.size = cs.length)
     (h:∀ (i:Nat) (c:PV),cs[i]?=some c→VR w M c (vs.getD i undef)):VR w M (.fn f cs) (.func (.func f) #[] vs)
 | ref (cs : List PV) (b o : Nat) (f : Nat → Value) (hM : M b) (hl : ∀ c ∈ cs,c.leaf = true)
     (hc:∀ (j:Nat) (c:PV),cs[j]?=some c→w.cell? ⟨b,o+j,none⟩=some (f j))
     (hv:∀ (j:Nat) (c:PV),cs[j]?=some c→VR w M c (f j)):VR w M (.ref cs) (.pointer (some ⟨b,o,none⟩))
 | nilp:VR w M .nilp (.pointer none)
 | nilfn:VR w M .nilfn .nilFunc
 | ifc (t:TypeId) (v:Value):VR w M .ifc (.iface t v)
 | nilif:VR w M .nilif .nilIface
 | nilm:VR w M .nilm (.map none)
 | mapv (ks vs : List PV) (b : Nat) (E : Array MapEntry) (k : Nat) (hM : M b) (hw : w.heap[b]? = some (.map E k)) (hn : MapWf E k ks.length) (hl : vs.length = ks.length)
     (hk:∀ (i:Nat) (x:PV) (e:MapEntry),ks[i]?=some x→E[i]?=some e→VR w M x e.key) (hv:∀ (i:Nat) (x:PV) (e:MapEntry),vs[i]?=some x→E[i]?=some e→VR w M x e.val):VR w M (.mapv ks vs) (.map (some b))
theorem cell_of_heap {w w':World} {b i:Nat} (h:w'.heap[b]?=w.heap[b]?):w'.cell? ⟨b,i,none⟩=w.cell? ⟨b,i,none⟩:=by
 simp[World.cell?,h]
theorem VR.mono {w w':World} {M M':Nat→Prop} (hM:∀ b,M b→M' b∧w'.heap[b]?=w.heap[b]?) {v:PV} {c:Value} (h:VR w M v c):VR w' M' v c:=by
 induction h with
 | bool b=>exact .bool b
 | int k n=>exact .int k n
 | str s=>exact .str s
 | agg cs vs hn hl _ ih=>exact .agg cs vs hn hl ih
 | list a ks xs b o cap f hb hcap hc _ hs ih =>
  exact .list a ks xs b o cap f (hM b hb).1 hcap (fun i x j c h1 h2=>by rw[cell_of_heap (hM b hb).2];exact hc i x j c h1 h2) ih hs
 | listE a ks base cap=>exact .listE a ks base cap
 | full a ks xs b o f hb hc _ hs ih =>
  exact .full a ks xs b o f (hM b hb).1 (fun i x j c h1 h2=>by rw[cell_of_heap (hM b hb).2];exact hc i x j c h1 h2) ih hs
 | fullE a ks base=>exact .fullE a ks base
 | nil=>exact .nil
 | fn f cs vs hn _ ih=>exact .fn f cs vs hn ih
 | ref cs b o f hb hl hc _ ih =>
  exact .ref cs b o f (hM b hb).1 hl (fun j c h1=>by rw[cell_of_heap (hM b hb).2];exact hc j c h1) ih
 | nilp=>exact .nilp
 | nilfn=>exact .nilfn
 | ifc t v=>exact .ifc t v
 | nilif=>exact .nilif
 | nilm=>exact .nilm
 | mapv ks vs b E k hb hw hn hl _ _ ih1 ih2=>exact .mapv ks vs b E k (hM b hb).1 ((hM b hb).2.trans hw) hn hl ih1 ih2
theorem VR.one {w:World} {M:Nat→Prop} {v:PV} {c:Value} (h:VR w M v c) (hl:v.leaf=true):c.oneCell'=true:=by
 cases h<;>first | rfl | simp[PV.leaf]at hl
theorem VR.cells_leaf {w:World} {M:Nat→Prop} {v:PV} {c:Value} (h:VR w M v c) (hl:v.leaf=true):c.cells=#[c]:=by
 cases h<;>first | rfl | simp[PV.leaf]at hl
mutual
theorem Kd.beq_eq:∀ (x y:Kd),Kd.beq x y=true→x=y
 | .int j,.int k,h=>by simp[Kd.beq]at h;rw[h]
 | .bool,.bool,_=>rfl
 | .str,.str,_=>rfl
 | .slice a ks,.slice b ls,h=>by
  simp[Kd.beq]at h
  rw[h.1,Kd.beqs_eq ks ls h.2]
 | .other,.other,_=>rfl
 | .int _,.bool,h | .int _,.str,h | .int _,.slice _ _,h | .int _,.other,h
 | .bool,.int _,h | .bool,.str,h | .bool,.slice _ _,h | .bool,.other,h
 | .str,.int _,h | .str,.bool,h | .str,.slice _ _,h | .str,.other,h
 | .slice _ _,.int _,h | .slice _ _,.bool,h | .slice _ _,.str,h | .slice _ _,.other,h
 | .other,.int _,h | .other,.bool,h | .other,.str,h | .other,.slice _ _,h=>by simp[Kd.beq]at h
theorem Kd.beqs_eq:∀ (x y:List Kd),Kd.beqs x y=true→x=y
 | [],[],_=>rfl
 | k::ks,l::ls,h=>by
  simp[Kd.beqs]at h
  rw[Kd.beq_eq k l h.1,Kd.beqs_eq ks ls h.2]
 | [],_::_,h | _::_,[],h=>by simp[Kd.beqs]at h
end
mutual
theorem Kd.beq_refl:∀ (x:Kd),Kd.beq x x=true
 | .int j=>by simp[Kd.beq]
 | .bool=>rfl
 | .str=>rfl
 | .slice a ks=>by simp[Kd.beq,Kd.beqs_refl ks]
 | .other=>rfl
theorem Kd.beqs_refl:∀ (x:List Kd),Kd.beqs x x=true
 | []=>rfl
 | k::ks=>by simp[Kd.beqs,Kd.beq_refl k,Kd.beqs_refl ks]
end
theorem kindOk_leaf {k:Kd} {v:PV} (h:kindOk k v=true):v.leaf=true:=by
 cases v<;>first | rfl | (cases k<;>simp[kindOk]at h)
theorem eta_ok {w:World} {M:Nat→Prop} {k:Kd} {v:PV} {c:Value} (hk:kindOk k v=true) (h:VR w M v c):VR w M (eta k v) c:=by
 cases k with
 | int j=>cases v<;>simp[kindOk]at hk;subst hk;exact h
 | bool=>cases v<;>simp[kindOk]at hk;exact h
 | str=>cases v<;>simp[kindOk]at hk;exact h
 | slice a ks =>
  cases v<;>simp[kindOk]at hk
  · obtain⟨rfl,h2⟩:=hk
    rw[← Kd.beqs_eq _ _ h2]at h
    exact h
  · cases h;exact .listE a ks none 0
 | other=>exact h
theorem eta_leaf {k:Kd} {v:PV} (hk:kindOk k v=true):(eta k v).leaf=true:=by
 cases k<;>first | rfl | exact kindOk_leaf hk
theorem eta_kind {k:Kd} {v:PV} (hk:kindOk k v=true):kindOk k (eta k v)=true:=by
 cases k with
 | slice a ks=>simp[eta,kindOk,Kd.beqs_refl]
 | other=>exact hk
 | _=>simp[eta,kindOk]
theorem kindsOk_get:∀ {ks:List Kd} {vs:List PV},kindsOk ks vs=true→ks.length=vs.length∧∀ (j:Nat) (k:Kd) (v:PV),ks[j]?=some k→vs[j]?=some v→kindOk k v=true
 | [],[],_=>⟨rfl,fun j k v h=>by simp at h⟩
 | k::ks,v::vs,h=>by
  simp[kindsOk]at h
  obtain⟨h1,h2⟩:=kindsOk_get h.2
  refine⟨by simp[h1],fun j k' v' hk hv=>?_⟩
  cases j with
  | zero=>simp at hk hv;subst hk;subst hv;exact h.1
  | succ j=>simp at hk hv;exact h2 j k' v' hk hv
 | [],_::_,h | _::_,[],h=>by simp[kindsOk]at h
theorem shapeOk_cells {a:Bool} {ks:List Kd} {x:PV} (h:shapeOk a ks x=true):kindsOk ks x.cells=true:=by
 cases a with
 | true=>cases x<;>simp[shapeOk]at h;exact h
 | false =>
  match ks with
  | []=>simp[shapeOk]at h
  | [k] =>
   simp[shapeOk]at h
   have hl:=kindOk_leaf h
   cases x<;>first | (simp[PV.leaf]at hl;done) | simpa [PV.cells,kindsOk] using h
  | _::_::_=>simp[shapeOk]at h
theorem shapeOk_len {a:Bool} {ks:List Kd} {x:PV} (h:shapeOk a ks x=true):x.cells.length=ks.length:=(kindsOk_get (shapeOk_cells h)).1.symm
theorem shapeOk_kind {a:Bool} {ks:List Kd} {x:PV} (h:shapeOk a ks x=true) {j:Nat} {k:Kd} (hk:ks[j]?=some k):∃ c,x.cells[j]?=some c∧kindOk k c=true∧x.cell j=c:=by
 obtain⟨h1,h2⟩:=kindsOk_get (shapeOk_cells h)
 have hj:j<ks.length:=by
  have:=List.getElem?_eq_some_iff.1 hk
  exact this.1
 have hj':j<x.cells.length:=by omega
 refine⟨x.cells[j],by simp,h2 j k _ hk (by simp),?_⟩
 cases x with
 | agg cs=>simp[PV.cells]at hj' ⊢;simp[PV.cell,List.getD,hj']
 | _=>simp[PV.cells]at hj' ⊢;simp[PV.cell]
def byteVal:PV→Value
 | .int .u8 n=>.int .u8 n
 | _=>undef
def Open (C:Array Value) (fr:Nat × Nat):Prop:=fr.1=fr.2∨C.size≤fr.1
theorem Open.at {C:Array Value} {fr:Nat × Nat} (h:Open C fr):∀ i,i<C.size→¬ (fr.1≤i∧i<fr.2):=by
 intro i hi hh
 rcases h with h | h<;>omega
theorem Open.size {C C':Array Value} {fr:Nat × Nat} (h:Open C fr) (hs:C'.size=C.size):Open C' fr:=by
 rcases h with h | h
 · exact .inl h
 · exact .inr (by omega)
def Room (w:World) (b n:Nat):Prop:=∃ C e fr,w.heap[b]?=some (.cells C e fr)∧n / 2≤C.size∧(n%2=0→Open C fr)
theorem Room.mk {w:World} {b n:Nat} {C:Array Value} {e:TypeId} {fr:Nat × Nat} (h:w.heap[b]?=some (.cells C e fr)) (hn:n≤C.size) (ho:Open C fr):Room w b (2*n):=⟨C,e,fr,h,by omega,fun _=>ho⟩
theorem Room.get {w:World} {b n:Nat} (h:Room w b (2*n)):∃ C e fr,w.heap[b]?=some (.cells C e fr)∧n≤C.size∧Open C fr:=by
 obtain⟨C,e,fr,h1,h2,h3⟩:=h
 exact⟨C,e,fr,h1,by omega,h3 (by omega)⟩
theorem Room.mkC {w:World} {b n:Nat} {C:Array Value} {e:TypeId} {fr:Nat × Nat} (h:w.heap[b]?=some (.cells C e fr)) (hn:n≤C.size):Room w b (2*n+1):=⟨C,e,fr,h,by omega,fun h=>by omega⟩
theorem Room.getC {w:World} {b n:Nat} (h:Room w b (2*n+1)):∃ C e fr,w.heap[b]?=some (.cells C e fr)∧n≤C.size:=by
 obtain⟨C,e,fr,h1,h2,h3⟩:=h
 exact⟨C,e,fr,h1,by omega⟩
def Past (n:Nat) (fr:Nat × Nat):Prop:=fr.1=fr.2∨fr.2≤n
theorem Past.mono {n m:Nat} {fr:Nat × Nat} (h:Past n fr) (hm:n≤m):Past m fr:=h.imp id fun h=>Nat.le_trans h hm
section
variable (w:World) (M:Nat→Prop) (β:Nat→Option (Nat × Nat)) (h:Nat→Option Blk)
inductive AR:AV→Value→Prop
 | undef (c:Value):AR .undef c
 | p (v:PV) (c:Value) (hv:VR w M v c):AR (.p v) c
 | slice (s off len : Nat) (a : Bool) (ks : List Kd) (xs : List PV) (b o cap : Nat) (hs : h s = some (.arr a ks xs)) (hl : off + len ≤ xs.length) (hb : β s = some (b,o))
     (hcap:len≤cap) (hr:Room w b (2*(o+(off+cap)*ks.length))):AR (.slice s ks.length off len) (.slice (some ⟨b,o+off*ks.length,none⟩) len cap)
 | sliceE (s off:Nat) (a:Bool) (ks:List Kd) (xs:List PV) (base:Option Addr) (hs:h s=some (.arr a ks xs)) (hl:off≤xs.length):AR (.slice s ks.length off 0) (.slice base 0 0)
 | bslice (s off len : Nat) (cs : List AV) (b o cap : Nat) (hs : h s = some (.box cs)) (hl : off + cap ≤ cs.length) (hb : β s = some (b,o))
     (hcap:len≤cap):AR (.bslice s off len) (.slice (some ⟨b,o+off,none⟩) len cap)
 | bsliceE (s off:Nat) (cs:List AV) (base:Option Addr) (hs:h s=some (.box cs)) (hl:off≤cs.length):AR (.bslice s off 0) (.slice base 0 0)
 | ptrB (s off:Nat) (cs:List AV) (b o:Nat) (hs:h s=some (.box cs)) (hb:β s=some (b,o)):AR (.ptr s 0 off) (.pointer (some ⟨b,o+off,none⟩))
 | ptrA (s idx off : Nat) (a : Bool) (ks : List Kd) (xs : List PV) (b o : Nat) (hs : h s = some (.arr a ks xs)) (hi : idx < xs.length) (hb : β s = some (b,o)) :
     AR (.ptr s idx off) (.pointer (some ⟨b,o+idx*ks.length+off,none⟩))
 | lptr (a : Bool) (ks : List Kd) (x : PV) (off b o : Nat) (f : Nat → Value) (hM : M b) (hx : shapeOk a ks x = true)
     (hc:∀ (j:Nat) (c:PV),x.cells[j]?=some c→w.cell? ⟨b,o+j,none⟩=some (f j))
     (hv:∀ (j:Nat) (c:PV),x.cells[j]?=some c→VR w M c (f j)):AR (.lptr a ks x off) (.pointer (some ⟨b,o+off,none⟩))
 | fn (f : Nat) (cs : List AV) (vs : Array Value) (hn : vs.size = cs.length)
     (hc:∀ (i:Nat) (c:AV),cs[i]?=some c→AR c (vs.getD i undef)):AR (.fn f cs) (.func (.func f) #[] vs)
 | agg (cs : List AV) (vs : Array Value) (hn : vs.size = cs.length) (hl : ∀ c ∈ cs,c.leaf = true)
     (hc:∀ (i:Nat) (c:AV),cs[i]?=some c→AR c (vs.getD i undef)):AR (.agg cs) (.agg vs)
 | tup (cs : List AV) (vs : Array Value) (hn : vs.size = cs.length)
     (hc:∀ (i:Nat) (c:AV),cs[i]?=some c→AR c (vs.getD i undef)):AR (.tup cs) (.tuple vs)
 | yld (l:Nat):AR .yld (.func (.yield l) #[] #[])
 | ptrT (s off:Nat) (t:TypeId) (c0 c1:AV) (b:Nat) (hs:h s=some (.tb t c0 c1)) (hb:β s=some (b,0)):AR (.ptr s 0 off) (.pointer (some ⟨b,off,none⟩))
 | ptrM (s:Nat) (t:TypeId) (es:List (PV × PV)) (b o:Nat) (hs:h s=some (.mp t es)) (hb:β s=some (b,o)):AR (.mref s) (.map (some b))
 | ptrR (s:Nat) (e:TypeId) (xs:List PV) (b cap:Nat) (hs:h s=some (.br e xs)) (hb:β s=some (b,0)) (hcap:xs.length≤cap) (h0:0<xs.length) (hr:Room w b (2*cap+1)):AR (.mref s) (.slice (some ⟨b,0,none⟩) xs.length cap)
 | ptrRE (s:Nat) (e:TypeId) (hs:h s=some (.br e [])):AR (.mref s) (.slice none 0 0)
inductive BR (s:Nat):Blk→Prop
 | box (cs : List AV) (b o : Nat) (C : Array Value) (e : TypeId) (fr : Nat × Nat) (hb : β s = some (b,o)) (hw : w.heap[b]? = some (.cells C e fr)) (hn : o + cs.length ≤ C.size)
     (ho:Open C fr) (hl:∀ c∈cs,c.leaf=true) (hc:∀ (j:Nat) (c:AV),cs[j]?=some c→AR w M β h c (C.getD (o+j) undef)):BR s (.box cs)
 | arrE (a:Bool) (ks:List Kd):BR s (.arr a ks [])
 | arr (a : Bool) (ks : List Kd) (xs : List PV) (b o : Nat) (C : Array Value) (e : TypeId) (fr : Nat × Nat) (hb : β s = some (b,o)) (hw : w.heap[b]? = some (.cells C e fr))
     (hn:o+xs.length*ks.length≤C.size) (ho:Open C fr) (hs:∀ x∈xs,shapeOk a ks x=true)
     (hc:∀ (i:Nat) (x:PV) (j:Nat) (c:PV),xs[i]?=some x→x.cells[j]?=some c→VR w M c (C.getD (o+i*ks.length+j) undef)):BR s (.arr a ks xs)
 | log (on:Bool) (xs:List PV):BR s (.log on xs)
 | tb (t : TypeId) (c0 c1 : AV) (b : Nat) (C : Array Value) (fr : Nat × Nat) (hb : β s = some (b,0)) (hw : w.heap[b]? = some (.cells C t fr)) (hn : C.size = 2) (ho : Open C fr)
     (hl0:c0.leaf=true) (hl1:c1.leaf=true) (h0:AR w M β h c0 (C.getD 0 undef)) (h1:AR w M β h c1 (C.getD 1 undef)):BR s (.tb t c0 c1)
 | mp (t : TypeId) (es : List (PV × PV)) (b o : Nat) (E : Array MapEntry) (k : Nat) (hb : β s = some (b,o)) (hw : w.heap[b]? = some (.map E k)) (hn : MapWf E k es.length)
     (hc:∀ (i:Nat) (p:PV × PV) (e:MapEntry),es[i]?=some p→E[i]?=some e→VR w M p.1 e.key∧VR w M p.2 e.val):BR s (.mp t es)
 | brE (e:TypeId):BR s (.br e [])
 | br (e : TypeId) (xs : List PV) (b : Nat) (C : Array Value) (fr : Nat × Nat) (hb : β s = some (b,0)) (hw : w.heap[b]? = some (.cells C e fr)) (hn : xs.length ≤ C.size) (ho : Past xs.length fr)
     (hs:∀ x∈xs,shapeOk false [.int .u8] x=true) (hc:∀ (i:Nat) (x:PV),xs[i]?=some x→C.getD i undef=byteVal x):BR s (.br e xs)
end
def Like:Blk→Blk→Prop
 | .box cs,.box ds=>cs.length=ds.length
 | .arr a ks xs,.arr b ls ys=>a=b∧ks=ls∧xs.length≤ys.length
 | .log a _,.log b _=>a=b
 | .tb t _ _,.tb u _ _=>t=u
 | .mp t _,.mp u _=>t=u
 | .br e xs,.br f ys=>e=f∧xs.length=ys.length
 | _,_=>False
theorem Like.refl (x:Blk):Like x x:=by cases x<;>simp[Like]
def AskR:Blk→Nat→Prop
 | .br _ _,n=>n%2=1
 | .box _,_=>False
 | _,_=>True
theorem AR.monoA {w w' : World} {M M' : Nat → Prop} {β β' : Nat → Option (Nat × Nat)} {h h' : Nat → Option Blk} (hM : ∀ b,M b → M' b ∧ w'.heap[b]? = w.heap[b]?)
    {v:AV} {c:Value} (hv:AR w M β h v c)
    (hs:∀ s blk,AV.refers [s] v=true→h s=some blk→∃ blk',h' s=some blk'∧Like blk blk'∧β' s=β s∧(∀ b o n,β s=some (b,o)→AskR blk n→Room w b n→Room w' b n)):AR w' M' β' h' v c:=by
  have any:∀ (s:Nat) (cs:List AV) (i:Nat) (c:AV),cs[i]?=some c→AV.refers [s] c=true→AV.refersAny [s] cs=true:=by
   intro s cs
   induction cs with
   | nil=>intro i c hi;simp at hi
   | cons x r ih =>
    intro i c hi hr
    cases i with
    | zero=>simp at hi;subst hi;simp[AV.refersAny,hr]
    | succ i=>simp at hi;simp[AV.refersAny,ih i c hi hr]
  have me:∀ s:Nat,memN s [s]=true:=fun s=>by simp[memN]
  induction hv with
  | undef c=>exact .undef c
  | p v c hv=>exact .p v c (hv.mono hM)
  | slice s off len a ks xs b o cap h1 hl hb hcap hr =>
   obtain⟨blk',e1,e2,e3,e4⟩:=hs s _ (by simp[AV.refers,me]) h1
   cases blk' with
   | box cs=>exact e2.elim
   | log _ _=>exact e2.elim
   | tb _ _ _=>exact e2.elim
   | mp _ _=>exact e2.elim
   | br _ _=>exact e2.elim
   | arr a' ks' xs' =>
    obtain⟨rfl,rfl,h3⟩:=e2
    exact .slice s off len a ks xs' b o cap e1 (by omega) (e3▸hb) hcap (e4 _ _ _ hb trivial hr)
  | sliceE s off a ks xs base h1 hl =>
   obtain⟨blk',e1,e2,e3,e4⟩:=hs s _ (by simp[AV.refers,me]) h1
   cases blk' with
   | box cs=>exact e2.elim
   | log _ _=>exact e2.elim
   | tb _ _ _=>exact e2.elim
   | mp _ _=>exact e2.elim
   | br _ _=>exact e2.elim
   | arr a' ks' xs' =>
    obtain⟨rfl,rfl,h3⟩:=e2
    exact .sliceE s off a ks xs' base e1 (by omega)
  | bslice s off len cs b o cap h1 hl hb hcap =>
   obtain⟨blk',e1,e2,e3,e4⟩:=hs s _ (by simp[AV.refers,me]) h1
   cases blk' with
   | box cs'=>exact .bslice s off len cs' b o cap e1 (by have:cs.length=cs'.length:=e2;omega) (e3▸hb) hcap
   | arr _ _ _=>exact e2.elim
   | log _ _=>exact e2.elim
   | tb _ _ _=>exact e2.elim
   | mp _ _=>exact e2.elim
   | br _ _=>exact e2.elim
  | bsliceE s off cs base h1 hl =>
   obtain⟨blk',e1,e2,e3,e4⟩:=hs s _ (by simp[AV.refers,me]) h1
   cases blk' with
   | box cs'=>exact .bsliceE s off cs' base e1 (by have:cs.length=cs'.length:=e2;omega)
   | arr _ _ _=>exact e2.elim
   | log _ _=>exact e2.elim
   | tb _ _ _=>exact e2.elim
   | mp _ _=>exact e2.elim
   | br _ _=>exact e2.elim
  | ptrB s off cs b o h1 hb =>
   obtain⟨blk',e1,e2,e3,e4⟩:=hs s _ (by simp[AV.refers,me]) h1
   cases blk' with
   | box cs'=>exact .ptrB s off cs' b o e1 (e3▸hb)
   | arr _ _ _=>exact e2.elim
   | log _ _=>exact e2.elim
   | tb _ _ _=>exact e2.elim
   | mp _ _=>exact e2.elim
   | br _ _=>exact e2.elim
  | ptrA s idx off a ks xs b o h1 hi hb =>
   obtain⟨blk',e1,e2,e3,e4⟩:=hs s _ (by simp[AV.refers,me]) h1
   cases blk' with
   | box cs=>exact e2.elim
   | log _ _=>exact e2.elim
   | tb _ _ _=>exact e2.elim
   | mp _ _=>exact e2.elim
   | br _ _=>exact e2.elim
   | arr a' ks' xs' =>
    obtain⟨rfl,rfl,h3⟩:=e2
    exact .ptrA s idx off a ks xs' b o e1 (by omega) (e3▸hb)
  | lptr a ks x off b o f hb hx hc hv =>
   exact .lptr a ks x off b o f (hM b hb).1 hx (fun j c h1=>by rw[cell_of_heap (hM b hb).2];exact hc j c h1) (fun j c h1=>(hv j c h1).mono hM)
  | fn f cs vs hn _ ih=>exact .fn f cs vs hn fun i c hi=>ih i c hi fun s blk hr=>hs s blk (by simp only[AV.refers];exact any s cs i c hi hr)
  | agg cs vs hn hl _ ih=>exact .agg cs vs hn hl fun i c hi=>ih i c hi fun s blk hr=>hs s blk (by simp only[AV.refers];exact any s cs i c hi hr)
  | tup cs vs hn _ ih=>exact .tup cs vs hn fun i c hi=>ih i c hi fun s blk hr=>hs s blk (by simp only[AV.refers];exact any s cs i c hi hr)
  | yld l=>exact .yld l
  | ptrT s off t c0 c1 b h1 hb =>
   obtain⟨blk',e1,e2,e3,e4⟩:=hs s _ (by simp[AV.refers,me]) h1
   cases blk' with
   | box cs=>exact e2.elim
   | log _ _=>exact e2.elim
   | arr _ _ _=>exact e2.elim
   | mp _ _=>exact e2.elim
   | br _ _=>exact e2.elim
   | tb t' c0' c1'=>exact .ptrT s off t' c0' c1' b e1 (e3▸hb)
  | ptrM s t es b o h1 hb =>
   obtain⟨blk',e1,e2,e3,e4⟩:=hs s _ (by simp[AV.refers,me]) h1
   cases blk' with
   | box cs=>exact e2.elim
   | log _ _=>exact e2.elim
   | arr _ _ _=>exact e2.elim
   | tb _ _ _=>exact e2.elim
   | br _ _=>exact e2.elim
   | mp t' es'=>exact .ptrM s t' es' b o e1 (e3▸hb)
  | ptrR s e xs b cap h1 hb hcap h0 hr =>
   obtain⟨blk',e1,e2,e3,e4⟩:=hs s _ (by simp[AV.refers,me]) h1
   cases blk' with
   | box cs=>exact e2.elim
   | log _ _=>exact e2.elim
   | arr _ _ _=>exact e2.elim
   | tb _ _ _=>exact e2.elim
   | mp _ _=>exact e2.elim
   | br e' xs' =>
    obtain⟨rfl,h3⟩:=e2
    rw[h3]
    exact .ptrR s e xs' b cap e1 (e3▸hb) (by omega) (by omega) (e4 _ _ _ hb (show (2*cap+1)%2=1 by omega) hr)
  | ptrRE s e h1 =>
   obtain⟨blk',e1,e2,e3,e4⟩:=hs s _ (by simp[AV.refers,me]) h1
   cases blk' with
   | box cs=>exact e2.elim
   | log _ _=>exact e2.elim
   | arr _ _ _=>exact e2.elim
   | tb _ _ _=>exact e2.elim
   | mp _ _=>exact e2.elim
   | br e' xs' =>
    obtain⟨rfl,h3⟩:=e2
    have:xs'=[]:=List.length_eq_zero_iff.1 (by simpa using h3.symm)
    subst this
    exact .ptrRE s e e1
theorem AR.mono {w w' : World} {M M' : Nat → Prop} {β β' : Nat → Option (Nat × Nat)} {h h' : Nat → Option Blk} (hM : ∀ b,M b → M' b ∧ w'.heap[b]? = w.heap[b]?)
    {v:AV} {c:Value} (hv:AR w M β h v c)
    (hs:∀ s blk,AV.refers [s] v=true→h s=some blk→∃ blk',h' s=some blk'∧Like blk blk'∧β' s=β s∧(∀ b o n,β s=some (b,o)→Room w b n→Room w' b n)):AR w' M' β' h' v c :=
  hv.monoA hM fun s blk h1 h2=>let ⟨blk',e1,e2,e3,e4⟩:=hs s blk h1 h2;⟨blk',e1,e2,e3,fun b o n h _ hr=>e4 b o n h hr⟩
structure Base where
 wd:World
 n0:Nat
 le:n0≤wd.heap.size
 gl:Option (List (Nat × Obj))
abbrev Base.heap (b:Base):=b.wd.heap
abbrev Base.os (b:Base):=b.wd.os
abbrev Base.tape (b:Base):=b.wd.tape
abbrev Base.output (b:Base):=b.wd.output
abbrev Base.drawn (b:Base):=b.wd.drawn
theorem Base.le' (b:Base):b.n0≤b.heap.size:=b.le
structure Rel (w0:Base) (Pr M0:Nat→Prop) (M:Nat→Prop) (β:Nat→Option (Nat × Nat)) (st:St) (a:Act) (w:World):Prop where
 tsize:st.env.length≤a.tmps.size
 env:∀ (t:Nat) (v:AV),st.env[t]?=some v→AR w M β (look st.heap) v (a.tmps.getD t undef)
 heap:∀ s blk,look st.heap s=some blk→BR w M β (look st.heap) s blk
 own:∀ s b o,(look st.heap s).isSome=true→β s=some (b,o)→¬ M b∧b<w.heap.size∧((w0.heap.size≤b∨Pr b)∧(w0.n0≤b∨argSite≤s))
 inj:∀ s s' b o o',(look st.heap s).isSome=true→(look st.heap s').isSome=true→β s=some (b,o)→β s'=some (b,o')→s=s'
 msub:∀ b,M b→b<w.heap.size
 mnew:∀ b,M b→M0 b∨(w0.n0≤b∧(w0.heap.size≤b∨Pr b))
 mold:∀ b,M0 b→M b
 keep:∀ b,b<w0.heap.size→¬ Pr b→w.heap[b]?=w0.heap[b]?
 room:∀ b n,b<w0.n0→Pr b→Room w0.wd b n→Room w b n
 size:w0.heap.size≤w.heap.size
 os:w.os=w0.os
 tape:w.tape=w0.tape
 output:w.output=w0.output
 glob:∀ p∈w0.gl.getD [],M p.1∧w.heap[p.1]?=some p.2
end Go.Skm
namespace Go.Skm
theorem memN_iff {x:Nat}:∀ {l:List Nat},memN x l=true↔x∈l
 | []=>by simp[memN]
 | y::r=>by
  simp only[memN,List.mem_cons]
  by_cases h:x=y
  · simp[h]
  · have h':(x==y)=false:=by simpa using h
    simp[h',h,memN_iff]
theorem memN_false {x:Nat} {l:List Nat}:memN x l=false↔x ∉ l:=by
 rw[← memN_iff];simp
theorem look_put (hp:Heap) (s:Nat) (b:Blk) (x:Nat):look (put hp s b) x=if x=s then some b else look hp x:=by
 induction hp with
 | nil =>
  by_cases h:x=s
  · subst h;simp[put,look]
  · have h':(s==x)=false:=by simpa using fun e=>h e.symm
    simp[put,look,h,h']
 | cons p r ih =>
  obtain⟨k,c⟩:=p
  by_cases hk:k=s
  · subst hk
    by_cases h:x=k
    · subst h;simp[put,look]
    · have h':(k==x)=false:=by simpa using fun e=>h e.symm
      simp[put,look,h,h']
  · have hk':(k==s)=false:=by simpa using hk
    by_cases h:x=s
    · subst h
      have hx:(k==x)=false:=hk'
      simp only[put,hk',cond_false,look,ih,if_true]
    · by_cases hx:k=x
      · subst hx;simp[put,hk',look,h]
      · have hx':(k==x)=false:=by simpa using hx
        simp only[put,hk',cond_false,look,hx',ih,h,if_false]
theorem look_drop1 (hp:Heap) (s x:Nat):look (drop1 hp s) x=if x=s then none else look hp x:=by
 induction hp with
 | nil=>simp[drop1,look]
 | cons p r ih =>
  obtain⟨k,c⟩:=p
  by_cases hk:k=s
  · subst hk
    by_cases h:x=k
    · subst h;simp[drop1,ih]
    · have h':(k==x)=false:=by simpa using fun e=>h e.symm
      simp[drop1,look,ih,h,h']
  · have hk':(k==s)=false:=by simpa using hk
    by_cases h:x=s
    · subst h
      have hx:(k==x)=false:=hk'
      simp[drop1,hk',look,ih]
    · by_cases hx:k=x
      · subst hx;simp[drop1,hk',look,h]
      · have hx':(k==x)=false:=by simpa using hx
        simp[drop1,hk',look,hx',ih,h]
theorem look_dropAll (x:Nat):∀ (ss:List Nat) (hp:Heap),look (dropAll hp ss) x=if x∈ss then none else look hp x
 | [],hp=>by simp[dropAll]
 | s::r,hp=>by
  simp only[dropAll,look_dropAll x r,look_drop1,List.mem_cons]
  by_cases h1:x∈r<;>by_cases h2:x=s<;>simp[h1,h2]
theorem look_killHeap (ss:List Nat) (x:Nat):∀ (hp:Heap),look (killHeap ss hp) x=(look hp x).map (Blk.kill ss)
 | []=>rfl
 | (k,b)::r=>by
  by_cases h:(k==x)=true
  · simp[killHeap,look,h]
  · have h':(k==x)=false:=by simpa using h
    simp[killHeap,look,h',look_killHeap ss x r]
theorem killEnv_get (ss:List Nat):∀ (env:List AV) (t:Nat),(killEnv ss env)[t]?=(env[t]?).map (AV.kill ss)
 | [],t=>by simp[killEnv]
 | v::r,0=>by simp[killEnv]
 | v::r,t+1=>by simp[killEnv,killEnv_get ss r t]
theorem killEnv_length (ss:List Nat):∀ (env:List AV),(killEnv ss env).length=env.length
 | []=>rfl
 | v::r=>by simp[killEnv,killEnv_length ss r]
theorem Blk.kill_like (ss:List Nat) (b:Blk):Like b (b.kill ss):=by
 cases b with
 | box cs=>simp[Blk.kill,Like,killEnv_length]
 | arr a ks xs=>exact Like.refl _
 | log on xs=>exact Like.refl _
 | tb t c0 c1=>exact rfl
 | mp t es=>exact Like.refl _
 | br e xs=>exact Like.refl _
theorem AV.kill_leaf {ss:List Nat} {v:AV} (h:v.leaf=true):(AV.kill ss v).leaf=true:=by
 unfold AV.kill
 cases AV.refers ss v with
 | true=>rfl
 | false=>exact h
mutual
theorem refers_sub {s:Nat} {ss:List Nat} (hs:s∈ss):∀ (v:AV),AV.refers ss v=false→AV.refers [s] v=false
 | .undef,_=>rfl
 | .p _,_=>rfl
 | .lptr _ _ _ _,_=>rfl
 | .fresh _ _ _,_=>rfl
 | .yld,_=>rfl
 | .slice x _ _ _,h=>by
  simp only[AV.refers]at *;rw[memN_false]at *;simp;rintro rfl;exact h hs
 | .bslice x _ _,h=>by
  simp only[AV.refers]at *;rw[memN_false]at *;simp;rintro rfl;exact h hs
 | .ptr x _ _,h=>by
  simp only[AV.refers]at *;rw[memN_false]at *;simp;rintro rfl;exact h hs
 | .mref x,h=>by
  simp only[AV.refers]at *;rw[memN_false]at *;simp;rintro rfl;exact h hs
 | .fn _ cs,h=>by simp only[AV.refers]at *;exact refersAny_sub hs cs h
 | .agg cs,h=>by simp only[AV.refers]at *;exact refersAny_sub hs cs h
 | .tup cs,h=>by simp only[AV.refers]at *;exact refersAny_sub hs cs h
theorem refersAny_sub {s:Nat} {ss:List Nat} (hs:s∈ss):∀ (cs:List AV),AV.refersAny ss cs=false→AV.refersAny [s] cs=false
 | [],_=>rfl
 | v::r,h=>by
  simp only[AV.refersAny,Bool.or_eq_false_iff]at *
  exact⟨refers_sub hs v h.1,refersAny_sub hs r h.2⟩
end
section
variable {w0:Base} {Pr M0 M:Nat→Prop} {β:Nat→Option (Nat × Nat)} {st:St} {a:Act} {w:World}
theorem Rel.congr (r:Rel w0 Pr M0 M β st a w) {hp:Heap} (h:∀ s,look hp s=look st.heap s):Rel w0 Pr M0 M β { st with heap:=hp } a w:=by
 have e:look hp=look st.heap:=funext h
 exact⟨r.tsize,by rw[e];exact r.env,by rw[e];exact r.heap,by rw[e];exact r.own,by rw[e];exact r.inj,r.msub,r.mnew,r.mold,r.keep,r.room,r.size,r.os,r.tape,r.output,r.glob⟩
theorem Rel.kill (r:Rel w0 Pr M0 M β st a w) (ss:List Nat):Rel w0 Pr M0 M β (st.kill ss) a w:=by
 cases ss with
 | nil=>exact r
 | cons s0 sr =>
  have hlk:∀ x,look (killHeap (s0::sr) st.heap) x=(look st.heap x).map (Blk.kill (s0::sr)):=fun x=>look_killHeap _ _ _
  have key:∀ (v:AV) (c:Value),AR w M β (look st.heap) v c→AR w M β (look (killHeap (s0::sr) st.heap)) (AV.kill (s0::sr) v) c:=by
   intro v c h
   unfold AV.kill
   cases hr:AV.refers (s0::sr) v with
   | true=>exact .undef c
   | false =>
    refine h.mono (fun b hb=>⟨hb,rfl⟩) fun s blk _ hl=>⟨blk.kill (s0::sr),?_,Blk.kill_like _ _,rfl,fun _ _ _ _ h=>h⟩
    rw[hlk,hl];rfl
  refine⟨by simp only[St.kill,killEnv_length];exact r.tsize,?_,?_,?_,?_,r.msub,r.mnew,r.mold,r.keep,r.room,r.size,r.os,r.tape,r.output,r.glob⟩
  · intro t v hv
    simp only[St.kill,killEnv_get]at hv
    cases he:st.env[t]? with
    | none=>rw[he]at hv;simp at hv
    | some v'=>rw[he]at hv;simp at hv;subst hv;exact key _ _ (r.env t v' he)
  · intro s blk hb
    simp only[St.kill,hlk]at hb
    cases he:look st.heap s with
    | none=>rw[he]at hb;simp at hb
    | some b' =>
     rw[he]at hb;simp at hb;subst hb
     cases r.heap s b' he with
     | box cs b o C e fr h1 h2 h3 h4 h5 h6 =>
      refine .box _ b o C e fr h1 h2 (by rw[killEnv_length];exact h3) h4 ?_ ?_
      · intro c hc
        obtain⟨i,hi⟩:=List.mem_iff_getElem?.1 hc
        rw[killEnv_get]at hi
        cases hx:cs[i]? with
        | none=>rw[hx]at hi;simp at hi
        | some x =>
         rw[hx]at hi;simp at hi;subst hi
         unfold AV.kill
         cases AV.refers (s0::sr) x with
         | true=>rfl
         | false=>exact h5 x (List.mem_of_getElem? hx)
      · intro j c hc
        rw[killEnv_get]at hc
        cases hx:cs[j]? with
        | none=>rw[hx]at hc;simp at hc
        | some x=>rw[hx]at hc;simp at hc;subst hc;exact key _ _ (h6 j x hx)
     | arrE a ks=>exact .arrE a ks
     | log on ys=>exact .log on ys
     | arr a ks xs b o C e fr h1 h2 h3 h4 h5 h6=>exact .arr a ks xs b o C e fr h1 h2 h3 h4 h5 h6
     | tb t c0 c1 b C fr h1 h2 h3 h4 h5 h6 h7 h8=>exact .tb t _ _ b C fr h1 h2 h3 h4 (AV.kill_leaf h5) (AV.kill_leaf h6) (key _ _ h7) (key _ _ h8)
     | mp t es b o E k h1 h2 h3 h4=>exact .mp t es b o E k h1 h2 h3 h4
     | brE e=>exact .brE e
     | br e xs b C fr h1 h2 h3 h4 g5 g6=>exact .br e xs b C fr h1 h2 h3 h4 g5 g6
  · intro s b o hl hb
    simp only[St.kill,hlk,Option.isSome_map]at hl
    exact r.own s b o hl hb
  · intro s s' b o o' hl hl' h1 h2
    simp only[St.kill,hlk,Option.isSome_map]at hl hl'
    exact r.inj s s' b o o' hl hl' h1 h2
theorem killEnv_refers {s:Nat} {ss:List Nat} (hs:s∈ss) (v:AV):AV.refers [s] (AV.kill ss v)=false:=by
 unfold AV.kill
 cases h:AV.refers ss v with
 | true=>rfl
 | false=>exact refers_sub hs v h
theorem Rel.strike (r : Rel w0 Pr M0 M β st a w) (ss : List Nat) {M' : Nat → Prop} (h1 : ∀ b,M b → M' b)
    (h2:∀ b,M' b→M b∨(w0.n0≤b∧∃ s o,s∈ss∧(look st.heap s).isSome=true∧β s=some (b,o))):Rel w0 Pr M0 M' β (st.strike ss) a w:=by
  have hsub:∀ b,M' b→b<w.heap.size:=fun b hb=>by
   rcases h2 b hb with h | ⟨_,s,o,_,h,h'⟩
   · exact r.msub b h
   · exact(r.own s b o h h').2.1
  have hnew:∀ b,M' b→M0 b∨(w0.n0≤b∧(w0.heap.size≤b∨Pr b)):=fun b hb=>by
   rcases h2 b hb with h | ⟨h,s,o,_,g1,g2⟩
   · exact r.mnew b h
   · exact .inr ⟨h,(r.own s b o g1 g2).2.2.1⟩
  cases ss with
  | nil =>
   have e : M' = M := funext fun b => propext ⟨fun hb => by rcases h2 b hb with h | ⟨_, s, o, h, _⟩; · exact h
                                                            · simp at h,h1 b⟩
   rw[e];exact r
  | cons s0 sr =>
   have rk:=r.kill (s0::sr)
   have hlk:∀ x,look (dropAll (killHeap (s0::sr) st.heap) (s0::sr)) x=if x∈s0::sr then none else look (killHeap (s0::sr) st.heap) x:=fun x=>look_dropAll x _ _
   have hiso:∀ x,(look (killHeap (s0::sr) st.heap) x).isSome=(look st.heap x).isSome:=fun x=>by rw[look_killHeap];simp
   have key : ∀ (v : AV) (c : Value),(∀ s,s ∈ s0::sr → AV.refers [s] v = false) → AR w M β (look (killHeap (s0::sr) st.heap)) v c →
       AR w M' β (look (dropAll (killHeap (s0::sr) st.heap) (s0::sr))) v c:=by
     intro v c hr h
     refine h.mono (fun b hb=>⟨h1 b hb,rfl⟩) fun s blk hrs hl=>⟨blk,?_,Like.refl _,rfl,fun _ _ _ _ h=>h⟩
     rw[hlk,if_neg (fun hm=>by rw[hr s hm]at hrs;cases hrs)];exact hl
   refine⟨rk.tsize,?_,?_,?_,?_,hsub,hnew,fun b hb=>h1 b (r.mold b hb),r.keep,r.room,r.size,r.os,r.tape,r.output,fun p hp=>⟨h1 _ (r.glob p hp).1,(r.glob p hp).2⟩⟩
   · intro t v hv
     refine key v _ ?_ (rk.env t v hv)
     intro s hs
     simp only[St.strike,killEnv_get]at hv
     cases he:st.env[t]? with
     | none=>rw[he]at hv;simp at hv
     | some v'=>rw[he]at hv;simp at hv;subst hv;exact killEnv_refers hs v'
   · intro s blk hb
     simp only[St.strike,hlk]at hb
     by_cases hm:s∈s0::sr
     · rw[if_pos hm]at hb;cases hb
     · rw[if_neg hm]at hb
       have hb':=hb
       rw[look_killHeap]at hb'
       cases he:look st.heap s with
       | none=>rw[he]at hb';simp at hb'
       | some b' =>
        rw[he]at hb';simp at hb'
        cases rk.heap s blk hb with
        | box cs b o C e fr g1 g2 g3 g4 g5 g6 =>
         refine .box _ b o C e fr g1 g2 g3 g4 g5 fun j c hc=>key c _ ?_ (g6 j c hc)
         intro s' hs'
         cases b' with
         | arr a ks xs=>simp[Blk.kill]at hb'
         | log on xs=>simp[Blk.kill]at hb'
         | tb t c0 c1=>simp[Blk.kill]at hb'
         | mp t es=>simp[Blk.kill]at hb'
         | br e xs=>simp[Blk.kill]at hb'
         | box ds =>
          simp only[Blk.kill,Blk.box.injEq]at hb'
          rw[← hb',killEnv_get]at hc
          cases hx:ds[j]? with
          | none=>rw[hx]at hc;simp at hc
          | some x=>rw[hx]at hc;simp at hc;subst hc;exact killEnv_refers hs' x
        | arrE a ks=>exact .arrE a ks
        | log on ys=>exact .log on ys
        | arr a ks xs b o C e fr g1 g2 g3 g4 g5 g6=>exact .arr a ks xs b o C e fr g1 g2 g3 g4 g5 fun i x j c hi hj=>(g6 i x j c hi hj).mono fun b hb=>⟨h1 b hb,rfl⟩
        | tb t c0 c1 b C fr g1 g2 g3 g4 g5 g6 g7 g8 =>
         cases b' with
         | arr a ks xs=>simp[Blk.kill]at hb'
         | log on xs=>simp[Blk.kill]at hb'
         | box ds=>simp[Blk.kill]at hb'
         | mp t es=>simp[Blk.kill]at hb'
         | br e xs=>simp[Blk.kill]at hb'
         | tb t' d0 d1 =>
          simp only[Blk.kill,Blk.tb.injEq]at hb'
          obtain⟨rfl,rfl,rfl⟩:=hb'
          exact .tb _ _ _ b C fr g1 g2 g3 g4 g5 g6 (key _ _ (fun s' hs'=>killEnv_refers hs' d0) g7) (key _ _ (fun s' hs'=>killEnv_refers hs' d1) g8)
        | mp t es b o E k g1 g2 g3 g4=>exact .mp t es b o E k g1 g2 g3 fun i p e hi he=>⟨(g4 i p e hi he).1.mono fun b hb=>⟨h1 b hb,rfl⟩,(g4 i p e hi he).2.mono fun b hb=>⟨h1 b hb,rfl⟩⟩
        | brE e=>exact .brE e
        | br e xs b C fr g1 g2 g3 g4 g5 g6=>exact .br e xs b C fr g1 g2 g3 g4 g5 g6
   · intro s b o hl hb
     simp only[St.strike,hlk]at hl
     by_cases hm:s∈s0::sr
     · rw[if_pos hm]at hl;cases hl
     · rw[if_neg hm,hiso]at hl
       obtain⟨g1,g2,g3⟩:=r.own s b o hl hb
       refine⟨fun hM=>?_,g2,g3⟩
       rcases h2 b hM with h | ⟨_,s',o',hs',hl',hb'⟩
       · exact g1 h
       · exact hm (by rw[r.inj s s' b o o' hl hl' hb hb'];exact hs')
   · intro s s' b o o' hl hl' h3 h4
     simp only[St.strike,hlk]at hl hl'
     by_cases hm:s∈s0::sr
     · rw[if_pos hm]at hl;cases hl
     · by_cases hm':s'∈s0::sr
       · rw[if_pos hm']at hl';cases hl'
       · rw[if_neg hm,hiso]at hl
         rw[if_neg hm',hiso]at hl'
         exact r.inj s s' b o o' hl hl' h3 h4
theorem Rel.setEnv (r : Rel w0 Pr M0 M β st a w) (d : Option Nat) {v : AV} {c : Value} (h : AR w M β (look st.heap) v c) :
    Rel w0 Pr M0 M β { st with env:=Skm.setEnv st.env d v } (a.put d c) w:=by
  cases d with
  | none=>exact r
  | some d =>
   refine⟨by simp only[Skm.setEnv,Act.put,List.length_set,Array.size_setIfInBounds];exact r.tsize,?_,r.heap,r.own,r.inj,r.msub,r.mnew,r.mold,r.keep,r.room,r.size,r.os,r.tape,r.output,r.glob⟩
   intro t u hu
   have ht:t<st.env.length:=by
    have:=(List.getElem?_eq_some_iff.1 hu).1
    simpa [Skm.setEnv] using this
   have ht':t<a.tmps.size:=by have:=r.tsize;omega
   by_cases hd:d=t
   · subst hd
     simp[Skm.setEnv,ht]at hu
     subst hu
     simpa [Act.put,ht'] using h
   · simp only[Skm.setEnv,List.getElem?_set_ne hd]at hu
     simpa [Act.put,hd,Array.getElem?_setIfInBounds_ne hd] using r.env t u hu
theorem Rel.lessEnv (r : Rel w0 Pr M0 M β st a w) {env : List AV} (hl : env.length = st.env.length) (h : ∀ (t : Nat) (v : AV),env[t]? = some v → v = .undef ∨ st.env[t]? = some v) :
    Rel w0 Pr M0 M β { st with env:=env } a w :=
  ⟨by simpa [hl] using r.tsize, fun t v hv => by rcases h t v hv with rfl | h'; · exact .undef _
                                                 · exact r.env t v h',r.heap,r.own,r.inj,r.msub,r.mnew,r.mold,r.keep,r.room,r.size,r.os,r.tape,r.output,r.glob⟩
end
end Go.Skm
namespace Go.Skm
theorem viewStore_drawn {P:Program} {w w':World} {at_ k:Addr} {u:TypeId} {v:Value} {at1:Bool} {l:List Addr} (h:w.viewStore P at_ u k v at1=.ok (w',l)):w'.drawn=w.drawn:=by
 unfold World.viewStore at h
 simp only[bind,Except.bind,pure,Except.pure]at h
 repeat' (split at h<;>try (cases h;done))
 all_goals (first | (cases h;rfl) | (simp only[throw,throwThe,MonadExceptOf.throw]at h;cases h))
theorem ask_drawn {α:Type}:∀ (a:Ask α) (w:World),w.drawn≤(w.ask a).2.drawn
 | .done a,w=>Nat.le_refl _
 | .ask what range k,w=>by
  unfold World.ask
  simp only
  split
  · exact ask_drawn _ w
  · exact Nat.le_trans (Nat.le_succ _) (ask_drawn _ { w with drawn:=w.drawn+1 })
theorem run_drawn {P:Program} {α:Type}:∀ (s:Sem α) {w w':World} {a:α},s.run P w=.ok a w'→w.drawn≤w'.drawn:=by
 intro s
 induction s with
 | pure a=>intro w w' b h;simp only[Sem.run]at h;cases h;exact Nat.le_refl _
 | load m a k ih =>
  intro w w' b h
  simp only[Sem.run]at h
  split at h
  · exact ih _ h
  · split at h
    · exact ih _ h
    · cases h
 | store m a v k ih =>
  intro w w' b h
  have key:(match w.cell? a with
   | some _ => if w.frozen? a then .halt (.unsupported (.unsafePointer "a write to bytes that a string shares")) w else k.run P (w.setCell a v)
   | none=>match w.farStore P a v (m==.atomic) with
    | .ok (w,_)=>k.run P w
    | .error h=>.halt h w)=Result.ok b w':=by
   cases v<;>first | exact h | (simp only[Sem.run]at h;cases h)
  split at key
  · split at key
    · cases key
    · exact ih (w:=w.setCell a v) key
  · split at key
    · rename_i w2 l hw
      have:w2.drawn=w.drawn:=by
       unfold World.farStore at hw
       split at hw
       · split at hw
         · rename_i r hr
           cases hw
           exact viewStore_drawn hr
         · cases hw
       · cases hw
      rw[← this];exact ih key
    · cases key
 | new o k ih=>intro w w' b h;simp only[Sem.run]at h;exact ih _ (w:={ w with heap:=w.heap.push o }) h
 | shape r k ih=>intro w w' b h;simp only[Sem.run]at h;exact ih _ h
 | freeze a n k ih =>
  intro w w' b h
  simp only[Sem.run]at h
  have:=ih h
  unfold World.freeze at this
  split at this<;>exact this
 | frozen a k ih=>intro w w' b h;simp only[Sem.run]at h;exact ih _ h
 | getObj r k ih =>
  intro w w' b h
  simp only[Sem.run]at h
  split at h
  · cases h
  · exact ih _ h
  · cases h
 | setObj r o k ih =>
  intro w w' b h
  simp only[Sem.run]at h
  split at h
  · cases h
  · exact ih (w:={ w with heap:=w.heap.setIfInBounds r o }) h
  · cases h
 | choose q k ih =>
  intro w w' b h
  simp only[Sem.run]at h
  split at h
  · exact ih _ h
  · exact Nat.le_trans (Nat.le_succ _) (ih _ (w:={ w with drawn:=w.drawn+1 }) h)
 | sys c k ih =>
  intro w w' b h
  simp only[Sem.run]at h
  refine Nat.le_trans ?_ (ih _ h)
  unfold World.sys
  have:=ask_drawn (Kernel.perform c w.os) w
  split
  · exact Nat.le_refl _
  · rename_i r os w2 hr
    rw[hr]at this
    exact this
 | program k ih=>intro w w' b h;simp only[Sem.run]at h;exact ih _ h
 | mark m k ih=>intro w w' b h;simp only[Sem.run]at h;exact ih h
 | halt h0=>intro w w' b h;simp only[Sem.run]at h;cases h
section
variable {w0:Base} {Pr M0 M:Nat→Prop} {β:Nat→Option (Nat × Nat)} {st:St} {a:Act} {w:World}
theorem Room.of_block {w w':World} {b n:Nat} (h:w'.heap[b]?=w.heap[b]?) (hr:Room w b n):Room w' b n:=by
 obtain⟨C,e,fr,h1,h2,h3⟩:=hr
 exact⟨C,e,fr,by rw[h];exact h1,h2,h3⟩
theorem Room.mono {w:World} {b n m:Nat} (hr:Room w b (2*n)) (h:m≤n):Room w b (2*m):=by
 obtain⟨C,e,fr,h1,h2,h3⟩:=hr.get
 exact Room.mk h1 (by omega) h3
theorem Rel.world (r : Rel w0 Pr M0 M β st a w) {w' : World} {M' : Nat → Prop} (hsz : w.heap.size ≤ w'.heap.size) (hos : w'.os = w.os) (htp : w'.tape = w.tape) (hop : w'.output = w.output)
    (hb:∀ b,b<w.heap.size→(M b∨(∃ s o,(look st.heap s).isSome=true∧β s=some (b,o))∨(b<w0.heap.size∧¬ Pr b))→w'.heap[b]?=w.heap[b]?)
    (hrm:∀ b n,b<w0.n0→b<w.heap.size→Pr b→Room w b n→Room w' b n) (h1:∀ b,M b→M' b) (h2:∀ b,M' b→M b∨(w.heap.size≤b∧b<w'.heap.size)):Rel w0 Pr M0 M' β st a w':=by
  have hM:∀ b,M b→M' b∧w'.heap[b]?=w.heap[b]?:=fun b h=>⟨h1 b h,hb b (r.msub b h) (.inl h)⟩
  have hB:∀ s b o,(look st.heap s).isSome=true→β s=some (b,o)→w'.heap[b]?=w.heap[b]?:=fun s b o h3 h4=>hb b (r.own s b o h3 h4).2.1 (.inr (.inl ⟨s,o,h3,h4⟩))
  have key:∀ (v:AV) (c:Value),AR w M β (look st.heap) v c→AR w' M' β (look st.heap) v c:=fun v c h =>
   h.mono hM fun s blk _ hl=>⟨blk,hl,Like.refl _,rfl,fun b o n h3 hr=>hr.of_block (hB s b o (by rw[hl];rfl) h3)⟩
  refine⟨r.tsize,fun t v h=>key _ _ (r.env t v h),?_,?_,r.inj,?_,?_,fun b h=>h1 b (r.mold b h),?_,fun b n h3 h4 h5=>hrm b n h3 (by have:=r.size;have:=w0.le';omega) h4 (r.room b n h3 h4 h5),by have:=r.size;omega,hos.trans r.os,htp.trans r.tape,hop.trans r.output,fun p hp=>⟨(hM _ (r.glob p hp).1).1,(hM _ (r.glob p hp).1).2.trans (r.glob p hp).2⟩⟩
  · intro s blk hl
    have hi:(look st.heap s).isSome=true:=by rw[hl];rfl
    cases r.heap s blk hl with
    | box cs b o C e fr g1 g2 g3 g4 g5 g6=>exact .box _ b o C e fr g1 (by rw[hB s b o hi g1];exact g2) g3 g4 g5 fun j c hc=>key _ _ (g6 j c hc)
    | arrE a ks=>exact .arrE a ks
    | log on ys=>exact .log on ys
    | arr a ks xs b o C e fr g1 g2 g3 g4 g5 g6=>exact .arr a ks xs b o C e fr g1 (by rw[hB s b o hi g1];exact g2) g3 g4 g5 fun i x j c hx hc=>(g6 i x j c hx hc).mono hM
    | tb t c0 c1 b C fr g1 g2 g3 g4 g5 g6 g7 g8=>exact .tb t c0 c1 b C fr g1 (by rw[hB s b 0 hi g1];exact g2) g3 g4 g5 g6 (key _ _ g7) (key _ _ g8)
    | mp t es b o E k g1 g2 g3 g4=>exact .mp t es b o E k g1 (by rw[hB s b o hi g1];exact g2) g3 fun i p e hi he=>⟨(g4 i p e hi he).1.mono hM,(g4 i p e hi he).2.mono hM⟩
    | brE e=>exact .brE e
    | br e xs b C fr g1 g2 g3 g4 g5 g6=>exact .br e xs b C fr g1 (by rw[hB s b 0 hi g1];exact g2) g3 g4 g5 g6
  · intro s b o hl h3
    obtain⟨g1,g2,g3⟩:=r.own s b o hl h3
    refine⟨fun hm=>?_,by omega,g3⟩
    rcases h2 b hm with h | h
    · exact g1 h
    · omega
  · intro b h
    rcases h2 b h with h | h
    · have:=r.msub b h;omega
    · omega
  · intro b h
    rcases h2 b h with h | h
    · exact r.mnew b h
    · right;have:=r.size;have:=w0.le';exact⟨by omega,.inl (by omega)⟩
  · intro b h3 h4
    rw[hb b (by have:=r.size;omega) (.inr (.inr ⟨h3,h4⟩)),r.keep b h3 h4]
theorem Rel.lay (r : Rel w0 Pr M0 M β st a w) {s : Nat} {blk : Blk} (hs : look st.heap s = none) {p : Option (Nat × Nat)}
    (hp:∀ b o,p=some (b,o)→¬ M b∧b<w.heap.size∧((w0.heap.size≤b∨Pr b)∧(w0.n0≤b∨argSite≤s))∧(∀ s' o',(look st.heap s').isSome=true→β s'≠some (b,o')))
    (hb:BR w M (fun x=>if x=s then p else β x) (fun x=>if x=s then some blk else look st.heap x) s blk) :
    Rel w0 Pr M0 M (fun x=>if x=s then p else β x) { st with heap:=put st.heap s blk } a w:=by
  have hlk:look (put st.heap s blk)=fun x=>if x=s then some blk else look st.heap x:=funext fun x=>look_put _ _ _ _
  have key:∀ (v:AV) (c:Value),AR w M β (look st.heap) v c→AR w M (fun x=>if x=s then p else β x) (look (put st.heap s blk)) v c:=by
   intro v c h
   refine h.mono (fun b hb=>⟨hb,rfl⟩) fun s' blk' _ hl=>?_
   have hne:s'≠s:=by rintro rfl;rw[hs]at hl;cases hl
   exact⟨blk',by rw[hlk];simp only[if_neg hne];exact hl,Like.refl _,by simp only[if_neg hne],fun _ _ _ _ h=>h⟩
  refine⟨r.tsize,fun t v h=>key _ _ (r.env t v h),?_,?_,?_,r.msub,r.mnew,r.mold,r.keep,r.room,r.size,r.os,r.tape,r.output,r.glob⟩
  · intro s' b' hl
    by_cases hne:s'=s
    · subst hne
      rw[hlk]at hl;simp only[if_true,Option.some.injEq]at hl;subst hl
      show BR w M _ (look (put st.heap s' blk)) s' blk
      rw[hlk];exact hb
    · simp only[hlk,if_neg hne]at hl
      cases r.heap s' b' hl with
      | box cs b o C e fr g1 g2 g3 g4 g5 g6=>exact .box _ b o C e fr (by simp only[if_neg hne];exact g1) g2 g3 g4 g5 fun j c hc=>key _ _ (g6 j c hc)
      | arrE a ks=>exact .arrE a ks
      | log on ys=>exact .log on ys
      | arr a ks xs b o C e fr g1 g2 g3 g4 g5 g6=>exact .arr a ks xs b o C e fr (by simp only[if_neg hne];exact g1) g2 g3 g4 g5 g6
      | tb t c0 c1 b C fr g1 g2 g3 g4 g5 g6 g7 g8=>exact .tb t c0 c1 b C fr (by simp only[if_neg hne];exact g1) g2 g3 g4 g5 g6 (key _ _ g7) (key _ _ g8)
      | mp t es b o E k g1 g2 g3 g4=>exact .mp t es b o E k (by simp only[if_neg hne];exact g1) g2 g3 g4
      | brE e=>exact .brE e
      | br e xs b C fr g1 g2 g3 g4 g5 g6=>exact .br e xs b C fr (by simp only[if_neg hne];exact g1) g2 g3 g4 g5 g6
  · intro s' b o hl h1
    by_cases hne:s'=s
    · subst hne;simp only[if_true]at h1
      obtain⟨g1,g2,g3,_⟩:=hp b o h1
      exact⟨g1,g2,g3⟩
    · simp only[hlk,if_neg hne]at hl h1;exact r.own s' b o hl h1
  · intro s' s'' b o o' hl hl' h1 h2
    by_cases hne:s'=s
    · subst hne
      by_cases hne':s''=s'
      · exact hne'.symm
      · simp only[if_true,if_neg hne']at h1 h2
        simp only[hlk,if_neg hne']at hl'
        exact absurd h2 ((hp b o h1).2.2.2 s'' o' hl')
    · by_cases hne':s''=s
      · subst hne'
        simp only[if_true,if_neg hne]at h1 h2
        simp only[hlk,if_neg hne]at hl
        exact absurd h1 ((hp b o' h2).2.2.2 s' o hl)
      · simp only[if_neg hne,if_neg hne']at h1 h2
        simp only[hlk,if_neg hne]at hl
        simp only[hlk,if_neg hne']at hl'
        exact r.inj s' s'' b o o' hl hl' h1 h2
theorem Rel.writeF (r : Rel w0 Pr M0 M β st a w) {s b : Nat} {blk blk' : Blk} {o : Nat} {w' : World} {C C' : Array Value} {e : TypeId} {fr fr' : Nat × Nat}
    (hs:look st.heap s=some blk) (hl:Like blk blk') (hb:β s=some (b,o)) (hw:w.heap[b]?=some (.cells C e fr)) (hw':w'.heap=w.heap.setIfInBounds b (.cells C' e fr')) (hfr:Open C fr→Open C' fr')
    (hC:C'.size=C.size) (hos:w'.os=w.os) (htp:w'.tape=w.tape) (hop:w'.output=w.output)
    (hB:(∀ (v:AV) (c:Value),AR w M β (look st.heap) v c→AR w' M β (fun x=>if x=s then some blk' else look st.heap x) v c)→(∀ (v:PV) (c:Value),VR w M v c→VR w' M v c) →
      w'.heap[b]?=some (.cells C' e fr')→BR w' M β (fun x=>if x=s then some blk' else look st.heap x) s blk') :
    Rel w0 Pr M0 M β { st with heap:=put st.heap s blk' } a w':=by
  have hi:(look st.heap s).isSome=true:=by rw[hs];rfl
  obtain⟨o1,o2,o3⟩:=r.own s b o hi hb
  have hlk:look (put st.heap s blk')=fun x=>if x=s then some blk' else look st.heap x:=funext fun x=>look_put _ _ _ _
  have hsz:w'.heap.size=w.heap.size:=by rw[hw'];simp
  have hne:∀ b',b'≠b→w'.heap[b']?=w.heap[b']?:=fun b' h=>by rw[hw',Array.getElem?_setIfInBounds_ne (fun e=>h e.symm)]
  have hself:w'.heap[b]?=some (.cells C' e fr'):=by rw[hw'];simp[o2]
  have hM:∀ b',M b'→M b'∧w'.heap[b']?=w.heap[b']?:=fun b' h=>⟨h,hne b' fun e=>o1 (e▸h)⟩
  have hroom:∀ b' n,Room w b' n→Room w' b' n:=by
   intro b' n hr
   by_cases h:b'=b
   · subst h
     obtain⟨C1,e1,fr1,h1,h2,h3⟩:=hr
     rw[hw]at h1;cases h1
     exact⟨C',e,fr',hself,by omega,fun h=>hfr (h3 h)⟩
   · exact hr.of_block (hne b' h)
  have key:∀ (v:AV) (c:Value),AR w M β (look st.heap) v c→AR w' M β (fun x=>if x=s then some blk' else look st.heap x) v c:=by
   intro v c h
   refine h.mono hM fun s' b' _ h1=>?_
   by_cases h2:s'=s
   · subst h2;rw[hs]at h1;cases h1
     exact⟨blk',by simp,hl,rfl,fun b o n _ hr=>hroom b n hr⟩
   · exact⟨b',by simp only[if_neg h2];exact h1,Like.refl _,rfl,fun b o n _ hr=>hroom b n hr⟩
  refine⟨r.tsize,fun t v h=>by rw[hlk];exact key _ _ (r.env t v h),?_,?_,?_,fun b' h=>by rw[hsz];exact r.msub b' h,r.mnew,r.mold,?_,fun b' n h1 h2 h3=>hroom b' n (r.room b' n h1 h2 h3),by rw[hsz];exact r.size,hos.trans r.os,htp.trans r.tape,hop.trans r.output,fun p hp=>⟨(hM _ (r.glob p hp).1).1,(hM _ (r.glob p hp).1).2.trans (r.glob p hp).2⟩⟩
  · intro s' b' h1
    show BR w' M β (look (put st.heap s blk')) s' b'
    by_cases h2:s'=s
    · subst h2
      simp only[hlk,if_true,Option.some.injEq]at h1;subst h1
      rw[hlk];exact hB key (fun v c h=>h.mono hM) hself
    · simp only[hlk,if_neg h2]at h1
      have hi':(look st.heap s').isSome=true:=by rw[h1];rfl
      rw[hlk]
      cases r.heap s' b' h1 with
      | box cs b1 o1 C1 e1 fr1 g1 g2 g3 g4 g5 g6 =>
       exact .box _ b1 o1 C1 e1 fr1 g1 (by rw[hne b1 fun e=>h2 (r.inj s' s b _ _ hi' hi (e▸g1) hb)];exact g2) g3 g4 g5 fun j c hc=>key _ _ (g6 j c hc)
      | arrE a ks=>exact .arrE a ks
      | log on ys=>exact .log on ys
      | arr a ks xs b1 o1 C1 e1 fr1 g1 g2 g3 g4 g5 g6 =>
       exact .arr a ks xs b1 o1 C1 e1 fr1 g1 (by rw[hne b1 fun e=>h2 (r.inj s' s b _ _ hi' hi (e▸g1) hb)];exact g2) g3 g4 g5 fun i x j c hx hc=>(g6 i x j c hx hc).mono hM
      | tb t c0 c1 b1 C1 fr1 g1 g2 g3 g4 g5 g6 g7 g8 =>
       exact .tb t c0 c1 b1 C1 fr1 g1 (by rw[hne b1 fun e=>h2 (r.inj s' s b _ _ hi' hi (e▸g1) hb)];exact g2) g3 g4 g5 g6 (key _ _ g7) (key _ _ g8)
      | mp t es b1 o1 E k g1 g2 g3 g4 =>
       exact .mp t es b1 o1 E k g1 (by rw[hne b1 fun e=>h2 (r.inj s' s b _ _ hi' hi (e▸g1) hb)];exact g2) g3 fun i p e hi he=>⟨(g4 i p e hi he).1.mono hM,(g4 i p e hi he).2.mono hM⟩
      | brE e=>exact .brE e
      | br e xs b1 C fr g1 g2 g3 g4 g5 g6=>exact .br e xs b1 C fr g1 (by rw[hne b1 fun e=>h2 (r.inj s' s b _ _ hi' hi (e▸g1) hb)];exact g2) g3 g4 g5 g6
  · intro s' b' o' h1 h2
    rw[hsz]
    by_cases h3:s'=s
    · subst h3;exact r.own s' b' o' hi h2
    · simp only[hlk,if_neg h3]at h1;exact r.own s' b' o' h1 h2
  · intro s' s'' b' o1 o2 h1 h2 h3 h4
    have hx:∀ x,(look (put st.heap s blk') x).isSome=true→(look st.heap x).isSome=true:=by
     intro x hx
     by_cases h:x=s
     · subst h;exact hi
     · simpa only[hlk,if_neg h] using hx
    exact r.inj s' s'' b' o1 o2 (hx _ h1) (hx _ h2) h3 h4
  · intro b' h1 h2
    rw[hne b' ?_,r.keep b' h1 h2]
    rintro rfl
    rcases o3.1 with h | h
    · omega
    · exact h2 h
theorem Rel.write (r : Rel w0 Pr M0 M β st a w) {s b : Nat} {blk blk' : Blk} {o : Nat} {w' : World} {C C' : Array Value} {e : TypeId} {fr : Nat × Nat}
    (hs:look st.heap s=some blk) (hl:Like blk blk') (hb:β s=some (b,o)) (hw:w.heap[b]?=some (.cells C e fr)) (hw':w'.heap=w.heap.setIfInBounds b (.cells C' e fr))
    (hC:C'.size=C.size) (hos:w'.os=w.os) (htp:w'.tape=w.tape) (hop:w'.output=w.output)
    (hB:(∀ (v:AV) (c:Value),AR w M β (look st.heap) v c→AR w' M β (fun x=>if x=s then some blk' else look st.heap x) v c)→(∀ (v:PV) (c:Value),VR w M v c→VR w' M v c) →
      w'.heap[b]?=some (.cells C' e fr)→BR w' M β (fun x=>if x=s then some blk' else look st.heap x) s blk') :
    Rel w0 Pr M0 M β { st with heap:=put st.heap s blk' } a w' :=
  r.writeF hs hl hb hw hw' (fun h=>h.size hC) hC hos htp hop hB
end
theorem ofLeaf_ok {w:World} {M:Nat→Prop} {v:Value} {x:PV} (h:ofLeaf v=some x):VR w M x v∧x.leaf=true:=by
 unfold ofLeaf at h
 split at h<;>first | (cases h;refine⟨?_,rfl⟩;constructor) | cases h
theorem ofLeaves_ok {w:World} {M:Nat→Prop}:∀ {l:List Value} {xs:List PV},ofLeaves l=some xs→xs.length=l.length∧(∀ x∈xs,x.leaf=true)∧∀ (i:Nat) (x:PV),xs[i]?=some x→∃ v,l[i]?=some v∧VR w M x v
 | [],xs,h=>by simp[ofLeaves]at h;subst h;simp
 | v::r,xs,h=>by
  simp only[ofLeaves]at h
  split at h
  · rename_i x ys h1 h2
    cases h
    obtain⟨g1,g2,g3⟩:=ofLeaves_ok (w:=w) (M:=M) h2
    obtain⟨k1,k2⟩:=ofLeaf_ok (w:=w) (M:=M) h1
    refine⟨by simp[g1],?_,?_⟩
    · intro y hy
      rcases List.mem_cons.1 hy with rfl | hy
      · exact k2
      · exact g2 y hy
    · intro i y hi
      cases i with
      | zero=>simp at hi;subst hi;exact⟨v,by simp,k1⟩
      | succ i=>simp at hi;simpa using g3 i y hi
  · cases h
theorem ofValue_ok {w:World} {M:Nat→Prop} {v:Value} {x:PV} (h:ofValue v=some x):VR w M x v:=by
 unfold ofValue at h
 split at h
 · rename_i cs
   cases h1:ofLeaves cs.toList with
   | none=>rw[h1]at h;cases h
   | some ys =>
    rw[h1]at h;cases h
    obtain⟨g1,g2,g3⟩:=ofLeaves_ok (w:=w) (M:=M) h1
    refine .agg ys cs (by simpa using g1.symm) g2 fun i c hi=>?_
    obtain⟨v,h4,h5⟩:=g3 i c hi
    have:cs.getD i undef=v:=by
     have:cs[i]?=some v:=by simpa using h4
     simp[this]
    rw[this];exact h5
 · exact(ofLeaf_ok h).1
section
variable {w0:Base} {Pr M0 M:Nat→Prop} {β:Nat→Option (Nat × Nat)} {st:St} {a:Act} {w:World}
theorem getD_of {env:List AV} {t:Nat}:env.getD t .undef=.undef∨env[t]?=some (env.getD t .undef):=by
 by_cases h:t<env.length
 · right;simp[h]
 · left;simp[List.getD,List.getElem?_eq_none (by omega:env.length≤t)]
theorem Rel.slot (r:Rel w0 Pr M0 M β st a w) (t:Nat):AR w M β (look st.heap) (st.env.getD t .undef) (a.tmps.getD t undef):=by
 rcases getD_of (env:=st.env) (t:=t) with h | h
 · rw[h];exact .undef _
 · exact r.env t _ h
theorem Rel.evalO (r:Rel w0 Pr M0 M β st a w) (x:Operand):AR w M β (look st.heap) (Skm.evalO st.env x) (a.eval x):=by
 cases x with
 | tmp t=>exact r.slot t
 | const v =>
  simp only[Skm.evalO,Act.eval]
  split
  · rename_i x h;exact .p _ _ (ofValue_ok h)
  · exact .undef _
 | global g=>exact .undef _
 | func f=>exact .p _ _ (.fn f [] #[] rfl fun i c h=>by simp at h)
end
end Go.Skm
namespace Go.Skm
def RowIs (e:TypeId) (w:World) (v:Value) (q:Option (Nat × Nat)) (cs:List Value):Prop :=
 (q=none∧cs=[]∧v=.slice none 0 0) ∨
 ∃ b cap C fr,q=some (b,0)∧v=.slice (some ⟨b,0,none⟩) cs.length cap∧cs.length≤cap∧0<cs.length∧w.heap[b]?=some (.cells C e fr)∧cap≤C.size∧Past cs.length fr∧∀ (j:Nat) (c:Value),cs[j]?=some c→C.getD j undef=c
def byteV (l:List UInt8):List Value:=l.map fun x=>.int .u8 x.toNat
structure BldAt (e:TypeId) (w:World) (t:TypeId) (b:Nat) (q:Option (Nat × Nat)) (cs:List Value) (C:Array Value) (fr:Nat × Nat):Prop where
 hw:w.heap[b]?=some (.cells C t fr)
 hn:C.size=2
 ho:Open C fr
 h0:C.getD 0 undef=.pointer none∨C.getD 0 undef=.pointer (some ⟨b,0,none⟩)
 h1:RowIs e w (C.getD 1 undef) q cs
 bytes:∀ c∈cs,∃ n,c=.int .u8 n
 ne:∀ o,q≠some (b,o)
structure BldKeep (N:Prop) (w:World) (b:Nat) (q:Option (Nat × Nat)) (w':World):Prop where
 keep:∀ k,k<w.heap.size→k≠b→(∀ o,q≠some (k,o))→w'.heap[k]?=w.heap[k]?
 size:w.heap.size≤w'.heap.size
 os:w'.os=w.os
 tape:w'.tape=w.tape
 output:w'.output=w.output
 drawn:N→w.drawn≤w'.drawn
structure BldPut (N:Prop) (e:TypeId) (w:World) (t:TypeId) (b:Nat) (q:Option (Nat × Nat)) (cs:List Value) (fr:Nat × Nat) (w':World):Prop extends BldKeep N w b q w' where
 put:∃ v' q',w'.heap[b]?=some (.cells #[.pointer (some ⟨b,0,none⟩),v'] t fr)∧RowIs e w' v' q' cs∧∀ g o,q'=some (g,o)→g≠b∧((∃ o',q=some (g,o'))∨w.heap.size≤g)
def PrimC (P:Program) (G:Bool→World→Prop) (f:FuncId) (ts:List TypeId) (e:TypeId):Prim→Prop
 | .none=>True
 | .wstr => ∀ t ∈ ts,∀ (w : World) (b : Nat) (q : Option (Nat × Nat)) (cs : List Value) (C : Array Value) (fr : Nat × Nat) (x : ByteArray),BldAt e w t b q cs C fr → cs.length + x.size ≤ 2147483648 →
     Calls P f #[.pointer (some ⟨b,0,none⟩),.string x] w fun r w'=>r=.returned (.tuple #[.int .i64 x.size,.nilIface])∧BldPut True e w t b q (cs++byteV x.data.toList) fr w'
 | .wbyte => ∀ t ∈ ts,∀ (w : World) (b : Nat) (q : Option (Nat × Nat)) (cs : List Value) (C : Array Value) (fr : Nat × Nat) (n : Int),BldAt e w t b q cs C fr → cs.length + 1 ≤ 2147483648 →
     Calls P f #[.pointer (some ⟨b,0,none⟩),.int .u8 n] w fun r w'=>r=.returned .nilIface∧BldPut True e w t b q (cs++[.int .u8 n]) fr w'
 | .str => ∀ t ∈ ts,∀ (w : World) (b : Nat) (q : Option (Nat × Nat)) (l : List UInt8) (C : Array Value) (fr : Nat × Nat),BldAt e w t b q (byteV l) C fr → l.length ≤ 2147483648 →
     Calls P f #[.pointer (some ⟨b,0,none⟩)] w fun r w'=>r=.returned (.string ⟨l.toArray⟩)∧BldKeep True w b q w'∧w'.heap[b]?=w.heap[b]?∧∀ g o,q=some (g,o)→∃ C e fr fr',w.heap[g]?=some (.cells C e fr)∧w'.heap[g]?=some (.cells C e fr')∧Past l.length fr'
 | .wline lf => ∀ t ∈ ts,∀ (w : World) (b : Nat) (q : Option (Nat × Nat)) (cs : List Value) (C : Array Value) (fr : Nat × Nat) (xs ys : List PV) (g1 o1 g2 o2 : Nat),BldAt e w t b q cs C fr →
     (∀ (i:Nat) (x:PV),xs[i]?=some x→∃ s,x=.str s∧w.cell? ⟨g1,o1+i,none⟩=some (.string s))→(∀ (i:Nat) (y:PV),ys[i]?=some y→∃ n,(y=.int .i64 n∧-9223372036854775808≤n∧n≤9223372036854775807)∧w.cell? ⟨g2,o2+i,none⟩=some (.int .i64 n)) →
     0<xs.length→0<ys.length→g1<w.heap.size→g2<w.heap.size→g1≠b→g2≠b→(∀ o,q≠some (g1,o))→(∀ o,q≠some (g2,o))→cs.length+(lf xs ys).size≤2147483648→∀ s:Bool,G s w →
     Calls P f #[.pointer (some ⟨b,0,none⟩),.slice (some ⟨g1,o1,none⟩) xs.length xs.length,.slice (some ⟨g2,o2,none⟩) ys.length ys.length] w fun r w'=>r=.returned (.tuple #[])∧BldPut (s=false) e w t b q (cs++byteV (lf xs ys).data.toList) fr w'
structure TabOk (P:Program) (T:Tab):Prop where
 types:∀ t i,tlook T.types t=some i→mkTI P t=some i
 funcs : ∀ f fi, tlook T.funcs f = some fi → P.funcs[f]? = some fi.fn ∧ (fi.fn.name == "runtime.NumGoroutine") = false ∧ (∀ c, fi.fn.body = some c → drawsOk T fi.hides c = true) ∧
  (fi.cfg.byRef=false→fi.cfg.shares=false→retsFlat T fi.cfg.rets fi.fn.resultTypes.toList=true)
 mixed:P.follows .mixedOrders=true
 nvars:∀ f fi,tlook T.funcs f=some fi→fi.cfg.nvars≤100000
 prims:∀ f fi,tlook T.funcs f=some fi→fi.cfg.prim.is=true→(∃ c,fi.fn.body=some c)∧PrimC P T.glob f fi.cfg.primTs fi.cfg.primE fi.cfg.prim
section
variable {P:Program} {T:Tab} (ok:TabOk P T)
include ok
theorem TabOk.ti {t : TypeId} {i : TI} (h : tlook T.types t = some i) : ∃ d j,P.underlying t = some d ∧ P.info? t = some j ∧
    i={ desc:=d,size:=j.size,bytes:=j.bytes,agg:=aggP P t,sh:=shapeP P 8 t,zero:=j.zero.bind ofValue,plain:=plainP P t }:=by
  have:=ok.types t i h
  unfold mkTI at this
  split at this
  · rename_i d j h1 h2
    exact⟨d,j,h1,h2,by simpa using this.symm⟩
  · cases this
theorem TabOk.und {t:TypeId} {d:TypeDesc} (h:Skm.und T t=some d):P.underlying t=some d:=by
 unfold Skm.und at h
 cases h1:tlook T.types t with
 | none=>rw[h1]at h;cases h
 | some i =>
  obtain⟨d',j,h2,_,h4⟩:=ok.ti h1
  rw[h1]at h;subst h4;simp at h;subst h;exact h2
theorem TabOk.size {t:TypeId} {n:Nat} (h:szOf T t=some n):∃ i,P.info? t=some i∧i.size=n:=by
 unfold szOf at h
 cases h1:tlook T.types t with
 | none=>rw[h1]at h;cases h
 | some i =>
  obtain⟨d',j,_,h3,h4⟩:=ok.ti h1
  rw[h1]at h;subst h4;simp at h;exact⟨j,h3,h⟩
theorem TabOk.bytes {t:TypeId} {n:Nat} (h:bytesOfT T t=some n):∃ i,P.info? t=some i∧i.bytes=n:=by
 unfold bytesOfT at h
 cases h1:tlook T.types t with
 | none=>rw[h1]at h;cases h
 | some i =>
  obtain⟨d',j,_,h3,h4⟩:=ok.ti h1
  rw[h1]at h;subst h4;simp at h;exact⟨j,h3,h⟩
theorem TabOk.zero {t:TypeId} {z:PV} (h:zeroT T t=some z):∃ i v,P.info? t=some i∧i.zero=some v∧ofValue v=some z:=by
 unfold zeroT at h
 cases h1:tlook T.types t with
 | none=>rw[h1]at h;cases h
 | some i =>
  obtain⟨d',j,_,h3,h4⟩:=ok.ti h1
  rw[h1]at h;subst h4;simp at h
  cases h5:j.zero with
  | none=>rw[h5]at h;cases h
  | some v=>rw[h5]at h;exact⟨j,v,h3,h5,by simpa using h⟩
theorem TabOk.agg {t:TypeId} {n:Nat} (h:szOf T t=some n):aggT T t=aggP P t:=by
 unfold szOf at h
 unfold aggT
 cases h1:tlook T.types t with
 | none=>rw[h1]at h;cases h
 | some i =>
  obtain⟨d',j,_,h3,h4⟩:=ok.ti h1
  subst h4;rfl
theorem TabOk.plain {t:TypeId} (h:plainT T t=true):plainP P t=true:=by
 unfold plainT at h
 cases h1:tlook T.types t with
 | none=>rw[h1]at h;cases h
 | some i =>
  obtain⟨d',j,_,h3,h4⟩:=ok.ti h1
  rw[h1]at h;subst h4;exact h
end
theorem run_und {P:Program} {t:TypeId} {d:TypeDesc} (h:P.underlying t=some d) (w:World):(underlying t).run P w=.ok d w:=by
 simp[underlying,h]
theorem run_info {P:Program} {t:TypeId} {i:TypeInfo} (h:P.info? t=some i) (w:World):(typeInfo t).run P w=.ok i w:=by
 simp[typeInfo,h]
theorem run_size {P:Program} {t:TypeId} {i:TypeInfo} (h:P.info? t=some i) (w:World):(sizeOf t).run P w=.ok i.size w:=by
 simp[sizeOf,run_info h]
theorem run_isAgg {P:Program} {t:TypeId} {d:TypeDesc} (h:P.underlying t=some d) (w:World):(isAgg t).run P w=.ok (aggP P t) w:=by
 unfold isAgg aggP
 simp only[h,Sem.run_bind,run_und h,Result.andThen_ok]
 cases d<;>rfl
structure ValSim (P:Program) (w:World) (M:Nat→Prop) (β:Nat→Option (Nat × Nat)) (h:Nat→Option Blk) (D:DT) (sem:Sem Value):Prop where
 sim:∀ (α:Type) (k:Eff→Option α) (r:α),D.run k=some r→∃ v c,k { val:=v }=some r∧AR w M β h v c∧sem.run P w=.ok c w
theorem run_chk {α:Type} {c:Bool} {x:DT} {k:Eff→Option α} {r:α} (h:(chk c x).run k=some r):c=true∧x.run k=some r:=by
 cases c
 · simp[chk,DT.run]at h
 · exact⟨rfl,by simpa [chk,DT.run] using h⟩
section
variable {P:Program} {T:Tab} {w:World} {M:Nat→Prop} {β:Nat→Option (Nat × Nat)} {h:Nat→Option Blk}
theorem ValSim.ret {v:AV} {c:Value} {sem:Sem Value} (h1:AR w M β h v c) (h2:sem.run P w=.ok c w):ValSim P w M β h (.ret { val:=v }) sem :=
 ⟨fun _ _ _ hk=>⟨v,c,hk,h1,h2⟩⟩
theorem ValSim.fail {sem:Sem Value}:ValSim P w M β h .fail sem:=⟨fun _ _ _ hk=>by simp[DT.run]at hk⟩
theorem ValSim.chk {c:Bool} {D:DT} {sem:Sem Value} (h1:c=true→ValSim P w M β h D sem):ValSim P w M β h (Skm.chk c D) sem :=
 ⟨fun α k r hk=>by obtain⟨h2,h3⟩:=run_chk hk;exact(h1 h2).sim α k r h3⟩
theorem ValSim.ite {c:Bool} {D E:DT} {sem:Sem Value} (h1:c=true→ValSim P w M β h D sem) (h2:c=false→ValSim P w M β h E sem):ValSim P w M β h (.ite c D E) sem:=by
 refine⟨fun α k r hk=>?_⟩
 cases c
 · exact(h2 rfl).sim α k r (by simpa [DT.run] using hk)
 · exact(h1 rfl).sim α k r (by simpa [DT.run] using hk)
theorem AR.p_int {k:IntKind} {n:Int} {c:Value} (h1:AR w M β h (.p (.int k n)) c):c=.int k n:=by
 cases h1;rename_i h2;cases h2;rfl
theorem AR.p_bool {b:Bool} {c:Value} (h1:AR w M β h (.p (.bool b)) c):c=.bool b:=by
 cases h1;rename_i h2;cases h2;rfl
theorem AR.p_str {s:ByteArray} {c:Value} (h1:AR w M β h (.p (.str s)) c):c=.string s:=by
 cases h1;rename_i h2;cases h2;rfl
theorem AR.int (k:IntKind) (n:Int):AR w M β h (.p (.int k n)) (.int k n):=.p _ _ (.int k n)
theorem AR.bool (b:Bool):AR w M β h (.p (.bool b)) (.bool b):=.p _ _ (.bool b)
theorem AR.str (s:ByteArray):AR w M β h (.p (.str s)) (.string s):=.p _ _ (.str s)
theorem bytesLt_eq:∀ (x y:List UInt8),bytesLt x y=Op.bytesLess x y
 | [],[]=>rfl
 | _::_,[]=>rfl
 | [],_::_=>rfl
 | a::x,b::y=>by simp[bytesLt,Op.bytesLess,bytesLt_eq x y]
theorem sim_un {op:UnOp} {x:AV} {c:Value} (hx:AR w M β h x c):ValSim P w M β h (stepUn op x) (Op.unary op c):=by
 unfold stepUn
 split
 · rw[hx.p_int]
   exact ValSim.ret (.int _ _) (by simp[Op.unary,Op.intArith])
 · rw[hx.p_bool]
   exact ValSim.ret (.bool _) (by simp[Op.unary])
 · exact ValSim.fail
theorem sim_binInt {op:BinOp} {j:IntKind} {a b:Int} {v:PV} (hv:binInt op j a b=some v) (t:TypeId):∃ c,VR w M v c∧(binOp op t (.int j a) (.int j b)).run P w=.ok c w:=by
 unfold binInt at hv
 split at hv<;>first
  | (cases hv;exact⟨_,.int _ _,by simp[binOp,Op.intArith,Op.intBits]⟩)
  | (cases hv;exact⟨_,.bool _,by simp[binOp,Op.intCmp]⟩)
  | cases hv
theorem sim_binStr {op:BinOp} {a b:ByteArray} {v:PV} (hv:binStr op a b=some v) (t:TypeId):∃ c,VR w M v c∧(binOp op t (.string a) (.string b)).run P w=.ok c w:=by
 unfold binStr at hv
 split at hv<;>first
  | (cases hv;exact⟨_,.bool _,by simp[binOp,Op.stringOp,bytesLt_eq]⟩)
  | cases hv
theorem eqLeaf_ok (ok : TabOk P T) {d : Nat} {t : TypeId} {x y : PV} {vx vy : Value} {b : Bool} (hl : eqLeaf (und T t) x y = some b) (hx : VR w M x vx) (hy : VR w M y vy) :
    (Op.equalIn (d+1) t vx vy).run P w=.ok b w:=by
  unfold eqLeaf at hl
  split at hl
  · cases hx;cases hy
    split at hl
    · rename_i h
      rename_i j1 x1 k1 y1 _ _
      by_cases hjk:j1=k1
      · subst hjk
        simp at hl;subst hl
        exact run_equalIn_int w d t _ _ _ _ (ok.und h)
      · have:(j1==k1)=false:=by simpa using hjk
        simp[this]at hl
    · cases hl
  · cases hx;cases hy
    split at hl
    · rename_i h
      cases hl
      exact run_equalIn_bool w d t _ _ (ok.und h)
    · cases hl
  · cases hx;cases hy
    split at hl
    · rename_i h
      cases hl
      rw[run_equalIn_string w d t _ _ (ok.und h),beq_toListBytes]
    · cases hl
  · cases hl
theorem getD_some {vs:Array Value} {i:Nat} (h:i<vs.size):vs[i]?=some (vs.getD i undef):=by
 rw[Array.getElem?_eq_getElem h];simp[Array.getD,h]
def Rep (P:Program) (w:World) (M:Nat→Prop) (t:TypeId) (xs:List PV) (v:Value):Prop :=
 if aggP P t=true then ∃ vs:Array Value,v=.agg vs∧vs.size=xs.length∧∀ (i:Nat) (c:PV),xs[i]?=some c→VR w M c (vs.getD i undef) else ∃ x,xs=[x]∧VR w M x v
theorem eqFs_ok (ok : TabOk P T) {g : TypeId → List PV → List PV → Option Bool} {gp : TypeId → Bool} {d : Nat} {xs ys : Array Value}
    (hg:∀ t as bs b va vb,gp t=true→g t as bs=some b→Rep P w M t as va→Rep P w M t bs vb→(Op.equalIn d t va vb).run P w=.ok b w) (hu:∀ t,gp t=true→∃ dd,P.underlying t=some dd)
    (h1:∀ t,gp t=true→aggP P t=false→∀ as bs b,g t as bs=some b→∃ x y,as=[x]∧bs=[y]) :
    ∀ (fs:List Field) (o:Nat) (as bs:List PV) (r:Bool),plainFs (fun t=>(P.info? t).map (·.size)) gp o fs=true →
    (∀ (i:Nat) (c:PV),as[i]?=some c→VR w M c (xs.getD (o+i) undef))→(∀ (i:Nat) (c:PV),bs[i]?=some c→VR w M c (ys.getD (o+i) undef)) →
    o+as.length=xs.size→o+bs.length=ys.size→eqFs (szOf T) g fs as bs=some r→(Op.eqFields d xs ys fs).run P w=.ok r w
  | [],o,as,bs,r,_,_,_,_,_,he=>by
   cases as<;>cases bs<;>simp[eqFs]at he
   subst he;simp[Op.eqFields]
  | f::fs,o,as,bs,r,hp,ha,hb,h3,h4,he=>by
   unfold eqFs at he
   unfold plainFs at hp
   cases hn:szOf T f.type with
   | none=>rw[hn]at he;simp at he
   | some n =>
   obtain⟨ti,hti,hsz⟩:=ok.size hn
   rw[hn]at he
   simp only at he
   cases hble:(Nat.ble n as.length&&Nat.ble n bs.length) with
   | false=>rw[hble]at he;cases he
   | true =>
   rw[hble,cond_true]at he
   rw[Bool.and_eq_true,Nat.ble_eq,Nat.ble_eq]at hble
   obtain⟨hl1,hl2⟩:=hble
   simp only[hti,Option.map_some,hsz,Bool.and_eq_true,beq_iff_eq,bne_iff_ne,ne_eq]at hp
   obtain⟨hoff,hname,hgp,hrest⟩:=hp
   cases hl:g f.type (as.take n) (bs.take n) with
   | none=>rw[hl]at he;simp at he
   | some b1 =>
   cases hr:eqFs (szOf T) g fs (as.drop n) (bs.drop n) with
   | none=>rw[hl,hr]at he;simp at he
   | some b2 =>
   rw[hl,hr]at he
   simp only[Option.some.injEq]at he
   obtain⟨dd,hdd⟩:=hu _ hgp
   have hpart:∀ (zs:Array Value) (cs:List PV),n≤cs.length→(aggP P f.type=false→∃ x,cs.take n=[x])→(∀ (i:Nat) (c:PV),cs[i]?=some c→VR w M c (zs.getD (o+i) undef))→o+cs.length=zs.size→∃ v,(part f.type zs f.offset).run P w=.ok v w∧Rep P w M f.type (cs.take n) v:=by
    intro zs cs hle hone hc hsize
    cases hagg:aggP P f.type with
    | true =>
     refine⟨.agg (zs.extract o (o+n)),?_,?_⟩
     · simp only[part,Sem.run_bind,run_isAgg hdd,hagg,Result.andThen_ok,if_true,run_size hti,hsz,hoff,Sem.run_pure]
     · unfold Rep
       rw[if_pos hagg]
       refine⟨_,rfl,by simp only[Array.size_extract,List.length_take];omega,fun i c hi=>?_⟩
       rw[List.getElem?_take]at hi
       split at hi
       · rename_i hlt
         have hlen:=(List.getElem?_eq_some_iff.1 hi).1
         have:=hc i c hi
         have e:(zs.extract o (o+n)).getD i undef=zs.getD (o+i) undef:=by
          have h1:i<(zs.extract o (o+n)).size:=by simp only[Array.size_extract];omega
          have h2:o+i<zs.size:=by omega
          simp only[Array.getD,h1,h2,dite_true]
          exact Array.getElem_extract ..
         rw[e];exact this
       · cases hi
    | false =>
     obtain⟨x,hx⟩:=hone hagg
     have hx0:cs[0]?=some x:=by
      have:(cs.take n)[0]?=some x:=by rw[hx];rfl
      rw[List.getElem?_take]at this
      split at this
      · exact this
      · cases this
     have hlen:=(List.getElem?_eq_some_iff.1 hx0).1
     refine⟨zs.getD o undef,?_,?_⟩
     · simp only[part,Sem.run_bind,run_isAgg hdd,hagg,Result.andThen_ok,Bool.false_eq_true,if_false,hoff,getD_some (by omega:o<zs.size),Sem.run_pure]
     · unfold Rep
       rw[hagg,if_neg (by simp)]
       exact⟨x,hx,by simpa using hc 0 x hx0⟩
   have hone:aggP P f.type=false→(∃ x,as.take n=[x])∧∃ y,bs.take n=[y]:=by
    intro hag
    obtain⟨x,y,e1,e2⟩:=h1 _ hgp hag _ _ _ hl
    exact⟨⟨x,e1⟩,⟨y,e2⟩⟩
   obtain⟨va,pa,ra⟩:=hpart xs as hl1 (fun hag=>(hone hag).1) ha h3
   obtain⟨vb,pb,rb⟩:=hpart ys bs hl2 (fun hag=>(hone hag).2) hb h4
   have heq:=hg _ _ _ _ _ _ hgp hl ra rb
   simp only[Op.eqFields,hname,ne_eq,not_false_eq_true,if_true,Sem.run_bind,pa,pb,heq,Result.andThen_ok,Sem.run_ite]
   cases b1
   · simp at he;subst he;rfl
   · simp at he;subst he
     exact eqFs_ok ok hg hu h1 fs (o+n) (as.drop n) (bs.drop n) b2 hrest (fun i c hi=>by
      rw[List.getElem?_drop]at hi
      have:=ha (n+i) c hi
      rwa[show o+(n+i)=o+n+i by omega]at this) (fun i c hi=>by
      rw[List.getElem?_drop]at hi
      have:=hb (n+i) c hi
      rwa[show o+(n+i)=o+n+i by omega]at this) (by simp only[List.length_drop];omega) (by simp only[List.length_drop];omega) hr
theorem eqT_ok (ok:TabOk P T):∀ (n d:Nat) (t:TypeId) (as bs:List PV) (b:Bool) (va vb:Value),plainN P n t=true→eqT T n t as bs=some b→Rep P w M t as va→Rep P w M t bs vb→(Op.equalIn (d+n) t va vb).run P w=.ok b w
 | 0,d,t,as,bs,b,va,vb,hp,_,_,_=>by simp[plainN]at hp
 | n+1,d,t,as,bs,b,va,vb,hp,he,ra,rb=>by
  unfold eqT at he
  unfold plainN at hp
  split at he
  · rename_i fs hu
    have hu:=ok.und hu
    rw[hu]at hp
    simp only[Bool.and_eq_true,Bool.not_eq_true']at hp
    have hagg:aggP P t=true:=by unfold aggP;rw[hu]
    unfold Rep at ra rb
    rw[if_pos hagg]at ra rb
    obtain⟨vs,rfl,e1,h1⟩:=ra
    obtain⟨us,rfl,e2,h2⟩:=rb
    have hfs:P.fieldsOf t=fs:=by simp[Program.fieldsOf,hu]
    rw[← Nat.add_assoc,run_equalIn_struct w (d+n) t vs us (by rw[hfs];exact hu) hp.1,hfs]
    refine eqFs_ok ok (g:=eqT T n) (gp:=plainN P n) (fun t as bs b va vb h1 h2 h3 h4=>eqT_ok ok n d t as bs b va vb h1 h2 h3 h4) (fun t ht=>?_) (fun t ht hag as bs b hb=>?_) fs.toList 0 as bs b hp.2 (fun i c hi=>by simpa using h1 i c hi) (fun i c hi=>by simpa using h2 i c hi) (by omega) (by omega) he
    · cases n with
      | zero=>simp[plainN]at ht
      | succ n =>
       unfold plainN at ht
       cases hh:P.underlying t with
       | none=>rw[hh]at ht;simp at ht
       | some dd=>exact⟨dd,rfl⟩
    · cases n with
      | zero=>simp[eqT]at hb
      | succ n =>
       unfold eqT at hb
       split at hb
       · rename_i fs' hu'
         have:=ok.und hu'
         unfold aggP at hag
         rw[this]at hag
         simp at hag
       · split at hb
         · exact⟨_,_,rfl,rfl⟩
         · cases hb
  · rename_i hns
    split at he
    · rename_i x y
      have hagg:aggP P t=false:=by
       unfold aggP
       cases hh:P.underlying t with
       | none=>rfl
       | some dd =>
        rw[hh]at hp
        cases dd<;>first
         | rfl
         | (simp at hp;done)
         | (rename_i fs
            exfalso
            cases hu:und T t with
            | none=>rw[hu]at he;unfold eqLeaf at he;cases x<;>cases y<;>simp at he
            | some d2 =>
             have:=ok.und hu
             rw[hh]at this
             cases this
             exact hns fs hu)
      unfold Rep at ra rb
      rw[hagg,if_neg (by simp)]at ra rb
      obtain⟨x',e1,hx⟩:=ra
      obtain⟨y',e2,hy⟩:=rb
      cases e1
      cases e2
      exact eqLeaf_ok ok (d:=d+n) he hx hy
    · cases he
theorem sim_bin0 (ok : TabOk P T) {op : BinOp} {t : TypeId} {x y : AV} {c d : Value} (ox oy : Operand) (hx : AR w M β h x c) (hy : AR w M β h y d) :
    ValSim P w M β h (stepBin0 T op t x y) (do eqGuard op t ox oy c d;binOp op t c d):=by
  have guard:∀ (e1 e2:Value),(∀ u v,e1≠.agg u∨e2≠.agg v)→(e1≠.nilIface∨e2≠.nilIface)→(eqGuard op t ox oy e1 e2).run P w=.ok () w:=by
   intro e1 e2 h1 h2
   cases op<;>first
    | (simp[eqGuard];done)
    | (cases e1 <;> first
        | (simp[eqGuard];done)
        | (cases e2<;>first | (simp[eqGuard];done) | (rcases h1 _ _ with h1 | h1<;>exact absurd rfl h1) | (rcases h2 with h2 | h2<;>exact absurd rfl h2)))
  unfold stepBin0
  split
  · rename_i j a i b
    rw[hx.p_int,hy.p_int]
    have g:=guard (.int j a) (.int i b) (by simp) (by simp)
    split
    · refine ValSim.chk fun hb=>ValSim.ret (.int _ _) ?_
      have hb':¬ b<0:=by simpa using hb
      simp only[Sem.run_bind,g,Result.andThen_ok,binOp,Op.shift,if_neg hb']
      simp
    · refine ValSim.chk fun hb=>ValSim.ret (.int _ _) ?_
      have hb':¬ b<0:=by simpa using hb
      simp only[Sem.run_bind,g,Result.andThen_ok,binOp,Op.shift,if_neg hb']
      simp
    · refine ValSim.chk fun hj=>ValSim.chk fun hb=>ValSim.ret (.int _ _) ?_
      have hj':j=i:=by simpa using hj
      have hb':¬ b=0:=by simpa using hb
      subst hj'
      simp[g,binOp,Op.intDiv,hb']
    · refine ValSim.chk fun hj=>ValSim.chk fun hb=>ValSim.ret (.int _ _) ?_
      have hj':j=i:=by simpa using hj
      have hb':¬ b=0:=by simpa using hb
      subst hj'
      simp[g,binOp,Op.intDiv,hb']
    · refine ValSim.chk fun hj=>?_
      have hj':j=i:=by simpa using hj
      subst hj'
      split
      · rename_i v hv
        obtain⟨e,h1,h2⟩:=sim_binInt (P:=P) (w:=w) (M:=M) hv t
        exact ValSim.ret (.p _ _ h1) (by simp only[Sem.run_bind,g,Result.andThen_ok];exact h2)
      · exact ValSim.fail
  · rename_i a b
    rw[hx.p_str,hy.p_str]
    have g:=guard (.string a) (.string b) (by simp) (by simp)
    split
    · refine ValSim.chk fun hb=>ValSim.ret (.str _) ?_
      have hb':a.size+b.size≤4611686018427387904:=by simpa using hb
      have:¬ ((a.size+b.size:Nat):Int) > IntKind.i64.max:=by
       have:IntKind.i64.max=9223372036854775807:=by decide
       rw[this];omega
      simp only[Sem.run_bind,g,Result.andThen_ok,binOp,Op.stringOp,if_neg this]
      rfl
    · split
      · rename_i v hv
        obtain⟨e,h1,h2⟩:=sim_binStr (P:=P) (w:=w) (M:=M) hv t
        exact ValSim.ret (.p _ _ h1) (by simp only[Sem.run_bind,g,Result.andThen_ok];exact h2)
      · exact ValSim.fail
  · rename_i a b
    rw[hx.p_bool,hy.p_bool]
    have g:=guard (.bool a) (.bool b) (by simp) (by simp)
    split
    · rename_i hu
      exact ValSim.ret (.bool _) (by simp[g,binOp,run_equal_bool w t a b (ok.und hu)])
    · rename_i hu
      exact ValSim.ret (.bool _) (by simp[g,binOp,run_equal_bool w t a b (ok.und hu)])
    · exact ValSim.fail
  · rename_i as bs
    cases hx with
    | p _ _ hx =>
    cases hy with
    | p _ _ hy =>
    cases hx with
    | agg _ vs hn1 hl1 h1 =>
    cases hy with
    | agg _ us hn2 hl2 h2 =>
    refine ValSim.chk fun hp=>?_
    have hp:=ok.plain hp
    split
    · rename_i fs hu
      have hu:=ok.und hu
      have hfs:P.fieldsOf t=fs:=by simp[Program.fieldsOf,hu]
      unfold plainP at hp
      rw[hu]at hp
      simp only[Bool.and_eq_true,Bool.not_eq_true']at hp
      obtain⟨hp1,hp3⟩:=hp
      have hagg:aggP P t=true:=by unfold aggP;rw[hu]
      have g:(eqGuard op t ox oy (.agg vs) (.agg us)).run P w=.ok () w:=run_eqGuard_agg w op t ox oy vs us hp3
      have main:∀ r,eqT T 4 t as bs=some r→(Op.equalIn 10000 t (.agg vs) (.agg us)).run P w=.ok r w:=by
       intro r hr
       exact eqT_ok ok 4 9996 t as bs r (.agg vs) (.agg us) hp1 hr (by unfold Rep;rw[if_pos hagg];exact⟨vs,rfl,hn1,h1⟩) (by unfold Rep;rw[if_pos hagg];exact⟨us,rfl,hn2,h2⟩)
      split
      · rename_i r hr
        exact ValSim.ret (.bool _) (by simp only[Sem.run_bind,g,Result.andThen_ok,run_eql_struct w t vs us,main r hr])
      · rename_i r hr
        exact ValSim.ret (.bool _) (by simp only[Sem.run_bind,g,Result.andThen_ok,run_neq_struct w t vs us,main r hr])
      · exact ValSim.fail
    · exact ValSim.fail
  · exact ValSim.fail
theorem sim_binNil (ok : TabOk P T) {op : BinOp} {t : TypeId} {x y : AV} {c d : Value} (ox oy : Operand) (hx : AR w M β h x c) (hy : AR w M β h y d) :
    ValSim P w M β h (stepNil T op t (isLit oy) x y) (do eqGuard op t ox oy c d;binOp op t c d):=by
  have guard:∀ (e1 e2:Value),(∀ u v,e1≠.agg u∨e2≠.agg v)→(e1≠.nilIface∨e2≠.nilIface)→(eqGuard op t ox oy e1 e2).run P w=.ok () w:=by
   intro e1 e2 h1 h2
   cases op<;>first
    | (simp[eqGuard];done)
    | (cases e1 <;> first
        | (simp[eqGuard];done)
        | (cases e2<;>first | (simp[eqGuard];done) | (rcases h1 _ _ with h1 | h1<;>exact absurd rfl h1) | (rcases h2 with h2 | h2<;>exact absurd rfl h2)))
  unfold stepNil
  split
  · rename_i x
    cases hy with
    | p _ _ hy =>
    cases hy
    cases hx with
    | p _ _ hx =>
    have hg:=guard c .nilFunc (fun _ _=>.inr (by simp)) (.inr (by simp))
    have run:∀ (p r:Array TypeId) (b:Bool),P.underlying t=some (.func p r b)→x.isF=true→(Op.equal t c .nilFunc).run P w=.ok x.isNilF w:=by
     intro p r b hu hf
     have key:∀ d,(Op.equalIn (d+1) t c .nilFunc).run P w=.ok x.isNilF w:=fun d=>by
      cases hx<;>first | (simp[PV.isF]at hf;done) | simp[Op.equalIn,run_und hu,PV.isNilF]
     exact key 9999
    have hb:∀ o,(o=.eql∨o=.neq)→binOp o t c .nilFunc=(match o with | .eql=>(do pure (.bool (← Op.equal t c .nilFunc)):Sem Value) | _=>(do pure (.bool (!(← Op.equal t c .nilFunc))):Sem Value)):=by
     intro o ho
     rcases ho with rfl | rfl<;>(cases hx<;>rfl)
    split
    · rename_i hu
      refine ValSim.chk fun hf=>ValSim.ret (.p _ _ (.bool _)) ?_
      simp only[Sem.run_bind,hg,Result.andThen_ok,hb .eql (.inl rfl),run _ _ _ (ok.und hu) hf,Sem.run_pure]
    · rename_i hu
      refine ValSim.chk fun hf=>ValSim.ret (.p _ _ (.bool _)) ?_
      simp only[Sem.run_bind,hg,Result.andThen_ok,hb .neq (.inr rfl),run _ _ _ (ok.und hu) hf,Sem.run_pure]
    · exact ValSim.fail
  · rename_i x
    cases hy with
    | p _ _ hy =>
    cases hy
    cases hx with
    | p _ _ hx =>
    have hg:isLit oy=true→(eqGuard op t ox oy c .nilIface).run P w=.ok () w:=by
     intro hl
     cases oy<;>simp[isLit]at hl
     cases op<;>first | (simp[eqGuard];done) | (cases c<;>simp[eqGuard])
    have run:∀ ms,P.underlying t=some (.interface ms)→x.isI=true→(Op.equal t c .nilIface).run P w=.ok x.isNilI w:=by
     intro ms hu hf
     have key:∀ d,(Op.equalIn (d+1) t c .nilIface).run P w=.ok x.isNilI w:=fun d=>by
      cases hx<;>first | (simp[PV.isI]at hf;done) | simp[Op.equalIn,run_und hu,PV.isNilI]
     exact key 9999
    have hb:∀ o,(o=.eql∨o=.neq)→binOp o t c .nilIface=(match o with | .eql=>(do pure (.bool (← Op.equal t c .nilIface)):Sem Value) | _=>(do pure (.bool (!(← Op.equal t c .nilIface))):Sem Value)):=by
     intro o ho
     rcases ho with rfl | rfl<;>(cases hx<;>rfl)
    split
    · rename_i hu
      refine ValSim.chk fun hf=>?_
      simp only[Bool.and_eq_true]at hf
      refine ValSim.ret (.p _ _ (.bool _)) ?_
      simp only[Sem.run_bind,hg hf.1,Result.andThen_ok,hb .eql (.inl rfl),run _ (ok.und hu) hf.2,Sem.run_pure]
    · rename_i hu
      refine ValSim.chk fun hf=>?_
      simp only[Bool.and_eq_true]at hf
      refine ValSim.ret (.p _ _ (.bool _)) ?_
      simp only[Sem.run_bind,hg hf.1,Result.andThen_ok,hb .neq (.inr rfl),run _ (ok.und hu) hf.2,Sem.run_pure]
    · exact ValSim.fail
  · rename_i a ks xs
    cases hy with
    | p _ _ hy =>
    cases hy
    cases hx with
    | p _ _ hx =>
    have hg:=guard c (.slice none 0 0) (fun _ _=>.inr (by simp)) (.inr (by simp))
    have run:∀ e,P.underlying t=some (.slice e)→0<xs.length→(Op.equal t c (.slice none 0 0)).run P w=.ok false w:=by
     intro e hu hl
     have key:∀ d,(Op.equalIn (d+1) t c (.slice none 0 0)).run P w=.ok false w:=fun d=>by
      cases hx with
      | list=>simp[Op.equalIn,run_und hu]
      | listE=>simp at hl
     exact key 9999
    have hb:∀ o,(o=.eql∨o=.neq)→binOp o t c (.slice none 0 0)=(match o with | .eql=>(do pure (.bool (← Op.equal t c (.slice none 0 0))):Sem Value) | _=>(do pure (.bool (!(← Op.equal t c (.slice none 0 0)))):Sem Value)):=by
     intro o ho
     rcases ho with rfl | rfl<;>(cases hx<;>rfl)
    split
    · rename_i hu
      refine ValSim.chk fun hf=>ValSim.ret (.p _ _ (.bool _)) ?_
      simp only[Sem.run_bind,hg,Result.andThen_ok,hb .eql (.inl rfl),run _ (ok.und hu) (Nat.le_of_ble_eq_true hf),Sem.run_pure]
    · rename_i hu
      refine ValSim.chk fun hf=>ValSim.ret (.p _ _ (.bool _)) ?_
      simp only[Sem.run_bind,hg,Result.andThen_ok,hb .neq (.inr rfl),run _ (ok.und hu) (Nat.le_of_ble_eq_true hf),Sem.run_pure]
      rfl
    · exact ValSim.fail
  · exact ValSim.fail
theorem sim_bin (ok : TabOk P T) {op : BinOp} {t : TypeId} {x y : AV} {c d : Value} (ox oy : Operand) (hx : AR w M β h x c) (hy : AR w M β h y d) :
    ValSim P w M β h (stepBin T op t (isLit oy) x y) (do eqGuard op t ox oy c d;binOp op t c d):=by
  unfold stepBin
  split
  · exact sim_binNil ok ox oy hx hy
  · exact sim_binNil ok ox oy hx hy
  · exact sim_binNil ok ox oy hx hy
  · exact sim_bin0 ok ox oy hx hy
end
end Go.Skm
