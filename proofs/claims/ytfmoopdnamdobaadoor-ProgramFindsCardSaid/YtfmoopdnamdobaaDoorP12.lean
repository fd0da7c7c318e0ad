/-
  The document's example; condition: the library's answers, the walk of all paths.
-/
import Derived.Test.YtfmoopdnamdobaaDoorP11
import Derived.Test.YtfmoopdnamdobaaDoorSkmG
namespace Go.Skm.Prg
open Go Go.Skm
def Known (X:Ext):Prop:=run tab X 8 [] []=some ([.p (.bool true)],[])
def exA:Ac:=⟨[117,112],5000,[⟨⟨0,0,300⟩,0,4000,0⟩,⟨⟨500,0,300⟩,1000,4000,0⟩]⟩
def exP:Pg:=⟨[[97],[98]],[⟨0,0,0⟩,⟨500,0,0⟩],[exA]⟩
def exB:Ac:=⟨[100,111,119,110],1000,[⟨⟨0,0,0⟩,0,2000,0⟩,⟨⟨500,0,300⟩,0,0,0⟩]⟩
theorem small_of {p:Pg} (h1:p.names.length≤100) (h2:p.homes.length≤100) (h3:p.acts.length≤100) (h4:(p.acts.all fun a=>decide (a.mvs.length≤100)&&(decide (a.name.length≤1000)&&(decide (-9223372036854775808≤a.len)&&decide (a.len≤9223372036854775807))))=true) (h5:(p.names.all fun g=>decide (g.length≤1000))=true):Small p:=by
 simp only[List.all_eq_true,Bool.and_eq_true,decide_eq_true_eq]at h4 h5
 exact⟨h1,h2,h3,fun a ha=>⟨(h4 a ha).1,(h4 a ha).2.1,(h4 a ha).2.2⟩,h5⟩
theorem exS:Small exP:=small_of (by decide) (by decide) (by decide) (by decide) (by decide)
theorem exSB:Small (addA exP exB):=small_of (by decide) (by decide) (by decide) (by decide) (by decide)
theorem exR:Rng exP:=by
 constructor
 · intro v hv
   simp only[exP,List.mem_cons,List.not_mem_nil,or_false]at hv
   rcases hv with rfl | rfl<;>simp[i64]
 · intro a ha m hm
   simp only[exP,List.mem_cons,List.not_mem_nil,or_false]at ha
   subst ha
   simp only[exA,List.mem_cons,List.not_mem_nil,or_false]at hm
   rcases hm with rfl | rfl<;>simp[i64]
theorem exV:validP exP=true:=by decide +kernel
theorem exVB:validP (addA exP exB)=false:=by decide +kernel
def q0:List Sg:=[⟨0,4000,1,[0],[0],[0,0,0,3000,-4500,1800]⟩,⟨4000,5000,1,[0],[0],[300]⟩]
def q1:List Sg:=[⟨0,1000,1,[500],[0],[0]⟩,⟨1000,5000,1,[500],[0],[0,0,0,3000,-4500,1800]⟩]
theorem exQ0:pathV exP 0=(q0,0):=by decide +kernel
theorem exQ1:pathV exP 1=(q1,0):=by decide +kernel
theorem exL:lenP exP=5000:=by decide +kernel
theorem exF0:formR exP 0=([⟨0,0,0⟩,⟨500,0,0⟩],0):=by decide +kernel
theorem exF1:formR exP 1=([⟨0,0,300⟩,⟨500,0,300⟩],0):=by decide +kernel
theorem exA0:actV exP 5000=(0,0,0):=by decide +kernel
theorem exA1:actV exP 5001=(0,0,3):=by decide +kernel
theorem exN:findR exP [98]=(1,0):=by decide +kernel
theorem exAp:(appR exP exB).2=10:=by rw[appR,exV,exVB];rfl
theorem exAp1:(appR exP exB).1=nilP:=by rw[appR,exV,exVB];rfl
theorem dec1 {u:Nat} (h:u<10):Lib.decDigits u=[UInt8.ofNat (48+u)]:=by rw[Lib.decDigits];simp[h]
theorem i0:Lib.itoa 0=[48]:=by rw[itoa_nat (by decide),dec1 (by decide)];rfl
theorem i3:Lib.itoa 300=[51,48,48]:=by
 rw[itoa_nat (by decide),decDigits_split (by decide),decDigits_split (by decide),dec1 (by decide),dec1 (by decide),dec1 (by decide)];rfl
theorem i5:Lib.itoa 500=[53,48,48]:=by
 rw[itoa_nat (by decide),decDigits_split (by decide),decDigits_split (by decide),dec1 (by decide),dec1 (by decide),dec1 (by decide)];rfl
theorem i1k:Lib.itoa 1000=[49,48,48,48]:=by
 rw[itoa_nat (by decide),decDigits_split (by decide),decDigits_split (by decide),decDigits_split (by decide),dec1 (by decide),dec1 (by decide),dec1 (by decide),dec1 (by decide)];rfl
theorem i4k:Lib.itoa 4000=[52,48,48,48]:=by
 rw[itoa_nat (by decide),decDigits_split (by decide),decDigits_split (by decide),decDigits_split (by decide),dec1 (by decide),dec1 (by decide),dec1 (by decide),dec1 (by decide)];rfl
theorem i5k:Lib.itoa 5000=[53,48,48,48]:=by
 rw[itoa_nat (by decide),decDigits_split (by decide),decDigits_split (by decide),decDigits_split (by decide),dec1 (by decide),dec1 (by decide),dec1 (by decide),dec1 (by decide)];rfl
def exT:List UInt8:=[97,105,114,99,114,97,102,116,32,97,32,48,32,48,32,48,10,97,105,114,99,114,97,102,116,32,98,32,53,48,48,32,48,32,48,10,97,99,116,32,117,112,32,53,48,48,48,10,109,111,118,101,32,48,32,48,32,51,48,48,32,48,32,52,48,48,48,32,48,10,109,111,118,101,32,53,48,48,32,48,32,51,48,48,32,49,48,48,48,32,52,48,48,48,32,48,10]
theorem exTx:textP exP=exT:=by
 simp only[textP,exP,exA,airsT,actsT,movsT,airT,actT,movT,i0,i3,i5,i1k,i4k,i5k]
 rfl
section
variable (X:Ext) (hX:Mine X)
include hX
theorem c9 (x y z:Int):run tab X 9 [.p (.int .i64 x),.p (.int .i64 y),.p (.int .i64 z)] []=some ([.p (encV ⟨x,y,z⟩)],[]) :=
 run_of (hX _ rfl) (by rw[e9];rfl)
theorem c33:run tab X 33 [] []=some ([.p (eG exP)],[]):=by
 refine run_of (hX _ rfl) ?_
 rw[e33]
 refine bindS (c9 X hX 0 0 0) ?_
 refine bindS (c9 X hX 500 0 0) ?_
 refine bindS (c9 X hX 0 0 300) ?_
 refine bindS (c9 X hX 500 0 300) ?_
 rfl
theorem c35:run tab X 35 [] []=some ([.p (.str (ba exT))],[]) :=
 run_of (hX _ rfl) (by rw[e35];rfl)
theorem known (hC:Clones X) (hA:AllOk X):Known X:=by
 have k23:=c23 X hX hC exP exS
 rw[exV,exL]at k23
 have k24:=c24 X hX hC hA exP exS 0
 rw[exQ0]at k24
 have k24b:=c24 X hX hC hA exP exS 1
 rw[exQ1]at k24b
 have k12:=c12 X hX hC exP exS 0
 rw[exF0]at k12
 have k12b:=c12 X hX hC exP exS 1
 rw[exF1]at k12b
 have k13:=c13 X hX hC exP exS 5000
 rw[exA0]at k13
 have k13b:=c13 X hX hC exP exS 5001
 rw[exA1]at k13b
 have k14:=c14 X hX hC exP exS [98]
 rw[exN]at k14
 have k34:=c34 X hX hC exP exS exR exV
 rw[exTx]at k34
 have k20:=c20 X hX hC exP exS exB exSB
 rw[exAp,exAp1]at k20
 unfold Known
 refine run_of (hX _ rfl) ?_
 rw[e8]
 refine bindS (c33 X hX) ?_
 refine bindS k23 ?_
 refine bindS k24 ?_
 refine bindS k24b ?_
 refine condF rfl ?_
 refine condF rfl ?_
 refine condF rfl ?_
 refine condF rfl ?_
 refine condF rfl ?_
 refine condT rfl ?_
 refine condF rfl ?_
 refine condT rfl ?_
 refine condF rfl ?_
 refine condF rfl ?_
 refine condT rfl ?_
 refine condF rfl ?_
 refine condT rfl ?_
 refine condF rfl ?_
 refine bindS k12 ?_
 refine bindS k12b ?_
 refine bindS k13 ?_
 refine bindS k13b ?_
 refine bindS k14 ?_
 refine condF rfl ?_
 refine condF rfl ?_
 refine condF rfl ?_
 refine condF rfl ?_
 refine condF rfl ?_
 refine condF rfl ?_
 refine condF rfl ?_
 refine condF rfl ?_
 refine bindS (c16 X hX [⟨0,0,0⟩,⟨500,0,0⟩] [⟨0,0,0⟩,⟨500,0,0⟩] (by decide)) ?_
 refine condF rfl ?_
 refine bindS (c9 X hX 0 0 300) ?_
 refine bindS (c9 X hX 500 0 300) ?_
 refine bindS (c16 X hX [⟨0,0,300⟩,⟨500,0,300⟩] [⟨0,0,300⟩,⟨500,0,300⟩] (by decide)) ?_
 refine condF rfl ?_
 refine bindS k34 ?_
 refine bindS (c9 X hX 0 0 0) ?_
 refine bindS (c9 X hX 500 0 300) ?_
 refine bindS k20 ?_
 refine bindS (c35 X hX) ?_
 refine condT ?_ ?_
 · show ((ba exT).toList==(ba exT).toList)=true
   rw[ba_beq,decide_eq_true rfl]
 rfl
end
end Go.Skm.Prg
