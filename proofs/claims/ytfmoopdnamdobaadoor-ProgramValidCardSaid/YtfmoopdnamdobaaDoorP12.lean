import Derived.Test.YtfmoopdnamdobaaDoorP11
import Derived.Test.YtfmoopdnamdobaaDoorSkmG
namespace Go.Skm.Prg
open Go Go.Skm
def Known (X:Ext):Prop:=run tab X 8 [] []=some ([.p (.bool true)],[])
def exA:Ac:=⟨[117,112],5000,[⟨⟨0,0,300⟩,0,4000,0⟩,⟨⟨500,0,300⟩,1000,4000,0⟩]⟩
def Fb:Pg:=⟨[[97],[98]],[⟨0,0,0⟩,⟨500,0,0⟩],[exA]⟩
def exB:Ac:=⟨[100,111,119,110],1000,[⟨⟨0,0,0⟩,0,2000,0⟩,⟨⟨500,0,300⟩,0,0,0⟩]⟩
theorem Si {p:Pg} (h1:p.names.length≤100) (h2:p.homes.length≤100) (h3:p.acts.length≤100) (h4:(p.acts.all fun a=>decide (a.iw.length≤100)&&(decide (a.name.length≤1000)&&(decide (-9223372036854775808≤a.len)&&decide (a.len≤9223372036854775807))))=true) (h5:(p.names.all fun g=>decide (g.length≤1000))=true):Small p:=by
 simp only[List.all_eq_true,qBa,qDa]at h4 h5
 exact⟨h1,h2,h3,fun a ha=>⟨(h4 a ha).1,(h4 a ha).2.1,(h4 a ha).2.2⟩,h5⟩
theorem exS:Small Fb:=Si (by decide) (by decide) (by decide) (by decide) (by decide)
theorem ajY:Small (ND Fb exB):=Si (by decide) (by decide) (by decide) (by decide) (by decide)
theorem exR:Rng Fb:=by
 constructor
 · intro v hv
   simp only[Fb,List.mem_cons,List.not_mem_nil,or_false]at hv
   rcases hv with rfl | rfl<;>simp[i64]
 · intro a ha m hm
   simp only[Fb,List.mem_cons,List.not_mem_nil,or_false]at ha
   subst ha
   simp only[exA,List.mem_cons,List.not_mem_nil,or_false]at hm
   rcases hm with rfl | rfl<;>simp[i64]
theorem exV:dV Fb=true:=by decide +kernel
theorem aeR:dV (ND Fb exB)=false:=by decide +kernel
def q0:List Sg:=[⟨0,4000,1,[0],[0],[0,0,0,3000,-4500,1800]⟩,⟨4000,5000,1,[0],[0],[300]⟩]
def q1:List Sg:=[⟨0,1000,1,[500],[0],[0]⟩,⟨1000,5000,1,[500],[0],[0,0,0,3000,-4500,1800]⟩]
theorem ajZ:IC Fb 0=(q0,0):=by decide +kernel
theorem aj0:IC Fb 1=(q1,0):=by decide +kernel
theorem exL:Eu Fb=5000:=by decide +kernel
theorem aj1:IE Fb 0=([⟨0,0,0⟩,⟨500,0,0⟩],0):=by decide +kernel
theorem aj2:IE Fb 1=([⟨0,0,300⟩,⟨500,0,300⟩],0):=by decide +kernel
theorem aj3:Xv Fb 5000=(0,0,0):=by decide +kernel
theorem aj6:Xv Fb 5001=(0,0,3):=by decide +kernel
theorem exN:V5 Fb [98]=(1,0):=by decide +kernel
theorem aj7:(UH Fb exB).2=10:=by rw[UH,exV,aeR];rfl
theorem aeS:(UH Fb exB).1=ac9:=by rw[UH,exV,aeR];rfl
theorem zF {u:Nat} (h:u<10):Lib.decDigits u=[UInt8.ofNat (48+u)]:=by rw[Lib.decDigits];simp[h]
theorem i0:Lib.itoa 0=[48]:=by rw[yU (by decide),zF (by decide)];rfl
theorem i3:Lib.itoa 300=[51,48,48]:=by
 rw[yU (by decide),dn (by decide),dn (by decide),zF (by decide),zF (by decide),zF (by decide)];rfl
theorem i5:Lib.itoa 500=[53,48,48]:=by
 rw[yU (by decide),dn (by decide),dn (by decide),zF (by decide),zF (by decide),zF (by decide)];rfl
theorem i1k:Lib.itoa 1000=[49,48,48,48]:=by
 rw[yU (by decide),dn (by decide),dn (by decide),dn (by decide),zF (by decide),zF (by decide),zF (by decide),zF (by decide)];rfl
theorem i4k:Lib.itoa 4000=[52,48,48,48]:=by
 rw[yU (by decide),dn (by decide),dn (by decide),dn (by decide),zF (by decide),zF (by decide),zF (by decide),zF (by decide)];rfl
theorem i5k:Lib.itoa 5000=[53,48,48,48]:=by
 rw[yU (by decide),dn (by decide),dn (by decide),dn (by decide),zF (by decide),zF (by decide),zF (by decide),zF (by decide)];rfl
def exT:List UInt8:=[97,105,114,99,114,97,102,116,32,97,32,48,32,48,32,48,10,97,105,114,99,114,97,102,116,32,98,32,53,48,48,32,48,32,48,10,97,99,116,32,117,112,32,53,48,48,48,10,109,111,118,101,32,48,32,48,32,51,48,48,32,48,32,52,48,48,48,32,48,10,109,111,118,101,32,53,48,48,32,48,32,51,48,48,32,49,48,48,48,32,52,48,48,48,32,48,10]
theorem aj8:VY Fb=exT:=by
 simp only[VY,Fb,exA,FM,KH,FN,P7,Xr,UG,i0,i3,i5,i1k,i4k,i5k]
 rfl
section
variable (X:Ext) (hX:Mine X)
include hX
theorem c9 (x y z:Int):run tab X 9 [.p (.int .i64 x),.p (.int .i64 y),.p (.int .i64 z)] []=some ([.p (aT ⟨x,y,z⟩)],[]) :=
 bn (hX _ rfl) (by rw[e9];rfl)
theorem c33:run tab X 33 [] []=some ([.p (eG Fb)],[]):=by
 refine bn (hX _ rfl) ?_
 rw[e33]
 refine nG (c9 X hX 0 0 0) ?_
 refine nG (c9 X hX 500 0 0) ?_
 refine nG (c9 X hX 0 0 300) ?_
 refine nG (c9 X hX 500 0 300) ?_
 rfl
theorem c35:run tab X 35 [] []=some ([.p (.str (ba exT))],[]) :=
 bn (hX _ rfl) (by rw[e35];rfl)
theorem known (hC:jI X) (hA:Y0 X):Known X:=by
 have k23:=c23 X hX hC Fb exS
 rw[exV,exL]at k23
 have k24:=c24 X hX hC hA Fb exS 0
 rw[ajZ]at k24
 have k24b:=c24 X hX hC hA Fb exS 1
 rw[aj0]at k24b
 have k12:=c12 X hX hC Fb exS 0
 rw[aj1]at k12
 have aeT:=c12 X hX hC Fb exS 1
 rw[aj2]at aeT
 have k13:=c13 X hX hC Fb exS 5000
 rw[aj3]at k13
 have aeU:=c13 X hX hC Fb exS 5001
 rw[aj6]at aeU
 have k14:=c14 X hX hC Fb exS [98]
 rw[exN]at k14
 have k34:=c34 X hX hC Fb exS exR exV
 rw[aj8]at k34
 have k20:=c20 X hX hC Fb exS exB ajY
 rw[aj7,aeS]at k20
 unfold Known
 refine bn (hX _ rfl) ?_
 rw[e8]
 refine nG (c33 X hX) ?_
 refine nG k23 ?_
 refine nG k24 ?_
 refine nG k24b ?_
 refine oN rfl ?_
 refine oN rfl ?_
 refine oN rfl ?_
 refine oN rfl ?_
 refine oN rfl ?_
 refine OD rfl ?_
 refine oN rfl ?_
 refine OD rfl ?_
 refine oN rfl ?_
 refine oN rfl ?_
 refine OD rfl ?_
 refine oN rfl ?_
 refine OD rfl ?_
 refine oN rfl ?_
 refine nG k12 ?_
 refine nG aeT ?_
 refine nG k13 ?_
 refine nG aeU ?_
 refine nG k14 ?_
 refine oN rfl ?_
 refine oN rfl ?_
 refine oN rfl ?_
 refine oN rfl ?_
 refine oN rfl ?_
 refine oN rfl ?_
 refine oN rfl ?_
 refine oN rfl ?_
 refine nG (c16 X hX [⟨0,0,0⟩,⟨500,0,0⟩] [⟨0,0,0⟩,⟨500,0,0⟩] (by decide)) ?_
 refine oN rfl ?_
 refine nG (c9 X hX 0 0 300) ?_
 refine nG (c9 X hX 500 0 300) ?_
 refine nG (c16 X hX [⟨0,0,300⟩,⟨500,0,300⟩] [⟨0,0,300⟩,⟨500,0,300⟩] (by decide)) ?_
 refine oN rfl ?_
 refine nG k34 ?_
 refine nG (c9 X hX 0 0 0) ?_
 refine nG (c9 X hX 500 0 300) ?_
 refine nG k20 ?_
 refine nG (c35 X hX) ?_
 refine OD ?_ ?_
 · show ((ba exT).toList==(ba exT).toList)=true
   rw[Ew,decide_eq_true rfl]
 rfl
end
end Go.Skm.Prg
