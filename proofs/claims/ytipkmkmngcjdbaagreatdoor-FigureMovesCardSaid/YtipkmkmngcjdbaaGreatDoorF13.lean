/-
  The text of a shape and of a figure, as the program writes it; condition: the library's answers, lengths that fit.
-/
import Derived.Test.YtipkmkmngcjdbaaGreatDoorF8
import Derived.Test.YtipkmkmngcjdbaaGreatDoorSkmG
namespace Go.Skm.Fig
open Go Go.Skm
def qC (c:UInt8):List UInt8→List UInt8 × List UInt8 × Bool
 | []=>([],[],false)
 | x::l=>bif x==c then([],l,true) else(x::(qC c l).1,(qC c l).2.1,(qC c l).2.2)
def eW (l:List (List UInt8)):List PV:=l.map fun p=>.str (ba p)
@[simp] theorem lY (l:List (List UInt8)):(eW l).length=l.length:=by simp[eW]
theorem WT (x y:List (List UInt8)):eW x++eW y=eW (x++y):=by simp[eW]
theorem OZ (l:List (List UInt8)) (n:Nat):(eW l).drop n=eW (l.drop n):=by simp[eW]
theorem O1 {l:List (List UInt8)} {i:Nat} (h:i<l.length):(((eW l).getD i .nil).cell 0).toStr=ba l[i]:=by
 rw[List.getD_eq_getElem?_getD];simp[eW,h,PV.cell]
def TB:List UInt8:=[120,121,120,122,121,122]
structure Texts (X:Ext):Prop where
 itoa:∀ n:Int,-9223372036854775808≤n→n≤9223372036854775807→run tab X 75 [.p (.int .i64 n)] []=some ([.p (.str (ba (Lib.itoa n)))],[])
 split:∀ l:List UInt8,l.length≤100000000→run tab X 79 [.p (.str (ba l)),.p (.str ⟨#[32]⟩)] []=some ([.p (.list false [.str] (eW (dF 32 l)))],[])
 atoi:∀ l:List UInt8,l.length≤100000000→run tab X 81 [.p (.str (ba l))] []=some (Vz l,[])
 cut:∀ l:List UInt8,l.length≤100000000→run tab X 43 [.p (.str (ba l)),.p (.str ⟨#[10]⟩)] []=some ([.p (.str (ba (qC 10 l).1)),.p (.str (ba (qC 10 l).2.1)),.p (.bool (qC 10 l).2.2)],[])
 join:∀ l:List (List UInt8),l.length≤1000000→(rU 32 l).length≤100000000→run tab X 76 [.p (.list false [.str] (eW l)),.p (.str ⟨#[32]⟩)] []=some ([.p (.str (ba (rU 32 l)))],[])
 index:∀ l:List UInt8,l.length≤100000000→run tab X 82 [.p (.str (ba TB)),.p (.str (ba l))] []=some ([.p (.int .i64 (Lib.index TB l))],[])
def bv (l:List UInt8):List PV:=l.map fun x=>.int .u8 ((x.toNat:Nat):Int)
theorem Nw (l:List UInt8):yL (ba l)=bv l:=rfl
theorem WU (x y:List UInt8):bv x++bv y=bv (x++y):=by simp[bv]
@[simp] theorem WV (x:List UInt8):(bv x).length=x.length:=by simp[bv]
theorem acp (x:UInt8):UInt8.ofNat (PV.int .u8 ((x.toNat:Nat):Int)).toInt.toNat=x:=by simp[PV.toInt]
theorem TQ (l:List UInt8):bytesOf (bv l)=ba l:=by
 unfold bytesOf ba bv
 rw[List.map_map]
 congr 2
 exact(List.map_congr_left fun x _=>acp x).trans (List.map_id _)
theorem acr (l:List UInt8):(bv l).all PV.isByte=true:=by
 rw[List.all_eq_true]
 intro x hx
 obtain⟨u,_,rfl⟩:=List.mem_map.1 hx
 have:=u.toNat_lt
 simp only[PV.isByte,Bool.and_eq_true,decide_eq_true_eq]
 omega
def kw (k:Int):List UInt8:=if k=1 then [100,111,116,115] else if k=2 then [108,105,110,101] else if k=3 then [108,111,111,112] else if k=4 then [114,105,110,103] else if k=5 then [115,112,104,101,114,101] else []
def plB (p:Int):List UInt8:=if p=0 then [120,121] else if p=1 then [120,122] else [121,122]
def F7:List V3→List (List UInt8)
 | []=>[]
 | v::l=>Lib.itoa v.x::Lib.itoa v.y::Lib.itoa v.z::F7 l
theorem JG:∀ l,(F7 l).length=3*l.length
 | []=>rfl
 | v::l=>by simp[F7,JG l];omega
def headW (s:Sh):List (List UInt8):=if s.k=1 then [kw 1] else if s.k=2 then [kw 2,Lib.itoa s.m] else if s.k=3 then [kw 3,Lib.itoa s.m] else if s.k=4 then [kw 4,plB s.p,Lib.itoa s.r,Lib.itoa s.s] else [kw 5,Lib.itoa s.r,Lib.itoa s.s]
def qJ (s:Sh):List (List UInt8):=headW s++F7 s.c
def textS (s:Sh):List UInt8:=rU 32 (qJ s)
def textF:List Sh→List UInt8
 | []=>[]
 | s::f=>textS s++10::textF f
theorem F8 (n:Nat):∀ l:List (List UInt8),(∀ x∈l,x.length≤n)→(rU 32 l).length≤(n+1)*l.length
 | [],_=>by simp[rU]
 | [p],h=>by have:=h p (by simp);simp[rU];omega
 | p::q::r,h=>by
  have h1:=h p (by simp)
  have h2:=F8 n (q::r) fun x hx=>h x (by simp[hx])
  have e:(n+1)*(p::q::r).length=(n+1)*(q::r).length+(n+1):=by simp only[List.length_cons];rw[Nat.mul_succ]
  rw[e]
  simp only[rU,List.length_append,List.length_cons]at h2 ⊢
  omega
theorem O3:∀ (k:Nat) {u:Nat},u<10 ^ (k+1)→(Lib.decDigits u).length≤k+1
 | 0,u,h=>by rw[Lib.decDigits];simp at h;simp[h]
 | k+1,u,h=>by
  by_cases hu:u<10
  · rw[Lib.decDigits];simp[hu]
  · rw[zC (by omega)]
    have h1:=O3 k (u:=u / 10) (by rw[Nat.pow_succ]at h;omega)
    have h2:(Lib.decDigits (u%10)).length=1:=by rw[Lib.decDigits];simp[show u%10<10 by omega]
    simp only[List.length_append];omega
theorem nD {n:Int} (h0:-1048576≤n) (h1:n≤1048576):(Lib.itoa n).length≤8:=by
 unfold Lib.itoa
 split
 · have:=O3 6 (u:=n.natAbs) (by omega)
   simp;omega
 · have:=O3 6 (u:=n.toNat) (by omega)
   omega
theorem TR {v:V3} (h:vU v=true):(-1048576≤v.x∧v.x≤1048576)∧(-1048576≤v.y∧v.y≤1048576)∧(-1048576≤v.z∧v.z≤1048576):=tV.1 h
theorem JH:∀ {l:List V3},zU l=true→∀ x∈F7 l,x.length≤8
 | [],_,x,hx=>by simp[F7]at hx
 | v::l,h,x,hx=>by
  have hv:=TR (lS.1 h v (by simp))
  have hl:zU l=true:=lS.2 fun u hu=>lS.1 h u (by simp[hu])
  simp only[F7,List.mem_cons]at hx
  rcases hx with rfl | rfl | rfl | hx
  · exact nD hv.1.1 hv.1.2
  · exact nD hv.2.1.1 hv.2.1.2
  · exact nD hv.2.2.1 hv.2.2.2
  · exact JH hl x hx
theorem acs (k:Int):(kw k).length≤8:=by unfold kw;(repeat' split)<;>simp
theorem aaG (p:Int):(plB p).length≤8:=by unfold plB;(repeat' split)<;>simp
theorem Ho {s:Sh} (h:Shape s):(∀ x∈headW s,x.length≤8)∧(headW s).length≤4∧1≤(headW s).length:=by
 obtain⟨_,_,h⟩:=h
 have e1:=fun k=>acs k
 have e2:=aaG s.p
 have e3:s.m≤500→0≤s.m→(Lib.itoa s.m).length≤8:=fun a b=>nD (by omega) (by omega)
 have e4:1≤s.r→s.r≤50→(Lib.itoa s.r).length≤8:=fun a b=>nD (by omega) (by omega)
 have e5:1≤s.s→s.s≤10000→(Lib.itoa s.s).length≤8:=fun a b=>nD (by omega) (by omega)
 have fin:∀ l:List (List UInt8),headW s=l→(∀ x∈l,x.length≤8)→l.length≤4→1≤l.length→(∀ x∈headW s,x.length≤8)∧(headW s).length≤4∧1≤(headW s).length:=by
  rintro l rfl h1 h2 h3;exact⟨h1,h2,h3⟩
 rcases h with ⟨hk,h⟩ | ⟨hk,h⟩ | ⟨hk,h⟩ | ⟨hk,h⟩ | ⟨hk,h⟩
 · refine fin [kw 1] (by simp[headW,hk]) (fun x hx=>?_) (by simp) (by simp)
   simp at hx;subst hx;exact e1 1
 · refine fin [kw 2,Lib.itoa s.m] (by simp[headW,hk]) (fun x hx=>?_) (by simp) (by simp)
   simp at hx;rcases hx with rfl | rfl
   · exact e1 2
   · exact e3 (by omega) (by omega)
 · refine fin [kw 3,Lib.itoa s.m] (by simp[headW,hk]) (fun x hx=>?_) (by simp) (by simp)
   simp at hx;rcases hx with rfl | rfl
   · exact e1 3
   · exact e3 (by omega) (by omega)
 · refine fin [kw 4,plB s.p,Lib.itoa s.r,Lib.itoa s.s] (by simp[headW,hk]) (fun x hx=>?_) (by simp) (by simp)
   simp at hx;rcases hx with rfl | rfl | rfl | rfl
   · exact e1 4
   · exact e2
   · exact e4 (by omega) (by omega)
   · exact e5 (by omega) (by omega)
 · refine fin [kw 5,Lib.itoa s.r,Lib.itoa s.s] (by simp[headW,hk]) (fun x hx=>?_) (by simp) (by simp)
   simp at hx;rcases hx with rfl | rfl | rfl
   · exact e1 5
   · exact e4 (by omega) (by omega)
   · exact e5 (by omega) (by omega)
theorem O4 {s:Sh} (h:Shape s):(∀ x∈qJ s,x.length≤8)∧(qJ s).length≤604∧1≤(qJ s).length:=by
 obtain⟨h1,h2,h3⟩:=Ho h
 have hc:=JG s.c
 have hl:=h.1
 refine⟨fun x hx=>?_,by simp only[qJ,List.length_append];omega,by simp only[qJ,List.length_append];omega⟩
 rcases List.mem_append.1 hx with hx | hx
 · exact h1 x hx
 · exact JH h.2.1 x hx
theorem Ny {s:Sh} (h:Shape s):(textS s).length≤5436:=by
 obtain⟨h1,h2,_⟩:=O4 h
 have:=F8 8 (qJ s) h1
 unfold textS;omega
section
variable (X:Ext) (hX:Mine X) (hT:Texts X)
include hX hT
theorem l74 (ns : List Int) (hns : ∀ n ∈ ns,-9223372036854775808 ≤ n ∧ n ≤ 9223372036854775807) (hl : ns.length ≤ 1000) (o n : Nat) (bl : List PV) : ∀ (k i : Nat) (ws : List (List UInt8)),i + k = ns.length → ws.length + k ≤ 1000000 →
    L tab (run tab X) 74 [.box [.slice 99999 1 o n],.arr false [.str] bl] [.lp [1,0]] (OH (encI ns) ns.length i 0 ws.length (eW ws))=some ([],[.box [.slice 99999 1 0 (ws.length+k)],.arr false [.str] (eW (ws++(ns.drop i).map Lib.itoa))]):=by
  have _:=hX
  intro k
  induction k with
  | zero =>
   intro i ws hi hw
   refine dQ ?_
   rw[Yh]
   refine bM (show ¬ (i:Int)<(ns.length:Int) by omega) ?_
   rw[List.drop_eq_nil_of_le (by omega),List.map_nil,List.append_nil,Nat.add_zero]
  | succ k ih =>
   intro i ws hi hw
   have hlt:i<ns.length:=by omega
   have hs:=hns ns[i] (List.getElem_mem hlt)
   have w1:IntKind.i64.wrap ((i:Int)+1)=((i+1:Nat):Int):=by rw[wrap_eq (by omega) (by omega)];omega
   have hg:(((encI ns).getD i .nil).cell 0).toInt=ns[i]:=by
    rw[List.getD_eq_getElem?_getD];simp[encI,hlt]
   refine dQ ?_
   rw[Yh,w1]
   refine bT (show (i:Int)<(ns.length:Int) by omega) ?_
   simp only[wo,l7,Int.toNat_natCast,hg,Hq]
   rw[if_pos (by omega),if_pos (by omega)]
   refine aW (hT.itoa ns[i] hs.1 hs.2) ?_
   simp only[List.headD_cons,iP,nG]
   rw[if_pos (by omega)]
   have e1:List.take ws.length (List.drop 0 (eW ws))++([.str (ba (Lib.itoa ns[i]))]:List PV)=eW (ws++[Lib.itoa ns[i]]):=by
    rw[List.drop_zero,List.take_of_length_le (by simp),← WT];rfl
   rw[e1]
   have:=ih (i+1) (ws++[Lib.itoa ns[i]]) (by omega) (by simp;omega)
   rw[List.drop_eq_getElem_cons hlt,List.map_cons]
   simp only[List.length_append,List.length_cons,List.length_nil,List.append_assoc,List.cons_append,List.nil_append,Nat.zero_add]at this ⊢
   rw[this]
   rw[show ws.length+1+k=ws.length+(k+1) from by omega]
theorem c74 (ns : List Int) (hns : ∀ n ∈ ns,-9223372036854775808 ≤ n ∧ n ≤ 9223372036854775807) (hl : ns.length ≤ 1000) (ws : List (List UInt8)) (hw : ws.length ≤ 900000) :
    run tab X 74 [.p (.list false [.int .i64] (encI ns)),.ptr 100000 0 0] [.box [.slice 99999 1 0 ws.length],.arr false [.str] (eW ws)]=some ([],[.box [.slice 99999 1 0 (ws.length+ns.length)],.arr false [.str] (eW (ws++ns.map Lib.itoa))]) :=
  bK (hX _ rfl) (by
   rw[e74,Hq]
   exact l74 X hX hT ns hns hl 0 ws.length (eW ws) ns.length 0 ws (by omega) (by omega))
theorem l40 (c : List V3) (hc : zU c = true) (hl : c.length ≤ 200) : ∀ (k i : Nat) (ws : List (List UInt8)),i + k = c.length → ws.length ≤ 10 + 3 * i → (∀ x ∈ ws,x.length ≤ 8) →
    L tab (run tab X) 40 [] [.lp [1,1,1,1,1,1,1,0,1,0]] (dU (bJ c) c.length i (eW ws) 0 ws.length)=some ([.p (.str (ba (rU 32 (ws++F7 (c.drop i)))))],[]):=by
  intro k
  induction k with
  | zero =>
   intro i ws hi hw h8
   refine dQ ?_
   rw[Ac]
   refine bM (show ¬ (i:Int)<(c.length:Int) by omega) ?_
   rw[List.drop_zero,List.take_of_length_le (by simp),List.drop_eq_nil_of_le (by omega),F7,List.append_nil]
   have hj:=F8 8 ws h8
   refine aW (hT.join ws (by omega) (by omega)) ?_
   simp only[List.headD_cons,iP,nG]
  | succ k ih =>
   intro i ws hi hw h8
   have hlt:i<c.length:=by omega
   have hv:=TR (lS.1 hc c[i] (List.getElem_mem hlt))
   have w1:IntKind.i64.wrap ((i:Int)+1)=((i+1:Nat):Int):=by rw[wrap_eq (by omega) (by omega)];omega
   have hg:c.getD i default=c[i]:=by rw[List.getD_eq_getElem?_getD];simp[hlt]
   refine dQ ?_
   rw[Ac,w1]
   refine bT (show (i:Int)<(c.length:Int) by omega) ?_
   simp only[wo,l7,Int.toNat_natCast,aQ,pV,pW,pX,hg]
   rw[if_pos (by omega),if_pos (by omega)]
   have X5:=c74 X hX hT [c[i].x,c[i].y,c[i].z] (fun n hn=>by
    simp only[List.mem_cons,List.not_mem_nil,or_false]at hn
    rcases hn with rfl | rfl | rfl<;>omega) (by simp) ws (by omega)
   refine aW X5 ?_
   simp only[zx,sK,List.getD_cons_succ,List.getD_cons_zero,List.headD_cons,acu,aI.cs,TS,TT]
   have:=ih (i+1) (ws++[c[i].x,c[i].y,c[i].z].map Lib.itoa) (by omega) (by simp;omega) (fun x hx=>by
    rcases List.mem_append.1 hx with hx | hx
    · exact h8 x hx
    · simp at hx
      rcases hx with rfl | rfl | rfl
      · exact nD hv.1.1 hv.1.2
      · exact nD hv.2.1.1 hv.2.1.2
      · exact nD hv.2.2.1 hv.2.2.2)
   rw[List.drop_eq_getElem_cons hlt,F7]
   simp only[List.length_append,List.map_cons,List.map_nil,List.length_cons,List.length_nil,List.append_assoc,List.cons_append,List.nil_append]at this ⊢
   exact this
theorem c40 (s:Sh) (h:Shape s):run tab X 40 [.p (eS s)] []=some ([.p (.str (ba (textS s)))],[]):=by
 obtain⟨hl,hc,hh⟩:=h
 have h1:=Ho ⟨hl,hc,hh⟩
 have fin:∀ n:Nat,n=(headW s).length→L tab (run tab X) 40 [] [.lp [1,1,1,1,1,1,1,0,1,0]] (dU (bJ s.c) s.c.length 0 (eW (headW s)) 0 n)=some ([.p (.str (ba (textS s)))],[]):=by
  rintro n rfl
  exact l40 X hX hT s.c hc hl s.c.length 0 (headW s) (by omega) (by omega) h1.1
 refine bK (hX _ rfl) ?_
 rw[e40]
 refine aW (c73 X hX s.k) ?_
 simp only[List.headD_cons,iP,gu,List.getD_cons_succ,List.getD_cons_zero,bF,nG,aQ]
 rcases hh with ⟨hk,hh⟩ | ⟨hk,hh⟩ | ⟨hk,hh⟩ | ⟨hk,hh⟩ | ⟨hk,hh⟩
 · have e:bU s.k=bU 1:=by rw[hk]
   rw[e]
   simp only[show (bU 1).many=false from rfl,show (bU 1).xI=false from rfl,show (bU 1).round=false from rfl,cond_false]
   have ew:headW s=[kw 1]:=by simp[headW,hk]
   have:=fin 1 (by rw[ew];rfl)
   rw[ew]at this
   exact this
 · have e:bU s.k=bU 2:=by rw[hk]
   rw[e]
   simp only[show (bU 2).many=true from rfl,show (bU 2).xI=false from rfl,show (bU 2).round=false from rfl,cond_false,cond_true]
   have X5:=c74 X hX hT [s.m] (fun n hn=>by simp at hn;omega) (by simp) [kw 2] (by simp)
   refine aW X5 ?_
   have ew:headW s=[kw 2,Lib.itoa s.m]:=by simp[headW,hk]
   have:=fin 2 (by rw[ew];rfl)
   rw[ew]at this
   exact this
 · have e:bU s.k=bU 3:=by rw[hk]
   rw[e]
   simp only[show (bU 3).many=true from rfl,show (bU 3).xI=false from rfl,show (bU 3).round=false from rfl,cond_false,cond_true]
   have X5:=c74 X hX hT [s.m] (fun n hn=>by simp at hn;omega) (by simp) [kw 3] (by simp)
   refine aW X5 ?_
   have ew:headW s=[kw 3,Lib.itoa s.m]:=by simp[headW,hk]
   have:=fin 2 (by rw[ew];rfl)
   rw[ew]at this
   exact this
 · have e:bU s.k=bU 4:=by rw[hk]
   rw[e]
   simp only[show (bU 4).many=false from rfl,show (bU 4).xI=true from rfl,show (bU 4).round=true from rfl,cond_false,cond_true]
   have w1:IntKind.i64.wrap (2*s.p)=2*s.p:=wrap_eq (by omega) (by omega)
   have w2:IntKind.i64.wrap (2*s.p+2)=2*s.p+2:=wrap_eq (by omega) (by omega)
   rw[w1,w2]
   simp only[wo,l7]
   rw[if_pos (by omega),if_pos (by omega),if_pos (by omega)]
   have ep:(⟨#[120,121,120,122,121,122]⟩:ByteArray).extract (2*s.p).toNat (2*s.p+2).toNat=ba (plB s.p):=by
    have h3:s.p=0∨s.p=1∨s.p=2:=by omega
    rcases h3 with h3 | h3 | h3<;>rw[h3]<;>decide
   rw[ep]
   have X5:=c74 X hX hT [s.r,s.s] (fun n hn=>by simp at hn;omega) (by simp) [kw 4,plB s.p] (by simp)
   refine aW X5 ?_
   have ew:headW s=[kw 4,plB s.p,Lib.itoa s.r,Lib.itoa s.s]:=by simp[headW,hk]
   have:=fin 4 (by rw[ew];rfl)
   rw[ew]at this
   exact this
 · have e:bU s.k=bU 5:=by rw[hk]
   rw[e]
   simp only[show (bU 5).many=false from rfl,show (bU 5).xI=false from rfl,show (bU 5).round=true from rfl,cond_false,cond_true]
   have X5:=c74 X hX hT [s.r,s.s] (fun n hn=>by simp at hn;omega) (by simp) [kw 5] (by simp)
   refine aW X5 ?_
   have ew:headW s=[kw 5,Lib.itoa s.r,Lib.itoa s.s]:=by simp[headW,hk]
   have:=fin 3 (by rw[ew];rfl)
   rw[ew]at this
   exact this
end
end Go.Skm.Fig
