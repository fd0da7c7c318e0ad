import Derived.Test.YtfmoopdnamdobaaDoorP7
namespace Go.Skm.Prg
open Go Go.Skm
structure Fits (p:Pg):Prop where
 names:p.names.length≤9223372036854775807
 homes:p.homes.length≤9223372036854775807
 acts:p.acts.length≤9223372036854775807
 len:∀ a∈p.acts,-9223372036854775808≤a.len∧a.len≤9223372036854775807
def NG (p:Pg) (n m:Nat):Bool:=decide (p.names.length≤n)&&(decide (p.homes.length≤n)&&(decide (p.acts.length≤m)&&(p.names.all (fun g=>decide (g.length≤60))&&p.acts.all fun a=>decide (a.name.length≤60)&&decide (a.iw.length≤n+2))))
theorem OH {p:Pg} {n m:Nat} (hn:n≤98) (hm:m≤100) (hf:Fits p) (h:NG p n m=true):Small p:=by
 simp only[NG,qBa,qDa,List.all_eq_true]at h
 obtain⟨h1,h2,h3,h4,h5⟩:=h
 exact⟨by omega,by omega,by omega,fun a ha=>⟨by have:=(h5 a ha).2;omega,by have:=(h5 a ha).1;omega,hf.len a ha⟩,fun g hg=>by have:=h4 g hg;omega⟩
def jq:List Ac→Int
 | []=>0
 | a::r=>a.len+jq r
def Eu (p:Pg):Int:=jq p.acts
theorem Sz (n:Nat):∀ (zs:List Ac) (t:Int) (fr:List V3) (many:List Int),t≤3600000→Ad n t fr many zs=true→(∀ a∈zs,okN a.name=true∧1≤a.len∧a.iw.length=n)∧t+jq zs≤3600000
 | [],t,fr,many,ht,_=>⟨by simp,by simp[jq,ht]⟩
 | a::r,t,fr,many,ht,h=>by
  simp only[Ad,qBa,qDa]at h
  obtain⟨h1,h2,h3,h4,h5⟩:=h
  cases hq:cntF t a.len fr a.iw many with
  | none=>rw[hq]at h5;cases h5
  | some w =>
   rw[hq]at h5
   obtain⟨i1,i2⟩:=Sz n r _ _ _ (by omega) h5
   refine⟨fun b hb=>?_,by simp only[jq];omega⟩
   rcases List.mem_cons.1 hb with rfl | hb
   · exact⟨h1,h2,h4⟩
   · exact i1 b hb
theorem yt {p:Pg} (h:dV p=true):(1≤p.names.length∧p.names.length≤64∧p.homes.length=p.names.length)∧p.acts.length≤60∧(∀ a∈p.acts,okN a.name=true∧1≤a.len∧a.iw.length=p.names.length)∧Eu p≤3600000:=by
 simp only[dV,qBa,qDa]at h
 obtain⟨h1,h2,h3⟩:=h
 obtain⟨h4,h5⟩:=Sz _ _ _ _ _ (by omega) h3
 exact⟨Sj h1,h2,h4,by rw[Eu];omega⟩
theorem rE:∀ zs:List Ac,(∀ a∈zs,1≤a.len)→(zs.length:Int)≤jq zs
 | [],_=>by simp[jq]
 | a::r,h=>by
  have:=rE r (fun b hb=>h b (by simp[hb]))
  have:=h a (by simp)
  simp only[jq,List.length_cons];omega
theorem Hl (zs:List Ac) {i:Nat} (h:i<zs.length):jq (zs.drop i)=zs[i].len+jq (zs.drop (i+1)):=by
 rw[qLc h,jq]
def IE (p:Pg) (k:Int):List V3 × Int:=if dV p then(if 0≤k∧k≤p.acts.length then(iV p k.toNat,0) else([],3)) else([],2)
def Jr (t:Int):Nat→Int→List Ac→Int × Int × Int
 | _,_,[]=>(0,0,3)
 | k,f,[a]=>if t≤f+a.len then(k,f,0) else(0,0,3)
 | k,f,a::b::r=>if t<f+a.len then(k,f,0) else Jr t (k+1) (f+a.len) (b::r)
def Xv (p:Pg) (t:Int):Int × Int × Int:=if dV p then(if 0≤t then Jr t 0 0 p.acts else(0,0,3)) else(0,0,2)
def UK (g:List UInt8):Nat→List (List UInt8)→Int
 | _,[]=>-1
 | i,x::r=>if x=g then(i:Int) else UK g (i+1) r
def V5 (p:Pg) (g:List UInt8):Int × Int:=if dV p then(if UK g 0 p.names<0 then(0,9) else(UK g 0 p.names,0)) else(0,2)
theorem SA (t:Int):∀ (zs:List Ac) (k:Nat) (f:Int),(∀ a∈zs,1≤a.len)→f+jq zs<t→Jr t k f zs=(0,0,3)
 | [],_,_,_,_=>rfl
 | [a],k,f,h,ht=>by
  simp only[jq]at ht
  rw[Jr,if_neg (by omega)]
 | a::b::r,k,f,h,ht=>by
  have hn:=rE (b::r) (fun c hc=>h c (by simp only[List.mem_cons]at hc ⊢;exact .inr hc))
  have h2:jq (a::b::r)=a.len+jq (b::r):=rfl
  simp only[List.length_cons]at hn
  rw[Jr,if_neg (by omega)]
  exact SA t (b::r) (k+1) (f+a.len) (fun c hc=>h c (by simp only[List.mem_cons]at hc ⊢;exact .inr hc)) (by omega)
section
variable (X:Ext) (hX:Mine X)
include hX
theorem akk (p : Pg) (hf : Fits p) (n : Nat) (hn : n ≤ 1000) : ∀ (k i : Nat),i + k = p.acts.length →
    L tab (run tab X) 11 [] [.lp [1,1,1,0,1,0]] (uQ n i (eN p.names) (bF p.homes) (fM p.acts))=some ([.p (.bool ((p.acts.drop i).all fun a=>decide (a.name.length≤60)&&decide (a.iw.length≤n+2)))],[]):=by
  have _ := hX
  have ha:=hf.acts
  intro k
  induction k with
  | zero =>
   intro i hi
   refine dP ?_
   rw[J7,aG,aW,if_neg (by omega),show p.acts.drop i=[] from List.drop_eq_nil_iff.2 (by omega)]
   simp
  | succ k ih =>
   intro i hi
   have hlt:i<p.acts.length:=by omega
   have e1:((eA p.acts[i]).cell 0).toStr=ba p.acts[i].name:=rfl
   have e3:((eA p.acts[i]).cell 2).toList=qw p.acts[i].iw:=rfl
   refine dP ?_
   rw[J7,qLc hlt]
   simp only[dh,aG,Int.toNat_natCast,aW,kU p.acts hlt,e1,e3,cu,oh,List.all_cons]
   rw[if_pos (by omega),if_pos (by omega),if_pos (by omega)]
   by_cases h1:p.acts[i].name.length≤60
   · rw[if_neg (by omega),if_pos (by omega),if_pos (by omega),wrap_eq (by omega) (by omega)]
     by_cases h2:p.acts[i].iw.length≤n+2
     · rw[if_neg (by omega),wrap_eq (by omega) (by omega),show (i:Int)+1=((i+1:Nat):Int) by omega,ih (i+1) (by omega)]
       simp[h1,h2]
     · rw[if_pos (by omega)]
       simp[h2]
   · rw[if_pos (by omega)]
     simp[h1]
theorem akl (p : Pg) (hf : Fits p) (n : Nat) (hn : n ≤ 1000) : ∀ (k i : Nat),i + k = p.names.length →
    L tab (run tab X) 11 [] [.lp [1,1,0,1,0]] (yD n i (eN p.names) (bF p.homes) (fM p.acts))=some ([.p (.bool ((p.names.drop i).all (fun g=>decide (g.length≤60))&&p.acts.all fun a=>decide (a.name.length≤60)&&decide (a.iw.length≤n+2)))],[]):=by
  have ha:=hf.names
  intro k
  induction k with
  | zero =>
   intro i hi
   refine dP ?_
   rw[Oc,aG,cZ,if_neg (by omega),show p.names.drop i=[] from List.drop_eq_nil_iff.2 (by omega)]
   have:=akk X hX p hf n hn p.acts.length 0 (by omega)
   refine(show L tab (run tab X) 11 [] [.lp [1,1,1,0,1,0]] (uQ n (0:Nat) (eN p.names) (bF p.homes) (fM p.acts))=_ from this).trans ?_
   simp
  | succ k ih =>
   intro i hi
   have hlt:i<p.names.length:=by omega
   have e1:((PV.str (ba p.names[i])).cell 0).toStr=ba p.names[i]:=rfl
   refine dP ?_
   rw[Oc,qLc hlt]
   simp only[dh,aG,Int.toNat_natCast,cZ,rY p.names hlt,e1,oh,List.all_cons]
   rw[if_pos (by omega),if_pos (by omega),if_pos (by omega)]
   by_cases h1:p.names[i].length≤60
   · rw[if_neg (by omega),wrap_eq (by omega) (by omega),show (i:Int)+1=((i+1:Nat):Int) by omega,ih (i+1) (by omega)]
     simp[h1]
   · rw[if_pos (by omega)]
     simp[h1]
theorem c11 (p:Pg) (hf:Fits p) (n m:Nat) (hn:n≤1000):run tab X 11 [.p (eG p),.p (.int .i64 n),.p (.int .i64 m)] []=some ([.p (.bool (NG p n m))],[]):=by
 refine bn (hX _ rfl) ?_
 rw[eG,e11]
 simp only[aG,cZ,aY,aW]
 by_cases h1:p.names.length≤n
 · rw[if_neg (by omega)]
   by_cases h2:p.homes.length≤n
   · rw[if_neg (by omega)]
     by_cases h3:p.acts.length≤m
     · rw[if_neg (by omega)]
       have:=akl X hX p hf n hn p.names.length 0 (by omega)
       refine(show L tab (run tab X) 11 [] [.lp [1,1,0,1,0]] (yD n (0:Nat) (eN p.names) (bF p.homes) (fM p.acts))=_ from this).trans ?_
       simp[NG,h1,h2,h3]
     · rw[if_pos (by omega)]
       simp[NG,h3]
   · rw[if_pos (by omega)]
     simp[NG,h2]
 · rw[if_pos (by omega)]
   simp[NG,h1]
theorem c12 (hC:jI X) (p:Pg) (hp:Small p) (k:Int):run tab X 12 [.p (eG p),.p (.int .i64 k)] []=some ([.p (.list true bZ (bF (IE p k).1)),.p (.int .i64 (IE p k).2)],[]):=by
 have h10:=c10 X hX hC p hp
 rw[eG]at h10
 refine bn (hX _ rfl) ?_
 rw[eG,e12,h10]
 simp only[Option.bind_some,List.headD_cons,gV,aI,iR,aG,aW]
 cases hv:dV p with
 | false=>simp[IE,hv,bF]
 | true =>
  simp only[cond_true]
  by_cases h1:0≤k
  · rw[if_neg (by omega)]
    by_cases h2:k≤p.acts.length
    · rw[if_neg (by omega)]
      have h39:=c39 X hX hC p hp k.toNat (by omega)
      rw[eG,Int.toNat_of_nonneg h1]at h39
      rw[h39]
      simp[IE,hv,h1,h2]
    · rw[if_pos (by omega)]
      simp[IE,hv,h2,bF]
  · rw[if_pos (by omega)]
    simp[IE,hv,h1,bF]
theorem l23 (p : Pg) (hp : Small p) (_ht : Eu p ≤ 3600000) (h1 : ∀ a ∈ p.acts,1 ≤ a.len) : ∀ (k i : Nat) (n : Int),i + k = p.acts.length → 0 ≤ n → n + jq (p.acts.drop i) ≤ 3600000 →
    L tab (run tab X) 23 [] [.lp [1,1,1,0,1,0]] (uT n (fM p.acts) p.acts.length i)=some ([.p (.int .i64 (n+jq (p.acts.drop i))),.p (.int .i64 0)],[]):=by
  have _ := hX
  have ha:=hp.acts
  intro k
  induction k with
  | zero =>
   intro i n hi h0 hn
   refine dP ?_
   rw[Kr,aG,if_neg (by omega),show p.acts.drop i=[] from List.drop_eq_nil_iff.2 (by omega)]
   simp[jq]
  | succ k ih =>
   intro i n hi h0 hn
   have hlt:i<p.acts.length:=by omega
   have e2:((eA p.acts[i]).cell 1).toInt=p.acts[i].len:=rfl
   have hl:=h1 p.acts[i] (List.getElem_mem hlt)
   have hd:=Hl p.acts hlt
   have hr:=rE (p.acts.drop (i+1)) (fun b hb=>h1 b (List.mem_of_mem_drop hb))
   refine dP ?_
   rw[Kr]
   simp only[dh,aG,Int.toNat_natCast,aW,kU p.acts hlt,e2]
   rw[if_pos (by omega),if_pos (by omega),if_pos (by omega),wrap_eq (x:=n+p.acts[i].len) (by omega) (by omega),bW i (by omega),ih (i+1) (n+p.acts[i].len) (by omega) (by omega) (by omega),hd]
   rw[Int.add_assoc]
theorem c23 (hC:jI X) (p:Pg) (hp:Small p):run tab X 23 [.p (eG p)] []=some ([.p (.int .i64 (if dV p then Eu p else 0)),.p (.int .i64 (if dV p then 0 else 2))],[]):=by
 have h10:=c10 X hX hC p hp
 rw[eG]at h10
 refine bn (hX _ rfl) ?_
 rw[eG,e23,h10]
 simp only[Option.bind_some,List.headD_cons,gV,aI,iR,aW]
 cases hv:dV p with
 | false=>simp
 | true =>
  obtain⟨_,_,h3,h4⟩:=yt hv
  have:=l23 X hX p hp h4 (fun a ha=>(h3 a ha).2.1) p.acts.length 0 0 (by omega) (by omega) (by simpa [Eu] using h4)
  simp only[cond_true]
  refine(show L tab (run tab X) 23 [] [.lp [1,1,1,0,1,0]] (uT 0 (fM p.acts) p.acts.length (0:Nat))=_ from this).trans ?_
  simp[Eu]
theorem l13 (p : Pg) (hp : Small p) (_ht : Eu p ≤ 3600000) (h1 : ∀ a ∈ p.acts,1 ≤ a.len) (t : Int) : ∀ (k i : Nat) (f : Int),i + (k + 1) = p.acts.length → 0 ≤ f → f + jq (p.acts.drop i) ≤ 3600000 → t ≤ f + jq (p.acts.drop i) →
    L tab (run tab X) 13 [] [.lp [1,1,1,0,0]] (yE t i f (eN p.names) (bF p.homes) (fM p.acts))=some ([.p (.int .i64 (Jr t i f (p.acts.drop i)).1),.p (.int .i64 (Jr t i f (p.acts.drop i)).2.1),.p (.int .i64 (Jr t i f (p.acts.drop i)).2.2)],[]):=by
  have _ := hX
  have ha:=hp.acts
  intro k
  induction k with
  | zero =>
   intro i f hi h0 hf hft
   have hlt:i<p.acts.length:=by omega
   have hd:=Hl p.acts hlt
   have hn:p.acts.drop (i+1)=[]:=List.drop_eq_nil_iff.2 (by omega)
   rw[hn,jq]at hd
   refine dP ?_
   rw[Oe,aG,aW,wrap_eq (by omega) (by omega),if_neg (by omega),qLc hlt,hn,Jr,if_pos (by omega)]
  | succ k ih =>
   intro i f hi h0 hf hft
   have hlt:i<p.acts.length:=by omega
   have hlt2:i+1<p.acts.length:=by omega
   have hd:=Hl p.acts hlt
   have hl:=h1 p.acts[i] (List.getElem_mem hlt)
   have hr:=rE (p.acts.drop (i+1)) (fun b hb=>h1 b (List.mem_of_mem_drop hb))
   have e2:((eA p.acts[i]).cell 1).toInt=p.acts[i].len:=rfl
   have e3:Jr t i f (p.acts.drop i)=if t<f+p.acts[i].len then((i:Int),f,(0:Int)) else Jr t (i+1) (f+p.acts[i].len) (p.acts.drop (i+1)):=by
    rw[qLc hlt,qLc hlt2,Jr]
   refine dP ?_
   rw[Oe]
   simp only[dh,aG,Int.toNat_natCast,aW,kU p.acts hlt,e2,e3]
   rw[wrap_eq (x:=(p.acts.length:Int)-1) (by omega) (by omega),if_pos (by omega),if_pos (by omega),if_pos (by omega),wrap_eq (x:=f+p.acts[i].len) (by omega) (by omega)]
   by_cases h2:f+p.acts[i].len≤t
   · rw[if_pos h2,if_pos (by omega),if_pos (by omega),bW i (by omega),ih (i+1) (f+p.acts[i].len) (by omega) (by omega) (by omega) (by omega),if_neg (by omega)]
   · rw[if_neg h2,if_pos (by omega)]
theorem c13 (hC:jI X) (p:Pg) (hp:Small p) (t:Int):run tab X 13 [.p (eG p),.p (.int .i64 t)] []=some ([.p (.int .i64 (Xv p t).1),.p (.int .i64 (Xv p t).2.1),.p (.int .i64 (Xv p t).2.2)],[]):=by
 have h23:=c23 X hX hC p hp
 rw[eG]at h23
 refine bn (hX _ rfl) ?_
 rw[eG,e13,h23]
 simp only[Option.bind_some,List.headD_cons,List.tail_cons,gV,toInt_int,pU,aG,pR]
 rw[Xv]
 cases hv:dV p with
 | false=>simp
 | true =>
  obtain⟨_,_,h3,h4⟩:=yt hv
  have h1:∀ a∈p.acts,1≤a.len:=fun a ha=>(h3 a ha).2.1
  have hn:=rE p.acts h1
  simp only[if_true]
  by_cases g1:0≤t
  · rw[if_neg (by omega),if_pos g1]
    by_cases g2:t≤Eu p
    · rw[if_neg (by omega)]
      by_cases g3:p.acts=[]
      · have:Eu p=0:=by rw[Eu,g3];rfl
        rw[if_pos this,g3]
        rfl
      · have g4:1≤p.acts.length:=by have:=List.length_pos_iff.2 g3;omega
        rw[if_neg (by rw[Eu];omega)]
        have:=l13 X hX p hp h4 h1 t (p.acts.length-1) 0 0 (by omega) (by omega) (by simpa [Eu] using h4) (by simpa [Eu] using g2)
        exact(show L tab (run tab X) 13 [] [.lp [1,1,1,0,0]] (yE t (0:Nat) 0 (eN p.names) (bF p.homes) (fM p.acts))=_ from this)
    · rw[if_pos (by omega),SA t p.acts 0 0 h1 (by rw[Eu]at g2;omega)]
  · rw[if_pos (by omega),if_neg g1]
theorem l40 (l : List (List UInt8)) (hl : l.length ≤ 100) (g : List UInt8) : ∀ (k i : Nat),i + k = l.length →
    L tab (run tab X) 40 [] [.lp [1,0,1,0]] (A8 (eN l) (ba g) l.length i)=some ([.p (.int .i64 (UK g i (l.drop i)))],[]):=by
  have _ := hX
  intro k
  induction k with
  | zero =>
   intro i hi
   refine dP ?_
   rw[Ru,aG,if_neg (by omega),show l.drop i=[] from List.drop_eq_nil_iff.2 (by omega)]
   rfl
  | succ k ih =>
   intro i hi
   have hlt:i<l.length:=by omega
   have e1:((PV.str (ba l[i])).cell 0).toStr=ba l[i]:=rfl
   have hb:((ba g).toList==(ba l[i]).toList)=decide (l[i]=g):=by
    rw[Ew];simp only[xq,eq_comm]
   refine dP ?_
   rw[Ru,qLc hlt,UK]
   simp only[dh,aG,Int.toNat_natCast,cZ,rY l hlt,e1,hb]
   rw[if_pos (by omega),if_pos (by omega),if_pos (by omega)]
   by_cases h:l[i]=g
   · rw[if_pos h,if_pos h]
   · rw[if_neg h,if_neg h,bW i (by omega),ih (i+1) (by omega)]
theorem c40 (l:List (List UInt8)) (hl:l.length≤100) (g:List UInt8):run tab X 40 [.p (.list false [.str] (eN l)),.p (.str (ba g))] []=some ([.p (.int .i64 (UK g 0 l))],[]):=by
 refine bn (hX _ rfl) ?_
 have:=l40 X hX l hl g l.length 0 (by omega)
 rw[e40,cZ]
 exact(show L tab (run tab X) 40 [] [.lp [1,0,1,0]] (A8 (eN l) (ba g) l.length (0:Nat))=_ from this)
theorem c14 (hC:jI X) (p:Pg) (hp:Small p) (g:List UInt8):run tab X 14 [.p (eG p),.p (.str (ba g))] []=some ([.p (.int .i64 (V5 p g).1),.p (.int .i64 (V5 p g).2)],[]):=by
 have h10:=c10 X hX hC p hp
 rw[eG]at h10
 refine bn (hX _ rfl) ?_
 rw[eG,e14,h10,c40 X hX p.names hp.names g]
 simp only[Option.bind_some,List.headD_cons,gV,aI,iR,aG,toInt_int]
 rw[V5]
 cases hv:dV p with
 | false=>simp
 | true =>
  simp only[cond_true,if_true]
  by_cases h:UK g 0 p.names<0
  · refine akm h ?_
    rw[if_pos h]
  · refine(if_neg h).trans ?_
    rw[if_neg h]
theorem l16 (a b : List V3) (hab : a.length = b.length) (ha : a.length ≤ 1000) : ∀ (k i : Nat),i + k = a.length →
    L tab (run tab X) 16 [] [.lp [1,1,0,1,0]] (yG (bF a) (bF b) i)=some ([.p (.bool (decide (a.drop i=b.drop i)))],[]):=by
  have _ := hX
  intro k
  induction k with
  | zero =>
   intro i hi
   refine dP ?_
   rw[Og,aG,aY,if_neg (by omega),show a.drop i=[] from List.drop_eq_nil_iff.2 (by omega),show b.drop i=[] from List.drop_eq_nil_iff.2 (by omega)]
   simp
  | succ k ih =>
   intro i hi
   have h1:i<a.length:=by omega
   have h2:i<b.length:=by omega
   have e3:∀ v:V3,((aT v).cell 0).toInt=v.x:=fun _=>rfl
   have e4:∀ v:V3,((aT v).cell 1).toInt=v.y:=fun _=>rfl
   have e5:∀ v:V3,((aT v).cell 2).toInt=v.z:=fun _=>rfl
   refine dP ?_
   rw[Og]
   simp only[aG,Int.toNat_natCast,aY,lQ a h1,lQ b h2,e3,e4,e5,eqV]
   rw[if_pos (by omega),dh,dh]
   simp only[aG,iR]
   rw[if_pos (by omega),if_pos (by omega),if_pos (by omega),if_pos (by omega),bW i (by omega),ih (i+1) (by omega),qLc h1,qLc h2]
   by_cases h:a[i]=b[i]
   · rw[if_pos h];simp only[List.cons.injEq,h,true_and]
   · rw[if_neg h];simp only[List.cons.injEq,h,false_and,decide_false]
theorem c16 (a b:List V3) (ha:a.length≤1000):run tab X 16 [.p (.list true bZ (bF a)),.p (.list true bZ (bF b))] []=some ([.p (.bool (decide (a=b)))],[]):=by
 refine bn (hX _ rfl) ?_
 rw[e16,pU,aY,aY]
 by_cases h:a.length=b.length
 · rw[if_pos (by omega)]
   have:=l16 X hX a b h ha a.length 0 (by omega)
   refine(show L tab (run tab X) 16 [] [.lp [1,1,0,1,0]] (yG (bF a) (bF b) (0:Nat))=_ from this).trans ?_
   simp
 · rw[if_neg (by omega),decide_eq_false (fun e=>h (by rw[e]))]
end
end Go.Skm.Prg
