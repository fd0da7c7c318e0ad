import Derived.Test.YtfmoopdnamdobaaDoorP4
namespace Go.Skm.Prg
open Go Go.Skm
instance:Inhabited Mv:=⟨⟨default,0,0,0⟩⟩
structure Ac where
 name:List UInt8
 len:Int
 iw:List Mv
 deriving DecidableEq
instance:Inhabited Ac:=⟨⟨[],0,[]⟩⟩
structure Pg where
 names:List (List UInt8)
 homes:List V3
 acts:List Ac
 deriving DecidableEq
def qw (l:List Mv):List PV:=l.map eM
def eA (a:Ac):PV:=.agg [.str (ba a.name),.int .i64 a.len,.list true kR (qw a.iw)]
def fM (l:List Ac):List PV:=l.map eA
def eN (l:List (List UInt8)):List PV:=l.map fun g=>.str (ba g)
def eG (p:Pg):PV:=.agg [.list false [.str] (eN p.names),.list true bZ (bF p.homes),.list true dD (fM p.acts)]
@[simp] theorem cu (l:List Mv):(qw l).length=l.length:=by simp[qw]
@[simp] theorem aW (l:List Ac):(fM l).length=l.length:=by simp[fM]
@[simp] theorem cZ (l:List (List UInt8)):(eN l).length=l.length:=by simp[eN]
theorem Zg {α:Type} (f:α→PV) (l:List α) {i:Nat} (h:i<l.length):(l.map f).getD i .nil=f l[i]:=by
 rw[qLb];simp[h]
theorem rY (l:List (List UInt8)) {i:Nat} (h:i<l.length):(eN l).getD i .nil=.str (ba l[i]):=Zg _ l h
theorem kU (l:List Ac) {i:Nat} (h:i<l.length):(fM l).getD i .nil=eA l[i]:=Zg _ l h
theorem tu (l:List Mv) {i:Nat} (h:i<l.length):(qw l).getD i .nil=eM l[i]:=Zg _ l h
theorem lQ (l:List V3) {i:Nat} (h:i<l.length):(bF l).getD i .nil=aT l[i]:=Zg _ l h
structure Small (p:Pg):Prop where
 names:p.names.length≤100
 homes:p.homes.length≤100
 acts:p.acts.length≤100
 act:∀ a∈p.acts,a.iw.length≤100∧a.name.length≤1000∧(-9223372036854775808≤a.len∧a.len≤9223372036854775807)
 name:∀ g∈p.names,g.length≤1000
def iV (p:Pg):Nat→List V3
 | 0=>p.homes
 | k+1=>((p.acts.getD k default).iw.map Mv.to)
theorem oJ (p:Pg) {k:Nat} (h:k<p.acts.length):p.acts.getD k default=p.acts[k]:=by
 rw[qLb];simp[h]
theorem wM {n:Nat} (h:n≤1000):n≤maxLen:=by
 have:maxLen=9223372036854775807:=by decide
 omega
def gv (t len:Int):List V3→List Mv→List PV
 | v::vs,m::ms=>.agg [.list true iy (eP (mg v m t len).1),.int .i64 (mg v m t len).2]::gv t len vs ms
 | _,_=>[]
theorem bW (i:Nat) (h:i≤1000000):IntKind.i64.wrap ((i:Int)+1)=((i+1:Nat):Int):=by
 rw[wrap_eq (by omega) (by omega)];omega
structure jI (X:Ext):Prop where
 c45:∀ xs,xs.length≤100000→run tab X 45 [.p (.list true kR xs)] []=some ([.p (.list true kR xs)],[])
 c54:∀ xs,xs.length≤100000→run tab X 54 [.p (.list false [.str] xs)] []=some ([.p (.list false [.str] xs)],[])
 c55:∀ xs,xs.length≤100000→run tab X 55 [.p (.list true bZ xs)] []=some ([.p (.list true bZ xs)],[])
 c56:∀ xs,xs.length≤100000→run tab X 56 [.p (.list true dD xs)] []=some ([.fresh true dD xs],[])
theorem Xw (a b:List UInt8):(ba a==ba b)=decide (a=b):=by
 rw[Bool.eq_iff_iff,qDa]
 constructor
 · intro h;exact xq.1 (FQ h)
 · intro h;rw[h];exact Bj _
def sN (l:List (List UInt8)):List (PV × PV):=l.map fun g=>(.str (ba g),.bool true)
def sH (l:List V3):List (PV × PV):=l.map fun v=>(aT v,.bool true)
@[simp] theorem ad4 (l:List (List UInt8)):(sN l).length=l.length:=by simp[sN]
@[simp] theorem ad5 (l:List V3):(sH l).length=l.length:=by simp[sH]
theorem eq31 (a b:V3):OG tab 4 31 [.int .i64 a.x,.int .i64 a.y,.int .i64 a.z] [.int .i64 b.x,.int .i64 b.y,.int .i64 b.z]=some ((a.x==b.x)&&((a.y==b.y)&&((a.z==b.z)&&true))):=by kernel_rfl
theorem V8 (v:V3):∀ l,∃ o,dX tab 31 [.int .i64 v.x,.int .i64 v.y,.int .i64 v.z] (sH l)=some o∧((v∈l∧∃ i,o=some i∧i<l.length)∨(v ∉ l∧o=none))
 | []=>⟨none,rfl,.inr ⟨by simp,rfl⟩⟩
 | x::l=>by
  have h0:dX tab 31 [.int .i64 v.x,.int .i64 v.y,.int .i64 v.z] (sH (x::l))=match OG tab 4 31 [.int .i64 v.x,.int .i64 v.y,.int .i64 v.z] [.int .i64 x.x,.int .i64 x.y,.int .i64 x.z] with
   | some true=>some (some 0)
   | some false=>(dX tab 31 [.int .i64 v.x,.int .i64 v.y,.int .i64 v.z] (sH l)).map fun i=>i.map (·+1)
   | none=>none:=rfl
  rw[h0,eq31,eqV]
  by_cases e:v=x
  · rw[decide_eq_true e]
    exact⟨some 0,rfl,.inl ⟨by simp[e],0,rfl,by simp⟩⟩
  · rw[decide_eq_false e]
    obtain⟨o,h1,h2⟩:=V8 v l
    refine⟨o.map (·+1),by rw[h1];rfl,?_⟩
    rcases h2 with ⟨h2,i,rfl,h3⟩ | ⟨h2,rfl⟩
    · exact .inl ⟨by simp[h2],i+1,rfl,by simpa using h3⟩
    · exact .inr ⟨by simp[e,h2],rfl⟩
theorem akd:und tab 9=some .string:=by kernel_rfl
theorem V9 (g:List UInt8):∀ l,∃ o,bK tab 9 (.str (ba g)) (sN l)=some o∧((g∈l∧∃ i,o=some i∧i<l.length)∨(g ∉ l∧o=none))
 | []=>⟨none,rfl,.inr ⟨by simp,rfl⟩⟩
 | x::l=>by
  have h0:bK tab 9 (.str (ba g)) (sN (x::l))=match vw (und tab 9) (.str (ba g)) (.str (ba x)) with
   | some true=>some (some 0)
   | some false=>(bK tab 9 (.str (ba g)) (sN l)).map fun i=>i.map (·+1)
   | none=>none:=rfl
  have h1:vw (und tab 9) (.str (ba g)) (.str (ba x))=some (decide (g=x)):=by
   rw[akd,← Xw];rfl
  rw[h0,h1]
  by_cases e:g=x
  · rw[decide_eq_true e]
    exact⟨some 0,rfl,.inl ⟨by simp[e],0,rfl,by simp⟩⟩
  · rw[decide_eq_false e]
    obtain⟨o,h1,h2⟩:=V9 g l
    refine⟨o.map (·+1),by rw[h1];rfl,?_⟩
    rcases h2 with ⟨h2,i,rfl,h3⟩ | ⟨h2,rfl⟩
    · exact .inl ⟨by simp[h2],i+1,rfl,by simpa using h3⟩
    · exact .inr ⟨by simp[e,h2],rfl⟩
theorem ake (g:List UInt8) (es:List (PV × PV)):gX tab 9 (.str (ba g)) es=bK tab 9 (.str (ba g)) es:=by
 have:(ou tab 9&&(PV.str (ba g)).wO)=true:=by
  have h:ou tab 9=true:=by kernel_rfl
  rw[h];rfl
 show (bif ou tab 9&&(PV.str (ba g)).wO then bK tab 9 (.str (ba g)) es else none)=_
 rw[this];rfl
theorem aeW (v:V3) (es:List (PV × PV)):gX tab 31 (.agg [.int .i64 v.x,.int .i64 v.y,.int .i64 v.z]) es=dX tab 31 [.int .i64 v.x,.int .i64 v.y,.int .i64 v.z] es:=by
 have:(jU tab 31&&Nat.beq ([.int .i64 v.x,.int .i64 v.y,.int .i64 v.z]:List PV).length (nFields tab 31))=true:=by kernel_rfl
 show (bif jU tab 31&&Nat.beq ([.int .i64 v.x,.int .i64 v.y,.int .i64 v.z]:List PV).length (nFields tab 31) then dX tab 31 [.int .i64 v.x,.int .i64 v.y,.int .i64 v.z] es else none)=_
 rw[this];rfl
theorem aeX {l:List (List UInt8)} {i:Nat} (h:i<l.length):kL (.bool false) (sN l) (some i)=.bool true:=by
 show ((sN l).getD i (.nil,.nil)).2=_
 rw[qLb];simp[sN,h]
theorem aeY {l:List V3} {i:Nat} (h:i<l.length):kL (.bool false) (sH l) (some i)=.bool true:=by
 show ((sH l).getD i (.nil,.nil)).2=_
 rw[qLb];simp[sH,h]
def Bo (sn:List (List UInt8)) (sh:List V3):List (List UInt8)→List V3→Bool
 | g::gs,v::vs=>okN g&&(!decide (g∈sn)&&(pt v&&(!decide (v∈sh)&&Bo (sn++[g]) (sh++[v]) gs vs)))
 | _,_=>true
def DN (p:Pg):Bool:=decide (1≤p.names.length)&&(decide (p.names.length≤64)&&(decide (p.homes.length=p.names.length)&&Bo [] [] p.names p.homes))
section
variable (X:Ext) (hX:Mine X)
include hX
theorem l39 (ms : List Mv) (hl : ms.length ≤ 100) : ∀ (k i : Nat) (ws : List V3),i + k = ms.length → ws.length = i →
    L tab (run tab X) 39 [] [.lp [1,1,1,0,1,0]] (zy 0 ws.length (qw ms) ms.length i (bF ws))=some ([.p (.list true bZ (bF (ws++(ms.drop i).map Mv.to)))],[]):=by
  have _ := hX
  intro k
  induction k with
  | zero =>
   intro i ws hi hw
   refine dP ?_
   rw[Kt,aG,if_neg (by omega),show ms.drop i=[] from List.drop_eq_nil_iff.2 (by omega),← aY ws,gI]
   simp
  | succ k ih =>
   intro i ws hi hw
   have hlt:i<ms.length:=by omega
   refine dP ?_
   rw[Kt]
   simp only[dh,aG,Int.toNat_natCast,cu,tu ms hlt]
   rw[if_pos (by omega),if_pos (by omega),if_pos (by omega),if_pos (by omega),bW i (by omega)]
   have e1:((bF ws).drop 0).take ws.length++([.agg [.int .i64 ((eM ms[i]).cell 0).toInt,.int .i64 ((eM ms[i]).cell 1).toInt,.int .i64 ((eM ms[i]).cell 2).toInt]]:List PV)=bF (ws++[ms[i].to]):=by
    rw[← aY ws,gI,← II];rfl
   rw[e1]
   have:=ih (i+1) (ws++[ms[i].to]) (by omega) (by simp;omega)
   simp only[List.length_append,List.length_singleton]at this
   rw[this,qLc hlt]
   simp only[List.map_cons,List.append_assoc,List.singleton_append]
theorem c39 (hC:jI X) (p:Pg) (hp:Small p) (k:Nat) (hk:k≤p.acts.length):run tab X 39 [.p (eG p),.p (.int .i64 k)] []=some ([.p (.list true bZ (bF (iV p k)))],[]):=by
 refine bn (hX _ rfl) ?_
 rw[eG,e39,pR]
 cases k with
 | zero =>
  rw[if_pos (by simp),hC.c55 _ (by rw[aY];have:=hp.homes;omega)]
  rfl
 | succ k =>
  have hlt:k<p.acts.length:=by omega
  have ha:=hp.acts
  obtain⟨h1,_⟩:=hp.act p.acts[k] (List.getElem_mem hlt)
  rw[if_neg (by omega),wrap_eq (by omega) (by omega),show ((k+1:Nat):Int)-1=(k:Int) by omega]
  simp only[dh,aG,Int.toNat_natCast,aW,kU p.acts hlt]
  rw[if_pos (by omega),if_pos (by omega)]
  have e1:((eA p.acts[k]).cell 2).toList=qw p.acts[k].iw:=rfl
  rw[e1,cu]
  have:=l39 X hX p.acts[k].iw h1 p.acts[k].iw.length 0 [] (by omega) rfl
  refine this.trans ?_
  rw[iV,oJ p hlt]
  simp
theorem l17 (p : Pg) (hp : Small p) (j : Nat) (hj : j < p.acts.length) : ∀ (k i : Nat) (ws : List V3),i + k = p.acts[j].iw.length → ws.length = i →
    L tab (run tab X) 17 [] [.lp [1,1,1,0,1,0]] (zu ((j+1:Nat):Int) 0 ws.length i (eN p.names) (bF p.homes) (fM p.acts) (bF ws))=some ([.fresh true bZ (bF (ws++(p.acts[j].iw.drop i).map Mv.to))],[]):=by
  have _ := hX
  have ha:=hp.acts
  obtain⟨h1,_⟩:=hp.act p.acts[j] (List.getElem_mem hj)
  have hw1:IntKind.i64.wrap (((j+1:Nat):Int)-1)=(j:Int):=by rw[wrap_eq (by omega) (by omega)];omega
  have e0:((eA p.acts[j]).cell 2).toList=qw p.acts[j].iw:=rfl
  intro k
  induction k with
  | zero =>
   intro i ws hi hw
   refine dP ?_
   rw[Ko,hw1]
   simp only[dh,aG,Int.toNat_natCast,aW,kU p.acts hj,e0,cu]
   rw[if_pos (by omega),if_pos (by omega),if_neg (by omega),show p.acts[j].iw.drop i=[] from List.drop_eq_nil_iff.2 (by omega),← aY ws,gI]
   simp
  | succ k ih =>
   intro i ws hi hw
   have hlt:i<p.acts[j].iw.length:=by omega
   refine dP ?_
   rw[Ko,hw1]
   simp only[dh,aG,Int.toNat_natCast,aW,kU p.acts hj,e0,cu,tu p.acts[j].iw hlt]
   rw[if_pos (by omega),if_pos (by omega),if_pos (by omega),if_pos (by omega),if_pos (by omega),if_pos (by omega),if_pos (by omega),if_pos (by omega),bW i (by omega)]
   have e1:((bF ws).drop 0).take ws.length++([.agg [.int .i64 ((eM p.acts[j].iw[i]).cell 0).toInt,.int .i64 ((eM p.acts[j].iw[i]).cell 1).toInt,.int .i64 ((eM p.acts[j].iw[i]).cell 2).toInt]]:List PV)=bF (ws++[p.acts[j].iw[i].to]):=by
    rw[← aY ws,gI,← II];rfl
   rw[e1]
   have:=ih (i+1) (ws++[p.acts[j].iw[i].to]) (by omega) (by simp;omega)
   simp only[List.length_append,List.length_singleton]at this
   rw[this,qLc hlt]
   simp only[List.map_cons,List.append_assoc,List.singleton_append]
theorem c17 (p:Pg) (hp:Small p) (k:Nat) (hk:k≤p.acts.length):run tab X 17 [.p (eG p),.p (.int .i64 k)] []=some ([.fresh true bZ (bF (iV p k))],[]):=by
 refine bn (hX _ rfl) ?_
 rw[eG,e17,pR]
 cases k with
 | zero =>
  have hh:=hp.homes
  rw[if_pos (by simp),gI,aG,aY,if_pos (by omega)]
  rfl
 | succ k =>
  have hlt:k<p.acts.length:=by omega
  rw[if_neg (by omega)]
  have:=l17 X hX p hp k hlt p.acts[k].iw.length 0 [] (by omega) rfl
  refine this.trans ?_
  rw[iV,oJ p hlt]
  simp
theorem c38 (p:Pg) (k t:Int):run tab X 38 [.p (eG p),.p (.int .i64 k),.p (.int .i64 t)] []=some ([.p (.fn 59 [.ref [.list false [.str] (eN p.names),.list true bZ (bF p.homes),.list true dD (fM p.acts)],.ref [.int .i64 k],.ref [.int .i64 t]])],[]) :=
 bn (hX _ rfl) (by rw[eG,e38])
theorem l59 (nm : ByteArray) (t len : Int) (fs : List V3) (ms : List Mv) (hl : -9223372036854775808 ≤ len ∧ len ≤ 9223372036854775807) (hf : fs.length ≤ ms.length) (hm : ms.length ≤ 100) : ∀ (k i : Nat) (ys : List PV),i + k = fs.length →
    L tab (run tab X) 59 [.log true []] [.lp [1,1,0]] (zB t nm len (qw ms) (bF fs) fs.length i ys)=some ([],[.log true (ys++gv t len (fs.drop i) (ms.drop i))]):=by
  intro k
  induction k with
  | zero =>
   intro i ys hi
   refine dP ?_
   rw[Kv,aG,if_neg (by omega),show fs.drop i=[] from List.drop_eq_nil_iff.2 (by omega)]
   simp[gv]
  | succ k ih =>
   intro i ys hi
   have hlt:i<fs.length:=by omega
   have hlm:i<ms.length:=by omega
   have e1:(PV.agg [.int .i64 ((aT fs[i]).cell 0).toInt,.int .i64 ((aT fs[i]).cell 1).toInt,.int .i64 ((aT fs[i]).cell 2).toInt])=aT fs[i]:=rfl
   have e2:(PV.agg [.int .i64 ((eM ms[i]).cell 0).toInt,.int .i64 ((eM ms[i]).cell 1).toInt,.int .i64 ((eM ms[i]).cell 2).toInt,.int .i64 ((eM ms[i]).cell 3).toInt,.int .i64 ((eM ms[i]).cell 4).toInt,.int .i64 ((eM ms[i]).cell 5).toInt])=eM ms[i]:=rfl
   refine dP ?_
   rw[Kv]
   simp only[dh,aG,Int.toNat_natCast,aY,cu,lQ fs hlt,tu ms hlm,e1,e2]
   rw[if_pos (by omega),if_pos (by omega),if_pos (by omega),if_pos (by omega),if_pos (by omega),c60 X hX fs[i] ms[i] t len hl]
   simp only[Option.bind_some,List.headD_cons,List.tail_cons,gV,aV,toInt_int,gI,fork]
   rw[bW i (by omega),ih (i+1) _ (by omega),qLc hlt,qLc hlm]
   simp[gv]
theorem akf (nm : ByteArray) (t len : Int) (fs : List V3) (ms : List Mv) (hl : -9223372036854775808 ≤ len ∧ len ≤ 9223372036854775807) (hf : fs.length ≤ ms.length) (hm : ms.length ≤ 100) :
    L tab (run tab X) 59 [.log true []] [.lp [1,1,0]] (PU t (bF fs) fs.length 0 [] nm len (qw ms))=some ([],[.log true (gv t len fs ms)]):=by
  refine dP ?_
  rw[aaT]
  cases fs with
  | nil =>
   rw[aG,if_neg (by simp)]
   rfl
  | cons v fs =>
   cases ms with
   | nil=>simp at hf
   | cons m ms =>
    have e1:(PV.agg [.int .i64 ((aT v).cell 0).toInt,.int .i64 ((aT v).cell 1).toInt,.int .i64 ((aT v).cell 2).toInt])=aT v:=rfl
    have e2:(PV.agg [.int .i64 ((eM m).cell 0).toInt,.int .i64 ((eM m).cell 1).toInt,.int .i64 ((eM m).cell 2).toInt,.int .i64 ((eM m).cell 3).toInt,.int .i64 ((eM m).cell 4).toInt,.int .i64 ((eM m).cell 5).toInt])=eM m:=rfl
    have e3:(bF (v::fs)).getD (0:Int).toNat .nil=aT v:=rfl
    have e4:(qw (m::ms)).getD (0:Int).toNat .nil=eM m:=rfl
    simp only[dh,aG,aY,cu,e3,e4,e1,e2]
    simp only[List.length_cons]at hf hm ⊢
    rw[if_pos (by omega),if_pos (by omega),if_pos (by omega),if_pos (by omega),if_pos (by omega),c60 X hX v m t len hl]
    simp only[Option.bind_some,List.headD_cons,List.tail_cons,gV,aV,toInt_int,gI,fork]
    have:=l59 X hX nm t len (v::fs) (m::ms) hl (by simp only[List.length_cons];omega) (by simp only[List.length_cons];omega) fs.length 1 ([]++[.agg [.list true iy (eP (mg v m t len).1),.int .i64 (mg v m t len).2]]) (by simp only[List.length_cons];omega)
    rw[show IntKind.i64.wrap (0+1)=((1:Nat):Int) by decide]
    simp only[List.length_cons]at this
    rw[this]
    simp[gv]
theorem c59 (hC : jI X) (p : Pg) (hp : Small p) (k : Nat) (hk : k < p.acts.length) (t : Int) (hf : (iV p k).length ≤ p.acts[k].iw.length) :
    run tab X 59 [.zq,.p (.ref [.list false [.str] (eN p.names),.list true bZ (bF p.homes),.list true dD (fM p.acts)]),.p (.ref [.int .i64 k]),.p (.ref [.int .i64 t])] [.log true []]=some ([],[.log true (gv t p.acts[k].len (iV p k) p.acts[k].iw)]):=by
  obtain⟨h1,h2,h3⟩:=hp.act p.acts[k] (List.getElem_mem hk)
  have h39:=c39 X hX hC p hp k (by omega)
  rw[eG]at h39
  refine bn (hX _ rfl) ?_
  rw[e59]
  simp only[dh,aG,Int.toNat_natCast,aW,kU p.acts hk]
  rw[if_pos (by omega),if_pos (by omega),h39]
  simp only[Option.bind_some,List.headD_cons,gV,oM,aY]
  exact akf X hX (ba p.acts[k].name) t p.acts[k].len (iV p k) p.acts[k].iw h3 hf h1
end
end Go.Skm.Prg
