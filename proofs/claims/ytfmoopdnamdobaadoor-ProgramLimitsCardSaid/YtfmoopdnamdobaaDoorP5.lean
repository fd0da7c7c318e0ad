/-
  Programs as pure values; formations, the paths of an act, and whether names and homes are valid; condition: a program of moderate size.
-/
import Derived.Test.YtfmoopdnamdobaaDoorP4
namespace Go.Skm.Prg
open Go Go.Skm
instance:Inhabited Mv:=⟨⟨default,0,0,0⟩⟩
structure Ac where
 name:List UInt8
 len:Int
 mvs:List Mv
 deriving DecidableEq
instance:Inhabited Ac:=⟨⟨[],0,[]⟩⟩
structure Pg where
 names:List (List UInt8)
 homes:List V3
 acts:List Ac
 deriving DecidableEq
def eMs (l:List Mv):List PV:=l.map eM
def eA (a:Ac):PV:=.agg [.str (ba a.name),.int .i64 a.len,.list true kMv (eMs a.mvs)]
def eAs (l:List Ac):List PV:=l.map eA
def eN (l:List (List UInt8)):List PV:=l.map fun g=>.str (ba g)
def eG (p:Pg):PV:=.agg [.list false [.str] (eN p.names),.list true kV3 (encL p.homes),.list true kAc (eAs p.acts)]
@[simp] theorem eMs_length (l:List Mv):(eMs l).length=l.length:=by simp[eMs]
@[simp] theorem eAs_length (l:List Ac):(eAs l).length=l.length:=by simp[eAs]
@[simp] theorem eN_length (l:List (List UInt8)):(eN l).length=l.length:=by simp[eN]
theorem getm {α:Type} (f:α→PV) (l:List α) {i:Nat} (h:i<l.length):(l.map f).getD i .nil=f l[i]:=by
 rw[List.getD_eq_getElem?_getD];simp[h]
theorem eN_get (l:List (List UInt8)) {i:Nat} (h:i<l.length):(eN l).getD i .nil=.str (ba l[i]):=getm _ l h
theorem eAs_get (l:List Ac) {i:Nat} (h:i<l.length):(eAs l).getD i .nil=eA l[i]:=getm _ l h
theorem eMs_get (l:List Mv) {i:Nat} (h:i<l.length):(eMs l).getD i .nil=eM l[i]:=getm _ l h
theorem encL_at (l:List V3) {i:Nat} (h:i<l.length):(encL l).getD i .nil=encV l[i]:=getm _ l h
structure Small (p:Pg):Prop where
 names:p.names.length≤100
 homes:p.homes.length≤100
 acts:p.acts.length≤100
 act:∀ a∈p.acts,a.mvs.length≤100∧a.name.length≤1000∧(-9223372036854775808≤a.len∧a.len≤9223372036854775807)
 name:∀ g∈p.names,g.length≤1000
def formP (p:Pg):Nat→List V3
 | 0=>p.homes
 | k+1=>((p.acts.getD k default).mvs.map Mv.to)
theorem acts_getD (p:Pg) {k:Nat} (h:k<p.acts.length):p.acts.getD k default=p.acts[k]:=by
 rw[List.getD_eq_getElem?_getD];simp[h]
theorem maxLen_1000 {n:Nat} (h:n≤1000):n≤maxLen:=by
 have:maxLen=9223372036854775807:=by decide
 omega
def gv (t len:Int):List V3→List Mv→List PV
 | v::vs,m::ms=>.agg [.list true kSg (eP (pathR v m t len).1),.int .i64 (pathR v m t len).2]::gv t len vs ms
 | _,_=>[]
theorem i64_succ (i:Nat) (h:i≤1000000):IntKind.i64.wrap ((i:Int)+1)=((i+1:Nat):Int):=by
 rw[wrap_eq (by omega) (by omega)];omega
structure Clones (X:Ext):Prop where
 c45:∀ xs,xs.length≤100000→run tab X 45 [.p (.list true kMv xs)] []=some ([.p (.list true kMv xs)],[])
 c54:∀ xs,xs.length≤100000→run tab X 54 [.p (.list false [.str] xs)] []=some ([.p (.list false [.str] xs)],[])
 c55:∀ xs,xs.length≤100000→run tab X 55 [.p (.list true kV3 xs)] []=some ([.p (.list true kV3 xs)],[])
 c56:∀ xs,xs.length≤100000→run tab X 56 [.p (.list true kAc xs)] []=some ([.fresh true kAc xs],[])
theorem beq_bytes (a b:List UInt8):(ba a==ba b)=decide (a=b):=by
 rw[Bool.eq_iff_iff,decide_eq_true_eq]
 constructor
 · intro h;exact ba_inj.1 (bytes_beq_eq h)
 · intro h;rw[h];exact bytes_beq_refl _
def sN (l:List (List UInt8)):List (PV × PV):=l.map fun g=>(.str (ba g),.bool true)
def sH (l:List V3):List (PV × PV):=l.map fun v=>(encV v,.bool true)
@[simp] theorem sN_length (l:List (List UInt8)):(sN l).length=l.length:=by simp[sN]
@[simp] theorem sH_length (l:List V3):(sH l).length=l.length:=by simp[sH]
theorem eq31 (a b:V3):eqT tab 4 31 [.int .i64 a.x,.int .i64 a.y,.int .i64 a.z] [.int .i64 b.x,.int .i64 b.y,.int .i64 b.z]=some ((a.x==b.x)&&((a.y==b.y)&&((a.z==b.z)&&true))):=by kernel_rfl
theorem find_sH (v:V3):∀ l,∃ o,mapFind tab 31 [.int .i64 v.x,.int .i64 v.y,.int .i64 v.z] (sH l)=some o∧((v∈l∧∃ i,o=some i∧i<l.length)∨(v ∉ l∧o=none))
 | []=>⟨none,rfl,.inr ⟨by simp,rfl⟩⟩
 | x::l=>by
  have h0:mapFind tab 31 [.int .i64 v.x,.int .i64 v.y,.int .i64 v.z] (sH (x::l))=match eqT tab 4 31 [.int .i64 v.x,.int .i64 v.y,.int .i64 v.z] [.int .i64 x.x,.int .i64 x.y,.int .i64 x.z] with
   | some true=>some (some 0)
   | some false=>(mapFind tab 31 [.int .i64 v.x,.int .i64 v.y,.int .i64 v.z] (sH l)).map fun i=>i.map (·+1)
   | none=>none:=rfl
  rw[h0,eq31,eqV]
  by_cases e:v=x
  · rw[decide_eq_true e]
    exact⟨some 0,rfl,.inl ⟨by simp[e],0,rfl,by simp⟩⟩
  · rw[decide_eq_false e]
    obtain⟨o,h1,h2⟩:=find_sH v l
    refine⟨o.map (·+1),by rw[h1];rfl,?_⟩
    rcases h2 with ⟨h2,i,rfl,h3⟩ | ⟨h2,rfl⟩
    · exact .inl ⟨by simp[h2],i+1,rfl,by simpa using h3⟩
    · exact .inr ⟨by simp[e,h2],rfl⟩
theorem und9:und tab 9=some .string:=by kernel_rfl
theorem find_sN (g:List UInt8):∀ l,∃ o,mapFindL tab 9 (.str (ba g)) (sN l)=some o∧((g∈l∧∃ i,o=some i∧i<l.length)∨(g ∉ l∧o=none))
 | []=>⟨none,rfl,.inr ⟨by simp,rfl⟩⟩
 | x::l=>by
  have h0:mapFindL tab 9 (.str (ba g)) (sN (x::l))=match eqLeaf (und tab 9) (.str (ba g)) (.str (ba x)) with
   | some true=>some (some 0)
   | some false=>(mapFindL tab 9 (.str (ba g)) (sN l)).map fun i=>i.map (·+1)
   | none=>none:=rfl
  have h1:eqLeaf (und tab 9) (.str (ba g)) (.str (ba x))=some (decide (g=x)):=by
   rw[und9,← beq_bytes];rfl
  rw[h0,h1]
  by_cases e:g=x
  · rw[decide_eq_true e]
    exact⟨some 0,rfl,.inl ⟨by simp[e],0,rfl,by simp⟩⟩
  · rw[decide_eq_false e]
    obtain⟨o,h1,h2⟩:=find_sN g l
    refine⟨o.map (·+1),by rw[h1];rfl,?_⟩
    rcases h2 with ⟨h2,i,rfl,h3⟩ | ⟨h2,rfl⟩
    · exact .inl ⟨by simp[h2],i+1,rfl,by simpa using h3⟩
    · exact .inr ⟨by simp[e,h2],rfl⟩
theorem key9 (g:List UInt8) (es:List (PV × PV)):keyFind tab 9 (.str (ba g)) es=mapFindL tab 9 (.str (ba g)) es:=by
 have:(leafKey tab 9&&(PV.str (ba g)).keyLeaf)=true:=by
  have h:leafKey tab 9=true:=by kernel_rfl
  rw[h];rfl
 show (bif leafKey tab 9&&(PV.str (ba g)).keyLeaf then mapFindL tab 9 (.str (ba g)) es else none)=_
 rw[this];rfl
theorem key31 (v:V3) (es:List (PV × PV)):keyFind tab 31 (.agg [.int .i64 v.x,.int .i64 v.y,.int .i64 v.z]) es=mapFind tab 31 [.int .i64 v.x,.int .i64 v.y,.int .i64 v.z] es:=by
 have:(flatKey tab 31&&Nat.beq ([.int .i64 v.x,.int .i64 v.y,.int .i64 v.z]:List PV).length (nFields tab 31))=true:=by kernel_rfl
 show (bif flatKey tab 31&&Nat.beq ([.int .i64 v.x,.int .i64 v.y,.int .i64 v.z]:List PV).length (nFields tab 31) then mapFind tab 31 [.int .i64 v.x,.int .i64 v.y,.int .i64 v.z] es else none)=_
 rw[this];rfl
theorem at_sN {l:List (List UInt8)} {i:Nat} (h:i<l.length):mapAt (.bool false) (sN l) (some i)=.bool true:=by
 show ((sN l).getD i (.nil,.nil)).2=_
 rw[List.getD_eq_getElem?_getD];simp[sN,h]
theorem at_sH {l:List V3} {i:Nat} (h:i<l.length):mapAt (.bool false) (sH l) (some i)=.bool true:=by
 show ((sH l).getD i (.nil,.nil)).2=_
 rw[List.getD_eq_getElem?_getD];simp[sH,h]
def crewF (sn:List (List UInt8)) (sh:List V3):List (List UInt8)→List V3→Bool
 | g::gs,v::vs=>okN g&&(!decide (g∈sn)&&(pt v&&(!decide (v∈sh)&&crewF (sn++[g]) (sh++[v]) gs vs)))
 | _,_=>true
def crewB (p:Pg):Bool:=decide (1≤p.names.length)&&(decide (p.names.length≤64)&&(decide (p.homes.length=p.names.length)&&crewF [] [] p.names p.homes))
section
variable (X:Ext) (hX:Mine X)
include hX
theorem l39 (ms : List Mv) (hl : ms.length ≤ 100) : ∀ (k i : Nat) (ws : List V3),i + k = ms.length → ws.length = i →
    L tab (run tab X) 39 [] [.lp [1,1,1,0,1,0]] (S39_111010 0 ws.length (eMs ms) ms.length i (encL ws))=some ([.p (.list true kV3 (encL (ws++(ms.drop i).map Mv.to)))],[]):=by
  have _ := hX
  intro k
  induction k with
  | zero =>
   intro i ws hi hw
   refine L_of ?_
   rw[e39_111010,condD,if_neg (by omega),show ms.drop i=[] from List.drop_eq_nil_iff.2 (by omega),← encL_length ws,all_take]
   simp
  | succ k ih =>
   intro i ws hi hw
   have hlt:i<ms.length:=by omega
   refine L_of ?_
   rw[e39_111010]
   simp only[condA,condD,Int.toNat_natCast,eMs_length,eMs_get ms hlt]
   rw[if_pos (by omega),if_pos (by omega),if_pos (by omega),if_pos (by omega),i64_succ i (by omega)]
   have e1:((encL ws).drop 0).take ws.length++([.agg [.int .i64 ((eM ms[i]).cell 0).toInt,.int .i64 ((eM ms[i]).cell 1).toInt,.int .i64 ((eM ms[i]).cell 2).toInt]]:List PV)=encL (ws++[ms[i].to]):=by
    rw[← encL_length ws,all_take,← encL_append];rfl
   rw[e1]
   have:=ih (i+1) (ws++[ms[i].to]) (by omega) (by simp;omega)
   simp only[List.length_append,List.length_singleton]at this
   rw[this,List.drop_eq_getElem_cons hlt]
   simp only[List.map_cons,List.append_assoc,List.singleton_append]
theorem c39 (hC:Clones X) (p:Pg) (hp:Small p) (k:Nat) (hk:k≤p.acts.length):run tab X 39 [.p (eG p),.p (.int .i64 k)] []=some ([.p (.list true kV3 (encL (formP p k)))],[]):=by
 refine run_of (hX _ rfl) ?_
 rw[eG,e39,condE]
 cases k with
 | zero =>
  rw[if_pos (by simp),hC.c55 _ (by rw[encL_length];have:=hp.homes;omega)]
  rfl
 | succ k =>
  have hlt:k<p.acts.length:=by omega
  have ha:=hp.acts
  obtain⟨h1,_⟩:=hp.act p.acts[k] (List.getElem_mem hlt)
  rw[if_neg (by omega),wrap_eq (by omega) (by omega),show ((k+1:Nat):Int)-1=(k:Int) by omega]
  simp only[condA,condD,Int.toNat_natCast,eAs_length,eAs_get p.acts hlt]
  rw[if_pos (by omega),if_pos (by omega)]
  have e1:((eA p.acts[k]).cell 2).toList=eMs p.acts[k].mvs:=rfl
  rw[e1,eMs_length]
  have:=l39 X hX p.acts[k].mvs h1 p.acts[k].mvs.length 0 [] (by omega) rfl
  refine this.trans ?_
  rw[formP,acts_getD p hlt]
  simp
theorem l17 (p : Pg) (hp : Small p) (j : Nat) (hj : j < p.acts.length) : ∀ (k i : Nat) (ws : List V3),i + k = p.acts[j].mvs.length → ws.length = i →
    L tab (run tab X) 17 [] [.lp [1,1,1,0,1,0]] (S17_111010 ((j+1:Nat):Int) 0 ws.length i (eN p.names) (encL p.homes) (eAs p.acts) (encL ws))=some ([.fresh true kV3 (encL (ws++(p.acts[j].mvs.drop i).map Mv.to))],[]):=by
  have _ := hX
  have ha:=hp.acts
  obtain⟨h1,_⟩:=hp.act p.acts[j] (List.getElem_mem hj)
  have hw1:IntKind.i64.wrap (((j+1:Nat):Int)-1)=(j:Int):=by rw[wrap_eq (by omega) (by omega)];omega
  have e0:((eA p.acts[j]).cell 2).toList=eMs p.acts[j].mvs:=rfl
  intro k
  induction k with
  | zero =>
   intro i ws hi hw
   refine L_of ?_
   rw[e17_111010,hw1]
   simp only[condA,condD,Int.toNat_natCast,eAs_length,eAs_get p.acts hj,e0,eMs_length]
   rw[if_pos (by omega),if_pos (by omega),if_neg (by omega),show p.acts[j].mvs.drop i=[] from List.drop_eq_nil_iff.2 (by omega),← encL_length ws,all_take]
   simp
  | succ k ih =>
   intro i ws hi hw
   have hlt:i<p.acts[j].mvs.length:=by omega
   refine L_of ?_
   rw[e17_111010,hw1]
   simp only[condA,condD,Int.toNat_natCast,eAs_length,eAs_get p.acts hj,e0,eMs_length,eMs_get p.acts[j].mvs hlt]
   rw[if_pos (by omega),if_pos (by omega),if_pos (by omega),if_pos (by omega),if_pos (by omega),if_pos (by omega),if_pos (by omega),if_pos (by omega),i64_succ i (by omega)]
   have e1:((encL ws).drop 0).take ws.length++([.agg [.int .i64 ((eM p.acts[j].mvs[i]).cell 0).toInt,.int .i64 ((eM p.acts[j].mvs[i]).cell 1).toInt,.int .i64 ((eM p.acts[j].mvs[i]).cell 2).toInt]]:List PV)=encL (ws++[p.acts[j].mvs[i].to]):=by
    rw[← encL_length ws,all_take,← encL_append];rfl
   rw[e1]
   have:=ih (i+1) (ws++[p.acts[j].mvs[i].to]) (by omega) (by simp;omega)
   simp only[List.length_append,List.length_singleton]at this
   rw[this,List.drop_eq_getElem_cons hlt]
   simp only[List.map_cons,List.append_assoc,List.singleton_append]
theorem c17 (p:Pg) (hp:Small p) (k:Nat) (hk:k≤p.acts.length):run tab X 17 [.p (eG p),.p (.int .i64 k)] []=some ([.fresh true kV3 (encL (formP p k))],[]):=by
 refine run_of (hX _ rfl) ?_
 rw[eG,e17,condE]
 cases k with
 | zero =>
  have hh:=hp.homes
  rw[if_pos (by simp),all_take,condD,encL_length,if_pos (by omega)]
  rfl
 | succ k =>
  have hlt:k<p.acts.length:=by omega
  rw[if_neg (by omega)]
  have:=l17 X hX p hp k hlt p.acts[k].mvs.length 0 [] (by omega) rfl
  refine this.trans ?_
  rw[formP,acts_getD p hlt]
  simp
theorem c38 (p:Pg) (k t:Int):run tab X 38 [.p (eG p),.p (.int .i64 k),.p (.int .i64 t)] []=some ([.p (.fn 59 [.ref [.list false [.str] (eN p.names),.list true kV3 (encL p.homes),.list true kAc (eAs p.acts)],.ref [.int .i64 k],.ref [.int .i64 t]])],[]) :=
 run_of (hX _ rfl) (by rw[eG,e38])
theorem l59 (nm : ByteArray) (t len : Int) (fs : List V3) (ms : List Mv) (hl : -9223372036854775808 ≤ len ∧ len ≤ 9223372036854775807) (hf : fs.length ≤ ms.length) (hm : ms.length ≤ 100) : ∀ (k i : Nat) (ys : List PV),i + k = fs.length →
    L tab (run tab X) 59 [.log true []] [.lp [1,1,0]] (S59_110_s1 t nm len (eMs ms) (encL fs) fs.length i ys)=some ([],[.log true (ys++gv t len (fs.drop i) (ms.drop i))]):=by
  intro k
  induction k with
  | zero =>
   intro i ys hi
   refine L_of ?_
   rw[e59_110_s1,condD,if_neg (by omega),show fs.drop i=[] from List.drop_eq_nil_iff.2 (by omega)]
   simp[gv]
  | succ k ih =>
   intro i ys hi
   have hlt:i<fs.length:=by omega
   have hlm:i<ms.length:=by omega
   have e1:(PV.agg [.int .i64 ((encV fs[i]).cell 0).toInt,.int .i64 ((encV fs[i]).cell 1).toInt,.int .i64 ((encV fs[i]).cell 2).toInt])=encV fs[i]:=rfl
   have e2:(PV.agg [.int .i64 ((eM ms[i]).cell 0).toInt,.int .i64 ((eM ms[i]).cell 1).toInt,.int .i64 ((eM ms[i]).cell 2).toInt,.int .i64 ((eM ms[i]).cell 3).toInt,.int .i64 ((eM ms[i]).cell 4).toInt,.int .i64 ((eM ms[i]).cell 5).toInt])=eM ms[i]:=rfl
   refine L_of ?_
   rw[e59_110_s1]
   simp only[condA,condD,Int.toNat_natCast,encL_length,eMs_length,encL_at fs hlt,eMs_get ms hlm,e1,e2]
   rw[if_pos (by omega),if_pos (by omega),if_pos (by omega),if_pos (by omega),if_pos (by omega),c60 X hX fs[i] ms[i] t len hl]
   simp only[Option.bind_some,List.headD_cons,List.tail_cons,pv_p,freshList_fresh,toInt_int,all_take,fork]
   rw[i64_succ i (by omega),ih (i+1) _ (by omega),List.drop_eq_getElem_cons hlt,List.drop_eq_getElem_cons hlm]
   simp[gv]
theorem l59a (nm : ByteArray) (t len : Int) (fs : List V3) (ms : List Mv) (hl : -9223372036854775808 ≤ len ∧ len ≤ 9223372036854775807) (hf : fs.length ≤ ms.length) (hm : ms.length ≤ 100) :
    L tab (run tab X) 59 [.log true []] [.lp [1,1,0]] (S59_110 t (encL fs) fs.length 0 [] nm len (eMs ms))=some ([],[.log true (gv t len fs ms)]):=by
  refine L_of ?_
  rw[e59_110]
  cases fs with
  | nil =>
   rw[condD,if_neg (by simp)]
   rfl
  | cons v fs =>
   cases ms with
   | nil=>simp at hf
   | cons m ms =>
    have e1:(PV.agg [.int .i64 ((encV v).cell 0).toInt,.int .i64 ((encV v).cell 1).toInt,.int .i64 ((encV v).cell 2).toInt])=encV v:=rfl
    have e2:(PV.agg [.int .i64 ((eM m).cell 0).toInt,.int .i64 ((eM m).cell 1).toInt,.int .i64 ((eM m).cell 2).toInt,.int .i64 ((eM m).cell 3).toInt,.int .i64 ((eM m).cell 4).toInt,.int .i64 ((eM m).cell 5).toInt])=eM m:=rfl
    have e3:(encL (v::fs)).getD (0:Int).toNat .nil=encV v:=rfl
    have e4:(eMs (m::ms)).getD (0:Int).toNat .nil=eM m:=rfl
    simp only[condA,condD,encL_length,eMs_length,e3,e4,e1,e2]
    simp only[List.length_cons]at hf hm ⊢
    rw[if_pos (by omega),if_pos (by omega),if_pos (by omega),if_pos (by omega),if_pos (by omega),c60 X hX v m t len hl]
    simp only[Option.bind_some,List.headD_cons,List.tail_cons,pv_p,freshList_fresh,toInt_int,all_take,fork]
    have:=l59 X hX nm t len (v::fs) (m::ms) hl (by simp only[List.length_cons];omega) (by simp only[List.length_cons];omega) fs.length 1 ([]++[.agg [.list true kSg (eP (pathR v m t len).1),.int .i64 (pathR v m t len).2]]) (by simp only[List.length_cons];omega)
    rw[show IntKind.i64.wrap (0+1)=((1:Nat):Int) by decide]
    simp only[List.length_cons]at this
    rw[this]
    simp[gv]
theorem c59 (hC : Clones X) (p : Pg) (hp : Small p) (k : Nat) (hk : k < p.acts.length) (t : Int) (hf : (formP p k).length ≤ p.acts[k].mvs.length) :
    run tab X 59 [.yld,.p (.ref [.list false [.str] (eN p.names),.list true kV3 (encL p.homes),.list true kAc (eAs p.acts)]),.p (.ref [.int .i64 k]),.p (.ref [.int .i64 t])] [.log true []]=some ([],[.log true (gv t p.acts[k].len (formP p k) p.acts[k].mvs)]):=by
  obtain⟨h1,h2,h3⟩:=hp.act p.acts[k] (List.getElem_mem hk)
  have h39:=c39 X hX hC p hp k (by omega)
  rw[eG]at h39
  refine run_of (hX _ rfl) ?_
  rw[e59]
  simp only[condA,condD,Int.toNat_natCast,eAs_length,eAs_get p.acts hk]
  rw[if_pos (by omega),if_pos (by omega),h39]
  simp only[Option.bind_some,List.headD_cons,pv_p,toList_list,encL_length]
  exact l59a X hX (ba p.acts[k].name) t p.acts[k].len (formP p k) p.acts[k].mvs h3 hf h1
end
end Go.Skm.Prg
