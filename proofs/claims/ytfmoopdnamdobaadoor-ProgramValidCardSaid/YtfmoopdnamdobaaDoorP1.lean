import Derived.Test.YtfmoopdnamdobaaDoorEqs
import Derived.Test.YtfmoopdnamdobaaDoorEqt
import Derived.Test.YtfmoopdnamdobaaDoorSkmF
import Derived.Test.YtfmoopdnamdobaaDoorSkmG
namespace Go.Skm.Prg
open Go Go.Skm
def ac0 (f:Nat):Bool:=f==45||(f==47||(f==54||(f==55||f==56)))
def Mine (X:Ext):Prop:=∀ f,ac0 f=false→X f=none
theorem ajL {a b m n:Int} (ha:-m≤a∧a≤m) (hb:-n≤b∧b≤n):-(m*n)≤a*b∧a*b≤m*n:=by
 have h1:a.natAbs≤m.toNat:=by omega
 have h2:b.natAbs≤n.toNat:=by omega
 have h3:=Nat.mul_le_mul h1 h2
 rw[← Int.natAbs_mul]at h3
 have h4:((m.toNat*n.toNat:Nat):Int)=m*n:=by
  rw[Int.natCast_mul,Int.toNat_of_nonneg (by omega),Int.toNat_of_nonneg (by omega)]
 omega
def RX (m:Int) (v:V3):Bool:=decide (-m≤v.x∧v.x≤m)&&(decide (-m≤v.y∧v.y≤m)&&decide (-m≤v.z∧v.z≤m))
theorem jS {m:Int} {v:V3}:RX m v=true↔(-m≤v.x∧v.x≤m)∧(-m≤v.y∧v.y≤m)∧(-m≤v.z∧v.z≤m):=by
 simp[RX]
abbrev pt (v:V3):Bool:=RX 1048576 v
def JC (n:Int):Bool:=decide (0≤n)&&decide (n≤3600000)
def up (v:V3) (r:Int):V3:=⟨v.x,v.y,v.z+r⟩
structure Sg where
 f:Int
 t:Int
 o:Int
 X:List Int
 Y:List Int
 Z:List Int
 deriving DecidableEq
def eS (s:Sg):PV:=.agg [.int .i64 s.f,.int .i64 s.t,.int .i64 s.o,.list false [.int .i64] (encI s.X),.list false [.int .i64] (encI s.Y),.list false [.int .i64] (encI s.Z)]
def eP (l:List Sg):List PV:=l.map eS
@[simp] theorem jw (l:List Sg):(eP l).length=l.length:=by simp[eP]
def tm (a b:Int):List Int:=if b-a=0 then [a] else [a,0,0,10*(b-a),-15*(b-a),6*(b-a)]
def qo (a b:V3) (f t:Int):Sg:=⟨f,t,1,tm a.x b.x,tm a.y b.y,tm a.z b.z⟩
def Nw (a b:V3) (r f t:Int):List Sg :=
 [qo a (up a r) f (f+(t-f).tdiv 4),qo (up a r) (up b r) (f+(t-f).tdiv 4) (t-(t-f).tdiv 4),qo (up b r) b (t-(t-f).tdiv 4) t]
theorem gI {α:Type} (l:List α):(l.drop 0).take l.length=l:=by simp
theorem KG (s:Sg):(PV.agg [.int .i64 ((eS s).cell 0).toInt,.int .i64 ((eS s).cell 1).toInt,.int .i64 ((eS s).cell 2).toInt,.list false [.int .i64] ((eS s).cell 3).toList,.list false [.int .i64] ((eS s).cell 4).toList,.list false [.int .i64] ((eS s).cell 5).toList]:PV)=eS s:=rfl
def DL:PV:=.Es [.int .i64 0,.int .i64 1,.int .i64 2] [.nil,.list false [.int .i64] [.int .i64 1],.list false [.int .i64] [.int .i64 0,.int .i64 0,.int .i64 10,.int .i64 (-15),.int .i64 6]]
theorem RY:DL.isMap=true:=rfl
theorem UD:gX tab 133 (PV.int .i64 0) (DL.wJ.zip DL.wK)=some (some 0):=by kernel_rfl
theorem UE:gX tab 133 (PV.int .i64 2) (DL.wJ.zip DL.wK)=some (some 2):=by kernel_rfl
theorem Za:kL .nil (DL.wJ.zip DL.wK) (some 0)=.nil:=rfl
theorem Zb:kL .nil (DL.wJ.zip DL.wK) (some 2)=.list false [.int .i64] [.int .i64 0,.int .i64 0,.int .i64 10,.int .i64 (-15),.int .i64 6]:=rfl
theorem Zc:PV.nil.toList=[]:=rfl
theorem kind_nil:kindOk (.slice false [.int .i64]) .nil=true:=rfl
theorem Xq (xs:List PV):kindOk (.slice false [.int .i64]) (.list false [.int .i64] xs)=true:=rfl
section
variable (X:Ext) (hX:Mine X)
include hX
theorem c61 (n:Int):run tab X 61 [.p (.int .i64 n)] []=some ([.p (.bool (decide (-1048576≤n∧n≤1048576)))],[]) :=
 bn (hX _ rfl) (by
  rw[e61,aG]
  by_cases h:n ≥ -1048576
  · rw[if_pos h];simp[h]
  · rw[if_neg h];simp;intro h';omega)
theorem c42 (v:V3):run tab X 42 [.p (aT v)] []=some ([.p (.bool (pt v))],[]) :=
 bn (hX _ rfl) (by
  rw[aT,e42]
  simp only[c61 X hX,Option.bind_some,List.headD_cons,gV,aI,aG,pt,RX]
  by_cases h1:-1048576≤v.x∧v.x≤1048576
  · by_cases h2:-1048576≤v.y∧v.y≤1048576
    · simp[h1,h2]
    · simp[h1,h2]
  · simp[h1])
theorem c62 (n:Int):run tab X 62 [.p (.int .i64 n)] []=some ([.p (.bool (JC n))],[]) :=
 bn (hX _ rfl) (by
  rw[e62,aG]
  by_cases h:n ≥ 0
  · rw[if_pos h];simp[JC,h]
  · rw[if_neg h];simp[JC];intro h';omega)
theorem c79 (n m:Int):run tab X 79 [.p (.int .i64 n),.p (.int .i64 m)] []=some ([.p (.bool (decide (0≤n)&&decide (n≤m)))],[]) :=
 bn (hX _ rfl) (by
  rw[e79,aG]
  by_cases h:0≤n
  · rw[if_pos h];simp[h]
  · rw[if_neg h];simp[h])
theorem c71 (n:Int):run tab X 71 [.p (.int .i64 n)] []=some ([.p (.bool (JC n))],[]) :=
 bn (hX _ rfl) (by rw[e71,c79 X hX];rfl)
theorem c70 (v:V3) (m:Int) (hm:0≤m) (hm':m≤9223372036854775807):run tab X 70 [.p (.int .i64 m),.p (.list false [.int .i64] [.int .i64 v.x,.int .i64 v.y,.int .i64 v.z])] []=some ([.p (.bool (RX m v))],[]):=by
 have hn:IntKind.i64.wrap (0-m)=-m:=by rw[wrap_eq (by omega) (by omega)];omega
 have w1:IntKind.i64.wrap (0+1)=1:=by decide
 have w2:IntKind.i64.wrap (1+1)=2:=by decide
 have w3:IntKind.i64.wrap (2+1)=3:=by decide
 refine bn (hX _ rfl) ?_
 rw[e70]
 refine dP ?_
 rw[FD]
 simp only[hn,w1,aG,dh,List.length_cons,List.length_nil]
 simp only[show ((0:Int)<((0+1+1+1:Nat):Int)) by decide,Int.le_refl,if_true,Int.toNat_zero,List.getD_cons_zero,nO,toInt_int]
 by_cases h1:v.x < -m
 · rw[if_pos h1];simp[RX];omega
 rw[if_neg h1]
 by_cases h2:v.x > m
 · rw[if_pos h2];simp[RX];omega
 rw[if_neg h2]
 refine dP ?_
 rw[FD]
 simp only[hn,w2,aG,dh,List.length_cons,List.length_nil]
 simp only[show ((1:Int)<((0+1+1+1:Nat):Int)) by decide,show (0:Int)≤1 by decide,if_true,show (1:Int).toNat=1 from rfl,List.getD_cons_succ,List.getD_cons_zero,nO,toInt_int]
 by_cases h3:v.y < -m
 · rw[if_pos h3];simp[RX];omega
 rw[if_neg h3]
 by_cases h4:v.y > m
 · rw[if_pos h4];simp[RX];omega
 rw[if_neg h4]
 refine dP ?_
 rw[FD]
 simp only[hn,w3,aG,dh,List.length_cons,List.length_nil]
 simp only[show ((2:Int)<((0+1+1+1:Nat):Int)) by decide,show (0:Int)≤2 by decide,if_true,show (2:Int).toNat=2 from rfl,List.getD_cons_succ,List.getD_cons_zero,nO,toInt_int]
 by_cases h5:v.z < -m
 · rw[if_pos h5];simp[RX];omega
 rw[if_neg h5]
 by_cases h6:v.z > m
 · rw[if_pos h6];simp[RX];omega
 rw[if_neg h6]
 refine dP ?_
 rw[FD]
 have:RX m v=true:=by rw[jS];omega
 simp only[aG]
 first
 | (rw[if_neg (show ¬ ((3:Int)<3) by decide),this])
 | (rw[if_neg (show ¬ ((3:Int)<((0+1+1+1:Nat):Int)) by decide),this])
theorem Yo (v:V3):run tab X 58 [.p (aT v)] []=some ([.p (.bool (pt v))],[]) :=
 bn (hX _ rfl) (by rw[aT,e58,c70 X hX v _ (by decide) (by decide)];rfl)
theorem c80 (v:V3) (r:Int) (h0:-9223372036854775808≤v.z+r) (h1:v.z+r≤9223372036854775807):run tab X 80 [.p (aT v),.p (.int .i64 r)] []=some ([.p (.bool (pt (up v r)))],[]) :=
 bn (hX _ rfl) (by
  rw[aT,e80,wrap_eq h0 h1]
  have:=Yo X hX (up v r)
  unfold aT up at this
  rw[this];rfl)
theorem c63 (v:V3) (r:Int) (h0:0≤r) (h1:r≤3600000) (hv:pt v=true):run tab X 63 [.p (aT v),.p (.int .i64 r)] []=some ([.p (aT (if r≤2097152 then up v r else v)),.p (.bool (pt (up v r)))],[]):=by
 have hb:=jS.1 hv
 refine bn (hX _ rfl) ?_
 rw[aT,e63]
 simp only[aG]
 rw[if_neg (by omega)]
 by_cases h:r > 2097152
 · rw[if_pos h,if_neg (by omega)]
   have:pt (up v r)=false:=by
    rw[Bool.eq_false_iff]
    intro hh
    have:=(jS.1 hh).2.2
    simp only[up]at this
    omega
   rw[this];rfl
 · rw[if_neg h,if_pos (by omega),wrap_eq (by omega) (by omega)]
   have:=c42 X hX (up v r)
   unfold aT up at this
   rw[this];rfl
theorem c75 (f t:Int):run tab X 75 [.p (.int .i64 f),.p (.int .i64 t)] []=some ([.p (.bool (decide (0≤f)&&(decide (f<t)&&decide (t≤3600000))))],[]) :=
 bn (hX _ rfl) (by
  rw[e75]
  simp only[aG]
  by_cases h:f ≥ 0
  · rw[if_pos h]
    have h':0≤f:=h
    by_cases h2:f<t
    · rw[if_pos h2];simp[h',h2]
    · rw[if_neg h2];simp[h2]
  · rw[if_neg h]
    have h':¬ 0≤f:=h
    simp[h'])
theorem c89 (a b:V3) (f t:Int):run tab X 89 [.p (aT a),.p (aT b),.p (.int .i64 f),.p (.int .i64 t)] []=some ([.p (.bool (pt a&&(pt b&&(decide (0≤f)&&(decide (f<t)&&decide (t≤3600000))))))],[]):=by
 have ha:=Yo X hX a
 have hb:=Yo X hX b
 unfold aT at ha hb
 refine bn (hX _ rfl) ?_
 rw[aT,aT,e89,ha,hb]
 simp only[Option.bind_some,List.headD_cons,gV,aI,aG]
 cases pt a with
 | false=>rfl
 | true =>
  cases pt b with
  | false=>rfl
  | true =>
   simp only[cond_true,Bool.true_and]
   by_cases h:0≤f
   · rw[if_pos h]
     by_cases h2:f<t
     · rw[if_pos h2];simp[h,h2]
     · rw[if_neg h2];simp[h2]
   · rw[if_neg h];simp[h]
theorem c74 (a b:Int) (ha:-2097152≤a∧a≤2097152) (hb:-2097152≤b∧b≤2097152):run tab X 74 [.p (.int .i64 a),.p (.int .i64 b),.p (.int .i64 0)] []=some ([.fresh false [.int .i64] (encI (tm a b))],[]):=by
 refine bn (hX _ rfl) ?_
 rw[e74,wrap_eq (by omega) (by omega),pR]
 unfold tm
 by_cases h:b-a=0
 · rw[if_pos h,if_pos h];rfl
 · rw[if_neg h,if_neg h,pR,pR,if_neg (by decide),if_neg (by decide),wrap_eq (by omega) (by omega),wrap_eq (by omega) (by omega),wrap_eq (by omega) (by omega)]
   rfl
theorem ac4 (a:Int):run tab X 74 [.p (.int .i64 a),.p (.int .i64 a),.p (.int .i64 2)] []=some ([.fresh false [.int .i64] (encI (tm a a))],[]):=by
 refine bn (hX _ rfl) ?_
 rw[e74,pR]
 have:IntKind.i64.wrap (a-a)=0:=by rw[Int.sub_self];decide
 rw[if_pos this]
 simp[tm,encI]
theorem c65 (a b:V3) (f t:Int) (ha:RX 2097152 a=true) (hb:RX 2097152 b=true):run tab X 65 [.p (aT a),.p (aT b),.p (.int .i64 f),.p (.int .i64 t),.p (.int .i64 0)] []=some ([.p (eS (qo a b f t))],[]):=by
 obtain⟨a1,a2,a3⟩:=jS.1 ha
 obtain⟨b1,b2,b3⟩:=jS.1 hb
 refine bn (hX _ rfl) ?_
 rw[aT,aT,e65,c74 X hX _ _ a1 b1,c74 X hX _ _ a2 b2,c74 X hX _ _ a3 b3]
 simp only[Option.bind_some,List.headD_cons,aV,gI]
 rfl
theorem ajP (a:V3) (f t:Int):run tab X 65 [.p (aT a),.p (aT a),.p (.int .i64 f),.p (.int .i64 t),.p (.int .i64 2)] []=some ([.p (eS (qo a a f t))],[]):=by
 refine bn (hX _ rfl) ?_
 rw[aT,e65,ac4 X hX,ac4 X hX,ac4 X hX]
 simp only[Option.bind_some,List.headD_cons,aV,gI]
 rfl
theorem ajQ (a b : Int) (row : List Int) (hd : -4194304 ≤ b - a ∧ b - a ≤ 4194304) (hr : ∀ x ∈ row,-100 ≤ x ∧ x ≤ 100) (hl : row.length ≤ 1000) : ∀ (k i : Nat) (ws : List Int),i + k = row.length → ws.length ≤ 1 + i → 
    L tab (run tab X) 102 [] [.lp [1,1,0,1,0,1,0]] (sZ a b 0 ws.length (encI row) row.length i (encI ws))=some ([.fresh false [.int .i64] (encI (ws++(row.drop i).map (fun x=>x*(b-a))))],[]):=by
  have _ := hX
  intro k
  induction k with
  | zero =>
   intro i ws hi _
   refine dP ?_
   rw[FK,aG,if_neg (by omega)]
   have:row.drop i=[]:=List.drop_eq_nil_iff.2 (by omega)
   rw[this,← wL ws,gI]
   simp
  | succ k ih =>
   intro i ws hi hw
   have hlt:i<row.length:=by omega
   have hx:=hr row[i] (List.getElem_mem hlt)
   have hm:=ajL (m:=100) (n:=4194304) (a:=row[i]) (b:=b-a) hx hd
   have hg:(((encI row).getD i .nil).cell 0).toInt=row[i]:=by
    rw[qLb];simp[encI,hlt]
   refine dP ?_
   rw[FK]
   simp only[dh,aG,Int.toNat_natCast,hg,wL]
   rw[if_pos (by omega),if_pos (by omega),if_pos (by omega),if_pos (by omega),wrap_eq (x:=b-a) (by omega) (by omega),wrap_eq (x:=row[i]*(b-a)) (by omega) (by omega),wrap_eq (x:=(i:Int)+1) (by omega) (by omega)]
   have e1:((encI ws).drop 0).take ws.length++([.int .i64 (row[i]*(b-a))]:List PV)=encI (ws++[row[i]*(b-a)]):=by
    rw[← wL ws,gI];simp[encI]
   rw[e1]
   have:=ih (i+1) (ws++[row[i]*(b-a)]) (by omega) (by simp;omega)
   simp only[List.length_append,List.length_singleton]at this
   rw[show ((i:Int)+1)=((i+1:Nat):Int) by omega,this,qLc hlt]
   simp only[List.map_cons,List.append_assoc,List.singleton_append]
theorem aeM (a b : Int) (row : List Int) (hd : -4194304 ≤ b - a ∧ b - a ≤ 4194304) (hr : ∀ x ∈ row,-100 ≤ x ∧ x ≤ 100) (hl : row.length ≤ 1000) :
    run tab X 102 [.p (.int .i64 a),.p (.int .i64 b),.p (.list false [.int .i64] (encI row))] []=some ([.fresh false [.int .i64] (encI (if b-a=0 then [a] else a::row.map (fun x=>x*(b-a))))],[]):=by
  refine bn (hX _ rfl) ?_
  rw[ajF,pU]
  by_cases h:a=b
  · rw[if_pos h,if_pos (by omega)];rfl
  · rw[if_neg h,if_neg (by omega)]
    have:=ajQ X hX a b row hd hr hl row.length 0 [a] (by omega) (by simp)
    simp only[List.length_singleton,wL]at this ⊢
    exact this
theorem aeN:run tab X 101 [] []=some ([.p DL],[]) :=
 bn (hX _ rfl) (by rw[ajE];rfl)
theorem c94 (a b:V3) (f t:Int) (ha:RX 2097152 a=true) (hb:RX 2097152 b=true):run tab X 94 [.p (aT a),.p (aT b),.p (.int .i64 f),.p (.int .i64 t),.p (.int .i64 2)] []=some ([.p (eS (qo a b f t))],[]):=by
 obtain⟨a1,a2,a3⟩:=jS.1 ha
 obtain⟨b1,b2,b3⟩:=jS.1 hb
 have h:∀ x y:Int,(-2097152≤x∧x≤2097152)→(-2097152≤y∧y≤2097152)→run tab X 102 [.p (.int .i64 x),.p (.int .i64 y),.p (.list false [.int .i64] [.int .i64 0,.int .i64 0,.int .i64 10,.int .i64 (-15),.int .i64 6])] []=some ([.fresh false [.int .i64] (encI (tm x y))],[]):=fun x y hx hy=>by
  have:=aeM X hX x y [0,0,10,-15,6] (by omega) (by decide) (by decide)
  simp only[List.map_cons,List.map_nil,Int.zero_mul]at this
  exact this
 refine bn (hX _ rfl) ?_
 rw[aT,aT,e94,aeN X hX]
 simp only[Option.bind_some,List.headD_cons,gV,RY,UE,Zb,Option.isSome_some,Option.getD_some,cond_true,Xq,oM,h _ _ a1 b1,h _ _ a2 b2,h _ _ a3 b3,aV,gI]
 rfl
theorem ajR (a:V3) (f t:Int):run tab X 94 [.p (aT a),.p (aT a),.p (.int .i64 f),.p (.int .i64 t),.p (.int .i64 0)] []=some ([.p (eS (qo a a f t))],[]):=by
 have h:∀ x:Int,run tab X 102 [.p (.int .i64 x),.p (.int .i64 x),.p (.list false [.int .i64] [])] []=some ([.fresh false [.int .i64] (encI (tm x x))],[]):=fun x=>by
  have:=aeM X hX x x [] (by omega) (by simp) (by decide)
  simp only[List.map_nil,Int.sub_self,if_true]at this
  simpa [tm,encI] using this
 refine bn (hX _ rfl) ?_
 rw[aT,e94,aeN X hX]
 simp only[Option.bind_some,List.headD_cons,gV,RY,UD,Za,Option.isSome_some,Option.getD_some,cond_true,kind_nil,Zc,h,aV,gI]
 rfl
end
end Go.Skm.Prg
