import Derived.Test.YtfmoopdnamdobaaDoorP8
import Derived.Test.YtfmoopdnamdobaaDoorSkmF
import Derived.Test.YtfmoopdnamdobaaDoorTab
import Derived.KernelRfl
namespace Go.Skm.Prg
open Go Go.Skm
def ND (p:Pg) (a:Ac):Pg:=⟨p.names,p.homes,p.acts++[a]⟩
def ac9:PV:=.agg [.nil,.nil,.nil]
def UH (p:Pg) (a:Ac):PV × Int:=if dV p then(if dV (ND p a) then(eG (ND p a),0) else(ac9,10)) else(ac9,2)
theorem UL (l:List Ac) (a:Ac):fM l++[eA a]=fM (l++[a]):=by simp[fM]
theorem P9 (l:List Ac):((fM l).drop 0).take l.length=fM l:=by rw[← aW l,gI]
theorem eqM {a b:Mv}:(((a.to.x==b.to.x)&&((a.to.y==b.to.y)&&((a.to.z==b.to.z)&&true)))&&((a.wait==b.wait)&&((a.fl==b.fl)&&((a.rise==b.rise)&&true))))=decide (a=b):=by
 rw[eqV]
 cases a with
 | mk t w f r =>
  cases b with
  | mk t' w' f' r' =>
   rw[Bool.eq_iff_iff]
   simp
section
variable (X:Ext) (hX:Mine X)
include hX
theorem l32 (hC : jI X) (p : Pg) (hp : Small p) : ∀ (k i : Nat),i + k = p.acts.length →
    L tab (run tab X) 32 [] [.lp [1,1,0,1,0]] (yK p.acts.length i (eN p.names) (bF p.homes) 0 p.acts.length (fM p.acts))=some ([.agg [.p (.list false [.str] (eN p.names)),.p (.list true bZ (bF p.homes)),.fresh true dD (fM p.acts)]],[]):=by
  have _ := hX
  have ha:=hp.acts
  intro k
  induction k with
  | zero =>
   intro i hi
   refine dP ?_
   rw[Oi,aG,if_neg (by omega),P9]
  | succ k ih =>
   intro i hi
   have hlt:i<p.acts.length:=by omega
   have e1:((eA p.acts[i]).cell 0).toStr=ba p.acts[i].name:=rfl
   have e2:((eA p.acts[i]).cell 1).toInt=p.acts[i].len:=rfl
   have e3:((eA p.acts[i]).cell 2).toList=qw p.acts[i].iw:=rfl
   have e4:(fM p.acts).set i (.agg [.str (ba p.acts[i].name),.int .i64 p.acts[i].len,.list true kR (qw p.acts[i].iw)])=fM p.acts:=by
    have:(fM p.acts)[i]'(by rw[aW];exact hlt)=.agg [.str (ba p.acts[i].name),.int .i64 p.acts[i].len,.list true kR (qw p.acts[i].iw)]:=by
     simp[fM,eA]
    rw[← this,List.set_getElem_self]
   have hm:=(hp.act p.acts[i] (List.getElem_mem hlt)).1
   have k45:=hC.c45 (qw p.acts[i].iw) (by rw[cu];omega)
   refine dP ?_
   rw[Oi]
   simp only[dh,aG,Int.toNat_natCast,Nat.zero_add,kU p.acts hlt,e1,e2,e3,k45,Option.bind_some,List.headD_cons,gV,oM,e4]
   rw[if_pos (by omega),if_pos (by omega),if_pos (by omega),if_pos (by omega),if_pos (by omega),bW i (by omega),ih (i+1) (by omega)]
theorem c32 (hC:jI X) (p:Pg) (hp:Small p):run tab X 32 [.p (eG p)] []=some ([.agg [.p (.list false [.str] (eN p.names)),.p (.list true bZ (bF p.homes)),.fresh true dD (fM p.acts)]],[]):=by
 refine bn (hX _ rfl) ?_
 have q1:=hp.names
 have q2:=hp.homes
 have q3:=hp.acts
 rw[eG,e32,hC.c54 _ (by rw[cZ];omega),hC.c55 _ (by rw[aY];omega),hC.c56 _ (by rw[aW];omega)]
 have:=l32 X hX hC p hp p.acts.length 0 (by omega)
 simp only[Option.bind_some,List.headD_cons,gV,oM,aV,aW]
 exact(show L tab (run tab X) 32 [] [.lp [1,1,0,1,0]] (yK p.acts.length (0:Nat) (eN p.names) (bF p.homes) 0 p.acts.length (fM p.acts))=_ from this)
theorem c20 (hC:jI X) (p:Pg) (hp:Small p) (a:Ac) (ha:Small (ND p a)):run tab X 20 [.p (eG p),.p (eA a)] []=some ([.p (UH p a).1,.p (.int .i64 (UH p a).2)],[]):=by
 have h10:=c10 X hX hC p hp
 have aeZ:=c10 X hX hC (ND p a) ha
 have h32:=c32 X hX hC p hp
 have hl:=hp.acts
 rw[eG]at h10 aeZ h32
 refine bn (hX _ rfl) ?_
 have hm:=(ha.act a (by show a∈p.acts++[a];simp)).1
 rw[eG,eA,e20,h10,h32,hC.c45 _ (by rw[cu];omega)]
 have e1:(AV.agg [.p (.list false [.str] (eN p.names)),.p (.list true bZ (bF p.homes)),.fresh true dD (fM p.acts)]).nZ=fM p.acts:=rfl
 have e2:((AV.agg [.p (.list false [.str] (eN p.names)),.p (.list true bZ (bF p.homes)),.fresh true dD (fM p.acts)]).AY.cell 0).toList=eN p.names:=rfl
 have e3:((AV.agg [.p (.list false [.str] (eN p.names)),.p (.list true bZ (bF p.homes)),.fresh true dD (fM p.acts)]).AY.cell 1).toList=bF p.homes:=rfl
 simp only[Option.bind_some,List.headD_cons,gV,aI,iR,e1,e2,e3,aW,oM]
 rw[UH]
 cases hv:dV p with
 | false=>rfl
 | true =>
  simp only[cond_true,if_true]
  have e4:(((((fM p.acts).drop 0).take p.acts.length)++([.agg [.str (ba a.name),.int .i64 a.len,.list true kR (qw a.iw)]]:List PV)).drop 0).take (p.acts.length+1)=fM (p.acts++[a]):=by
   rw[P9]
   have h2:=UL p.acts a
   rw[eA]at h2
   rw[h2]
   have:=P9 (p.acts++[a])
   rw[List.length_append,List.length_singleton]at this
   exact this
  rw[RZ (by omega) rfl,e4]
  have e5:(ND p a).acts=p.acts++[a]:=rfl
  rw[← e5]
  have akn:run tab X 10 [.p (.agg [.list false [.str] (eN p.names),.list true bZ (bF p.homes),.list true dD (fM (ND p a).acts)])] []=some ([.p (.bool (dV (ND p a)))],[]):=aeZ
  rw[akn]
  simp only[Option.bind_some,List.headD_cons,gV,aI]
  cases hv2:dV (ND p a) with
  | false=>rfl
  | true=>rfl
theorem l46 (a b : List Mv) (hab : a.length = b.length) (ha : a.length ≤ 1000) : ∀ (k i : Nat),i + k = a.length →
    L tab (run tab X) 46 [] [.lp [1,1,0,1,0]] (yL (qw a) (qw b) i)=some ([.p (.bool (decide (a.drop i=b.drop i)))],[]):=by
  have _ := hX
  intro k
  induction k with
  | zero =>
   intro i hi
   refine dP ?_
   rw[Oj,aG,cu,if_neg (by omega),show a.drop i=[] from List.drop_eq_nil_iff.2 (by omega),show b.drop i=[] from List.drop_eq_nil_iff.2 (by omega)]
   simp
  | succ k ih =>
   intro i hi
   have h1:i<a.length:=by omega
   have h2:i<b.length:=by omega
   have q0:∀ m:Mv,((eM m).cell 0).toInt=m.to.x:=fun _=>rfl
   have q1:∀ m:Mv,((eM m).cell 1).toInt=m.to.y:=fun _=>rfl
   have q2:∀ m:Mv,((eM m).cell 2).toInt=m.to.z:=fun _=>rfl
   have q3:∀ m:Mv,((eM m).cell 3).toInt=m.wait:=fun _=>rfl
   have q4:∀ m:Mv,((eM m).cell 4).toInt=m.fl:=fun _=>rfl
   have q5:∀ m:Mv,((eM m).cell 5).toInt=m.rise:=fun _=>rfl
   refine dP ?_
   rw[Oj]
   simp only[Int.toNat_natCast,cu,tu a h1,tu b h2,q0,q1,q2,q3,q4,q5,eqM]
   rw[aG,if_pos (by omega),dh,dh]
   simp only[aG,iR]
   rw[if_pos (by omega),if_pos (by omega),if_pos (by omega),if_pos (by omega),bW i (by omega),ih (i+1) (by omega),qLc h1,qLc h2]
   by_cases h:a[i]=b[i]
   · rw[if_pos h];simp only[List.cons.injEq,h,true_and]
   · rw[if_neg h];simp only[List.cons.injEq,h,false_and,decide_false]
theorem c46 (a b:List Mv) (ha:a.length≤1000):run tab X 46 [.p (.list true kR (qw a)),.p (.list true kR (qw b))] []=some ([.p (.bool (decide (a=b)))],[]):=by
 refine bn (hX _ rfl) ?_
 rw[e46,pU,cu,cu]
 by_cases h:a.length=b.length
 · rw[if_pos (by omega)]
   have:=l46 X hX a b h ha a.length 0 (by omega)
   refine(show L tab (run tab X) 46 [] [.lp [1,1,0,1,0]] (yL (qw a) (qw b) (0:Nat))=_ from this).trans ?_
   simp
 · rw[if_neg (by omega),decide_eq_false (fun e=>h (by rw[e]))]
theorem ako (p q : Pg) (hp : Small p) (h0 : p.acts.length = q.acts.length) : ∀ (k i : Nat),i + k = p.acts.length →
    L tab (run tab X) 21 [] [.lp [1,1,1,1,0,1,0]] (ru i (eN p.names) (bF p.homes) (fM p.acts) (eN q.names) (bF q.homes) (fM q.acts))=some ([.p (.bool (decide (p.acts.drop i=q.acts.drop i)))],[]):=by
  have ha:=hp.acts
  intro k
  induction k with
  | zero =>
   intro i hi
   refine dP ?_
   rw[Iw,aG,aW,if_neg (by omega),show p.acts.drop i=[] from List.drop_eq_nil_iff.2 (by omega),show q.acts.drop i=[] from List.drop_eq_nil_iff.2 (by omega)]
   simp
  | succ k ih =>
   intro i hi
   have h1:i<p.acts.length:=by omega
   have h2:i<q.acts.length:=by omega
   have hs:=(hp.act p.acts[i] (List.getElem_mem h1)).1
   have e1:∀ a:Ac,((eA a).cell 0).toStr=ba a.name:=fun _=>rfl
   have e2:∀ a:Ac,((eA a).cell 1).toInt=a.len:=fun _=>rfl
   have e3:∀ a:Ac,((eA a).cell 2).toList=qw a.iw:=fun _=>rfl
   have hb:((ba p.acts[i].name).toList==(ba q.acts[i].name).toList)=decide (p.acts[i].name=q.acts[i].name):=by
    rw[Ew];simp only[xq]
   have hac:p.acts[i]=q.acts[i]↔p.acts[i].name=q.acts[i].name∧p.acts[i].len=q.acts[i].len∧p.acts[i].iw=q.acts[i].iw:=by
    cases p.acts[i];cases q.acts[i];simp
   refine dP ?_
   rw[Iw]
   simp only[dh,aG,iR,pU,Int.toNat_natCast,aW,kU p.acts h1,kU q.acts h2,e1,e2,e3,hb]
   rw[if_pos (by omega),if_pos (by omega),if_pos (by omega),if_pos (by omega),if_pos (by omega),qLc h1,qLc h2]
   by_cases g1:p.acts[i].name=q.acts[i].name
   · rw[if_pos g1]
     by_cases g2:p.acts[i].len=q.acts[i].len
     · rw[if_pos g2,c46 X hX _ _ (by omega)]
       simp only[Option.bind_some,List.headD_cons,gV,aI,aG]
       by_cases g3:p.acts[i].iw=q.acts[i].iw
       · rw[if_pos g3,bW i (by omega),ih (i+1) (by omega)]
         simp only[List.cons.injEq,hac.2 ⟨g1,g2,g3⟩,true_and]
       · rw[if_neg g3]
         simp only[List.cons.injEq,hac,g3,and_false,false_and,decide_false]
     · rw[if_neg g2]
       simp only[List.cons.injEq,hac,g2,and_false,false_and,decide_false]
   · rw[if_neg g1]
     simp only[List.cons.injEq,hac,g1,false_and,decide_false]
theorem akp (p q : Pg) (hp : Small p) (h0 : p.acts.length = q.acts.length) (h00 : p.homes.length = q.homes.length) : ∀ (k i : Nat),i + k = p.homes.length →
    L tab (run tab X) 21 [] [.lp [1,1,1,0,1,0]] (uS i (eN p.names) (bF p.homes) (fM p.acts) (eN q.names) (bF q.homes) (fM q.acts))=some ([.p (.bool (decide (p.homes.drop i=q.homes.drop i)&&decide (p.acts=q.acts)))],[]):=by
  have ha:=hp.homes
  intro k
  induction k with
  | zero =>
   intro i hi
   refine dP ?_
   rw[Kq,aG,aY,if_neg (by omega),show p.homes.drop i=[] from List.drop_eq_nil_iff.2 (by omega),show q.homes.drop i=[] from List.drop_eq_nil_iff.2 (by omega)]
   have:=ako X hX p q hp h0 p.acts.length 0 (by omega)
   refine(show L tab (run tab X) 21 [] [.lp [1,1,1,1,0,1,0]] (ru (0:Nat) (eN p.names) (bF p.homes) (fM p.acts) (eN q.names) (bF q.homes) (fM q.acts))=_ from this).trans ?_
   simp
  | succ k ih =>
   intro i hi
   have h1:i<p.homes.length:=by omega
   have h2:i<q.homes.length:=by omega
   have e3:∀ v:V3,((aT v).cell 0).toInt=v.x:=fun _=>rfl
   have e4:∀ v:V3,((aT v).cell 1).toInt=v.y:=fun _=>rfl
   have e5:∀ v:V3,((aT v).cell 2).toInt=v.z:=fun _=>rfl
   refine dP ?_
   rw[Kq]
   simp only[Int.toNat_natCast,aY,lQ p.homes h1,lQ q.homes h2,e3,e4,e5,eqV]
   rw[aG,if_pos (by omega),dh,dh]
   simp only[aG,iR]
   rw[if_pos (by omega),if_pos (by omega),if_pos (by omega),if_pos (by omega),bW i (by omega),ih (i+1) (by omega),qLc h1,qLc h2]
   by_cases h:p.homes[i]=q.homes[i]
   · rw[if_pos h];simp only[List.cons.injEq,h,true_and]
   · rw[if_neg h];simp only[List.cons.injEq,h,false_and,decide_false,Bool.false_and]
theorem akq (p q : Pg) (hp : Small p) (h0 : p.acts.length = q.acts.length) (h00 : p.homes.length = q.homes.length) (anu : p.names.length = q.names.length) : ∀ (k i : Nat),i + k = p.names.length →
    L tab (run tab X) 21 [] [.lp [1,1,0,1,0]] (yH i (eN p.names) (bF p.homes) (fM p.acts) (eN q.names) (bF q.homes) (fM q.acts))=some ([.p (.bool (decide (p.names.drop i=q.names.drop i∧p.homes=q.homes∧p.acts=q.acts)))],[]):=by
  have ha:=hp.names
  intro k
  induction k with
  | zero =>
   intro i hi
   refine dP ?_
   rw[Oh,aG,cZ,if_neg (by omega),show p.names.drop i=[] from List.drop_eq_nil_iff.2 (by omega),show q.names.drop i=[] from List.drop_eq_nil_iff.2 (by omega)]
   have:=akp X hX p q hp h0 h00 p.homes.length 0 (by omega)
   refine(show L tab (run tab X) 21 [] [.lp [1,1,1,0,1,0]] (uS (0:Nat) (eN p.names) (bF p.homes) (fM p.acts) (eN q.names) (bF q.homes) (fM q.acts))=_ from this).trans ?_
   simp
  | succ k ih =>
   intro i hi
   have h1:i<p.names.length:=by omega
   have h2:i<q.names.length:=by omega
   have e1:∀ x:List UInt8,((PV.str (ba x)).cell 0).toStr=ba x:=fun _=>rfl
   have hb:((ba p.names[i]).toList==(ba q.names[i]).toList)=decide (p.names[i]=q.names[i]):=by
    rw[Ew];simp only[xq]
   refine dP ?_
   rw[Oh]
   simp only[dh,aG,iR,Int.toNat_natCast,cZ,rY p.names h1,rY q.names h2,e1,hb]
   rw[if_pos (by omega),if_pos (by omega),if_pos (by omega),if_pos (by omega),if_pos (by omega),bW i (by omega),ih (i+1) (by omega),qLc h1,qLc h2]
   by_cases h:p.names[i]=q.names[i]
   · rw[if_pos h];simp only[List.cons.injEq,h,true_and]
   · rw[if_neg h];simp only[List.cons.injEq,h,false_and,decide_false]
theorem c21 (p q:Pg) (hp:Small p):run tab X 21 [.p (eG p),.p (eG q)] []=some ([.p (.bool (decide (p=q)))],[]):=by
 have hpq:p=q↔p.names=q.names∧p.homes=q.homes∧p.acts=q.acts:=by cases p;cases q;simp
 refine bn (hX _ rfl) ?_
 rw[eG,eG,e21]
 simp only[pU,cZ,aY,aW]
 by_cases h1:p.names.length=q.names.length
 · rw[if_pos (by omega)]
   by_cases h2:p.homes.length=q.homes.length
   · rw[if_pos (by omega)]
     by_cases h3:p.acts.length=q.acts.length
     · rw[if_pos (by omega)]
       have:=akq X hX p q hp h3 h2 h1 p.names.length 0 (by omega)
       refine(show L tab (run tab X) 21 [] [.lp [1,1,0,1,0]] (yH (0:Nat) (eN p.names) (bF p.homes) (fM p.acts) (eN q.names) (bF q.homes) (fM q.acts))=_ from this).trans ?_
       simp only[List.drop_zero,hpq]
     · rw[if_neg (by omega),decide_eq_false (fun e=>h3 (by rw[e]))]
   · rw[if_neg (by omega),decide_eq_false (fun e=>h2 (by rw[e]))]
 · rw[if_neg (by omega),decide_eq_false (fun e=>h1 (by rw[e]))]
end
end Go.Skm.Prg
