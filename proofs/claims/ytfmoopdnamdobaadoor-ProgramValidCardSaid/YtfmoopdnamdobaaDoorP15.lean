import Derived.Test.YtfmoopdnamdobaaDoorP9
namespace Go.Skm.Prg
open Go Go.Skm
section
variable (X:Ext) (hX:Mine X)
include hX
theorem l49 (a b : List (List UInt8)) (hab : a.length = b.length) (ha : a.length ≤ 1000) : ∀ (k i : Nat),i + k = a.length →
    L tab (run tab X) 49 [] [.lp [1,1,0,1,0]] (yM (eN a) (eN b) a.length i)=some ([.p (.bool (decide (a.drop i=b.drop i)))],[]):=by
  have _ := hX
  intro k
  induction k with
  | zero =>
   intro i hi
   refine dP ?_
   rw[Ol,aG,if_neg (by omega),show a.drop i=[] from List.drop_eq_nil_iff.2 (by omega),show b.drop i=[] from List.drop_eq_nil_iff.2 (by omega)]
   simp
  | succ k ih =>
   intro i hi
   have h1:i<a.length:=by omega
   have h2:i<b.length:=by omega
   have e1:∀ x:List UInt8,((PV.str (ba x)).cell 0).toStr=ba x:=fun _=>rfl
   have hb:((ba a[i]).toList==(ba b[i]).toList)=decide (a[i]=b[i]):=by
    rw[Ew];simp only[xq]
   refine dP ?_
   rw[Ol]
   simp only[dh,aG,iR,Int.toNat_natCast,cZ,rY a h1,rY b h2,e1,hb]
   rw[if_pos (by omega),if_pos (by omega),if_pos (by omega),if_pos (by omega),if_pos (by omega),bW i (by omega),ih (i+1) (by omega),qLc h1,qLc h2]
   by_cases h:a[i]=b[i]
   · rw[if_pos h];simp only[List.cons.injEq,h,true_and]
   · rw[if_neg h];simp only[List.cons.injEq,h,false_and,decide_false]
theorem c49 (a b:List (List UInt8)) (ha:a.length≤1000):run tab X 49 [.p (.list false [.str] (eN a)),.p (.list false [.str] (eN b))] []=some ([.p (.bool (decide (a=b)))],[]):=by
 refine bn (hX _ rfl) ?_
 rw[e49,pU,cZ,cZ]
 by_cases h:a.length=b.length
 · rw[if_pos (by omega)]
   have:=l49 X hX a b h ha a.length 0 (by omega)
   refine(show L tab (run tab X) 49 [] [.lp [1,1,0,1,0]] (yM (eN a) (eN b) a.length (0:Nat))=_ from this).trans ?_
   simp
 · rw[if_neg (by omega),decide_eq_false (fun e=>h (by rw[e]))]
theorem l50 (a b : List V3) (hab : a.length = b.length) (ha : a.length ≤ 1000) : ∀ (k i : Nat),i + k = a.length →
    L tab (run tab X) 50 [] [.lp [1,1,0,1,0]] (yN (bF a) (bF b) a.length i)=some ([.p (.bool (decide (a.drop i=b.drop i)))],[]):=by
  have _ := hX
  intro k
  induction k with
  | zero =>
   intro i hi
   refine dP ?_
   rw[Om,aG,if_neg (by omega),show a.drop i=[] from List.drop_eq_nil_iff.2 (by omega),show b.drop i=[] from List.drop_eq_nil_iff.2 (by omega)]
   simp
  | succ k ih =>
   intro i hi
   have h1:i<a.length:=by omega
   have h2:i<b.length:=by omega
   have e3:∀ v:V3,((aT v).cell 0).toInt=v.x:=fun _=>rfl
   have e4:∀ v:V3,((aT v).cell 1).toInt=v.y:=fun _=>rfl
   have e5:∀ v:V3,((aT v).cell 2).toInt=v.z:=fun _=>rfl
   refine dP ?_
   rw[Om]
   simp only[aG,Int.toNat_natCast,aY,lQ a h1,lQ b h2,e3,e4,e5,eqV]
   rw[if_pos (by omega),dh,dh]
   simp only[aG,iR]
   rw[if_pos (by omega),if_pos (by omega),if_pos (by omega),if_pos (by omega),bW i (by omega),ih (i+1) (by omega),qLc h1,qLc h2]
   by_cases h:a[i]=b[i]
   · rw[if_pos h];simp only[List.cons.injEq,h,true_and]
   · rw[if_neg h];simp only[List.cons.injEq,h,false_and,decide_false]
theorem c50 (a b:List V3) (ha:a.length≤1000):run tab X 50 [.p (.list true bZ (bF a)),.p (.list true bZ (bF b))] []=some ([.p (.bool (decide (a=b)))],[]):=by
 refine bn (hX _ rfl) ?_
 rw[e50,pU,aY,aY]
 by_cases h:a.length=b.length
 · rw[if_pos (by omega)]
   have:=l50 X hX a b h ha a.length 0 (by omega)
   refine(show L tab (run tab X) 50 [] [.lp [1,1,0,1,0]] (yN (bF a) (bF b) a.length (0:Nat))=_ from this).trans ?_
   simp
 · rw[if_neg (by omega),decide_eq_false (fun e=>h (by rw[e]))]
theorem l53 (a b : List Mv) (hab : a.length = b.length) (ha : a.length ≤ 1000) : ∀ (k i : Nat),i + k = a.length →
    L tab (run tab X) 53 [] [.lp [1,1,0,1,0]] (yP (qw a) (qw b) a.length i)=some ([.p (.bool (decide (a.drop i=b.drop i)))],[]):=by
  have _ := hX
  intro k
  induction k with
  | zero =>
   intro i hi
   refine dP ?_
   rw[Oq,aG,if_neg (by omega),show a.drop i=[] from List.drop_eq_nil_iff.2 (by omega),show b.drop i=[] from List.drop_eq_nil_iff.2 (by omega)]
   simp
  | succ k ih =>
   intro i hi
   have h1:i<a.length:=by omega
   have h2:i<b.length:=by omega
   have q0:∀ m:Mv,((eM m).cell 0).toInt=m.to.x:=fun _=>rfl
   have q1:∀ m:Mv,((eM m).cell 1).toInt=m.to.y:=fun _=>rfl
   have q2:∀ m:Mv,((eM m).cell 2).toInt=m.to.z:=fun _=>rfl
   have q3:∀ m:Mv,((eM m).cell 3).toInt=m.wait:=fun _=>rfl
   have q4:∀ m:Mv,((eM m).cell 4).toInt=m.fl:=fun _=>rfl
   have q5:∀ m:Mv,((eM m).cell 5).toInt=m.rise:=fun _=>rfl
   refine dP ?_
   rw[Oq]
   simp only[Int.toNat_natCast,cu,tu a h1,tu b h2,q0,q1,q2,q3,q4,q5,eqM]
   rw[aG,if_pos (by omega),dh,dh]
   simp only[aG,iR]
   rw[if_pos (by omega),if_pos (by omega),if_pos (by omega),if_pos (by omega),bW i (by omega),ih (i+1) (by omega),qLc h1,qLc h2]
   by_cases h:a[i]=b[i]
   · rw[if_pos h];simp only[List.cons.injEq,h,true_and]
   · rw[if_neg h];simp only[List.cons.injEq,h,false_and,decide_false]
theorem c53 (a b:List Mv) (ha:a.length≤1000):run tab X 53 [.p (.list true kR (qw a)),.p (.list true kR (qw b))] []=some ([.p (.bool (decide (a=b)))],[]):=by
 refine bn (hX _ rfl) ?_
 rw[e53,pU,cu,cu]
 by_cases h:a.length=b.length
 · rw[if_pos (by omega)]
   have:=l53 X hX a b h ha a.length 0 (by omega)
   refine(show L tab (run tab X) 53 [] [.lp [1,1,0,1,0]] (yP (qw a) (qw b) a.length (0:Nat))=_ from this).trans ?_
   simp
 · rw[if_neg (by omega),decide_eq_false (fun e=>h (by rw[e]))]
theorem c52 (x y:Ac) (hx:x.iw.length≤1000):run tab X 52 [.p (.agg [.str (ba x.name),.int .i64 x.len,.list true kR (qw x.iw)]),.p (.agg [.str (ba y.name),.int .i64 y.len,.list true kR (qw y.iw)])] []=some ([.p (.bool (decide (x=y)))],[]):=by
 have hb:((ba x.name).toList==(ba y.name).toList)=decide (x.name=y.name):=by
  rw[Ew];simp only[xq]
 have hac:x=y↔x.name=y.name∧x.len=y.len∧x.iw=y.iw:=by
  cases x;cases y;simp
 refine bn (hX _ rfl) ?_
 rw[e52,hb,c53 X hX _ _ hx]
 simp only[Option.bind_some,List.headD_cons,gV,aI]
 rw[aG]
 by_cases g1:x.name=y.name
 · rw[if_pos g1]
   by_cases g2:x.len=y.len
   · rw[show (x.len==y.len)=true by simpa using g2,cond_true]
     simp only[hac,g1,g2,true_and]
   · rw[show (x.len==y.len)=false by simpa using g2,cond_false,decide_eq_false fun e=>g2 (hac.1 e).2.1]
 · rw[if_neg g1,decide_eq_false fun e=>g1 (hac.1 e).1]
theorem l51 (a b : List Ac) (hab : a.length = b.length) (ha : a.length ≤ 1000) (hm : ∀ x ∈ a,x.iw.length ≤ 1000) : ∀ (k i : Nat),i + k = a.length →
    L tab (run tab X) 51 [] [.lp [1,1,0,1,0]] (yO (fM b) (fM a) a.length i)=some ([.p (.bool (decide (a.drop i=b.drop i)))],[]):=by
  intro k
  induction k with
  | zero =>
   intro i hi
   refine dP ?_
   rw[Oo,aG,if_neg (by omega),show a.drop i=[] from List.drop_eq_nil_iff.2 (by omega),show b.drop i=[] from List.drop_eq_nil_iff.2 (by omega)]
   simp
  | succ k ih =>
   intro i hi
   have h1:i<a.length:=by omega
   have h2:i<b.length:=by omega
   have e1:∀ a:Ac,((eA a).cell 0).toStr=ba a.name:=fun _=>rfl
   have e2:∀ a:Ac,((eA a).cell 1).toInt=a.len:=fun _=>rfl
   have e3:∀ a:Ac,((eA a).cell 2).toList=qw a.iw:=fun _=>rfl
   refine dP ?_
   rw[Oo]
   simp only[dh,aG,Int.toNat_natCast,aW,kU a h1,kU b h2,e1,e2,e3,c52 X hX a[i] b[i] (hm _ (List.getElem_mem h1)),Option.bind_some,List.headD_cons,gV,aI]
   rw[if_pos (by omega),if_pos (by omega),if_pos (by omega),if_pos (by omega),if_pos (by omega),iR,bW i (by omega),ih (i+1) (by omega),qLc h1,qLc h2,aG]
   by_cases h:a[i]=b[i]
   · rw[if_pos h];simp only[List.cons.injEq,h,true_and]
   · rw[if_neg h];simp only[List.cons.injEq,h,false_and,decide_false]
theorem c51 (a b:List Ac) (ha:a.length≤1000) (hm:∀ x∈a,x.iw.length≤1000):run tab X 51 [.p (.list true dD (fM a)),.p (.list true dD (fM b)),.p (.fn 52 [])] []=some ([.p (.bool (decide (a=b)))],[]):=by
 refine bn (hX _ rfl) ?_
 rw[e51,pU,aW,aW]
 by_cases h:a.length=b.length
 · rw[if_pos (by omega)]
   have:=l51 X hX a b h ha hm a.length 0 (by omega)
   refine(show L tab (run tab X) 51 [] [.lp [1,1,0,1,0]] (yO (fM b) (fM a) a.length (0:Nat))=_ from this).trans ?_
   simp
 · rw[if_neg (by omega),decide_eq_false (fun e=>h (by rw[e]))]
theorem c31 (p q:Pg) (hp:Small p):run tab X 31 [.p (eG p),.p (eG q)] []=some ([.p (.bool (decide (p=q)))],[]):=by
 have hpq:p=q↔p.names=q.names∧p.homes=q.homes∧p.acts=q.acts:=by cases p;cases q;simp
 have h1:=hp.names
 have h2:=hp.homes
 have h3:=hp.acts
 refine bn (hX _ rfl) ?_
 rw[eG,eG,e31,c49 X hX _ _ (by omega),c50 X hX _ _ (by omega),c51 X hX _ _ (by omega) fun x hx=>by have:=(hp.act x hx).1;omega]
 simp only[Option.bind_some,List.headD_cons,gV,aI]
 by_cases g1:p.names=q.names
 · by_cases g2:p.homes=q.homes
   · simp only[hpq,g1,g2,decide_true,cond_true,true_and]
   · simp only[hpq,g1,g2,decide_true,decide_false,cond_true,cond_false,false_and,and_false]
 · simp only[hpq,g1,decide_false,cond_false,false_and]
end
end Go.Skm.Prg
