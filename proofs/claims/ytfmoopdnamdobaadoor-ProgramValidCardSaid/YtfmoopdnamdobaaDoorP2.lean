import Derived.Test.YtfmoopdnamdobaaDoorP1
namespace Go.Skm.Prg
open Go Go.Skm
structure Mv where
 to:V3
 wait:Int
 fl:Int
 rise:Int
 deriving DecidableEq
def eM (m:Mv):PV:=.agg [.int .i64 m.to.x,.int .i64 m.to.y,.int .i64 m.to.z,.int .i64 m.wait,.int .i64 m.fl,.int .i64 m.rise]
def lg (v:V3) (f t:Int):List Sg:=if f=t then [] else [qo v v f t]
def lY (a:V3) (m:Mv) (len:Int):Bool :=
 pt m.to&&(JC m.wait&&(JC m.fl&&(JC m.rise&&(decide (m.wait+m.fl≤len)&&(if m.fl=0 then decide (m.to=a)&&decide (m.rise=0) else if m.rise=0 then true else decide (m.fl.tmod 4=0)&&(pt (up a m.rise)&&pt (up m.to m.rise)))))))
def qY (a:V3) (m:Mv) (t len:Int):List Sg :=
 if m.fl=0 then lg a t (t+len) else
  lg a t (t+m.wait)++(if m.rise=0 then [qo a m.to (t+m.wait) (t+m.wait+m.fl)] else Nw a m.to m.rise (t+m.wait) (t+m.wait+m.fl))++lg m.to (t+m.wait+m.fl) (t+len)
def mg (a:V3) (m:Mv) (t len:Int):List Sg × Int :=
 if pt a&&(decide (1≤len)&&(JC len&&(JC t&&lY a m len))) then(if JC (t+len) then(qY a m t len,0) else([],3)) else([],2)
theorem kW {n:Int}:JC n=true↔0≤n∧n≤3600000:=by simp[JC]
theorem jT {v:V3} (h:pt v=true):RX 2097152 v=true:=by
 have:=jS.1 h
 rw[jS];omega
theorem vg (v:V3) (f t:Int):(lg v f t).length≤1:=by
 unfold lg;split<;>simp
theorem FP (a b:V3) (r f t:Int):(Nw a b r f t).length=3:=rfl
theorem Fp (a:V3) (m:Mv) (t len:Int):(qY a m t len).length≤5:=by
 unfold qY
 have h1:=vg a t (t+len)
 have h2:=vg a t (t+m.wait)
 have h3:=vg m.to (t+m.wait+m.fl) (t+len)
 split
 · omega
 · split
   · simp only[List.length_append,List.length_singleton];omega
   · simp only[List.length_append,FP];omega
theorem qB (a b:List Sg):eP a++eP b=eP (a++b):=by simp[eP]
theorem kX (l:List Sg):((eP l).drop 0).take l.length=eP l:=by
 rw[← jw l,gI]
theorem eqV {a b:V3}:((a.x==b.x)&&((a.y==b.y)&&((a.z==b.z)&&true)))=decide (a=b):=by
 have:a=b↔a.x=b.x∧a.y=b.y∧a.z=b.z:=⟨fun h=>by rw[h];exact⟨rfl,rfl,rfl⟩,fun ⟨h1,h2,h3⟩=>V3.ext' h1 h2 h3⟩
 rw[Bool.eq_iff_iff]
 simp[this]
section
variable (X:Ext) (hX:Mine X)
include hX
theorem aj9 (v : V3) (f t : Int) : run tab X 88 [.p (aT v),.p (aT v),.p (.int .i64 f),.p (.int .i64 t),.p (.int .i64 0)] [] =
    some ([.fresh true iy (eP (if pt v&&(decide (0≤f)&&(decide (f<t)&&decide (t≤3600000))) then [qo v v f t] else [])),.p (.int .i64 (if pt v&&(decide (0≤f)&&(decide (f<t)&&decide (t≤3600000))) then 0 else 2))],[]):=by
  have h1:=c89 X hX v v f t
  have h2:=ajR X hX v f t
  unfold aT at h1 h2
  refine bn (hX _ rfl) ?_
  rw[aT,e88,h1]
  simp only[Option.bind_some,List.headD_cons,gV,aI,iR]
  have e:(pt v&&(pt v&&(decide (0≤f)&&(decide (f<t)&&decide (t≤3600000)))))=(pt v&&(decide (0≤f)&&(decide (f<t)&&decide (t≤3600000)))):=by cases pt v<;>simp
  rw[e]
  cases (pt v&&(decide (0≤f)&&(decide (f<t)&&decide (t≤3600000)))) with
  | false=>rfl
  | true =>
   rw[cond_true,h2]
   rfl
theorem akb (a b : V3) (f t : Int) (ha : pt a = true) (hb : pt b = true) (h0 : 0 ≤ f) (h1 : f < t) (h2 : t ≤ 3600000) : run tab X 88 [.p (aT a),.p (aT b),.p (.int .i64 f),.p (.int .i64 t),.p (.int .i64 2)] [] =
    some ([.fresh true iy (eP [qo a b f t]),.p (.int .i64 0)],[]):=by
  have k1:=c89 X hX a b f t
  have k2:=c94 X hX a b f t (jT ha) (jT hb)
  rw[ha,hb]at k1
  unfold aT at k1 k2
  refine bn (hX _ rfl) ?_
  rw[aT,aT,e88,k1]
  simp only[Option.bind_some,List.headD_cons,gV,aI,iR]
  simp only[h0,h1,h2,decide_true,Bool.and_self,cond_true]
  rw[k2]
  rfl
theorem c82 (v:V3) (f t:Int) (hv:pt v=true) (h0:0≤f) (h1:f≤t) (h2:t≤3600000):∃ e,run tab X 82 [.p (aT v),.p (.int .i64 f),.p (.int .i64 t)] []=some ([.fresh true iy (eP (lg v f t)),.p (.int .i64 e)],[]):=by
 have k1:=aj9 X hX v f t
 unfold aT at k1
 refine⟨_,bn (hX _ rfl) (by
  rw[aT,e82,k1]
  simp only[Option.bind_some,List.headD_cons,List.tail_cons,gV,aV,toInt_int,gI]
  have e:(if pt v&&(decide (0≤f)&&(decide (f<t)&&decide (t≤3600000))) then [qo v v f t] else [])=lg v f t:=by
   unfold lg
   rw[hv]
   by_cases h:f=t
   · rw[if_pos h,if_neg (by simp;omega)]
   · rw[if_neg h,if_pos (by simp;omega)]
  rw[e])⟩
theorem c83 (a b:V3) (f t:Int) (ha:pt a=true) (hb:pt b=true) (h0:0≤f) (h1:f<t) (h2:t≤3600000):run tab X 83 [.p (aT a),.p (aT b),.p (.int .i64 f),.p (.int .i64 t)] []=some ([.fresh true iy (eP [qo a b f t]),.p (.int .i64 0)],[]):=by
 have k1:=akb X hX a b f t ha hb h0 h1 h2
 unfold aT at k1
 refine bn (hX _ rfl) ?_
 rw[aT,aT,e83,k1]
 simp only[Option.bind_some,List.headD_cons,List.tail_cons,gV,aV,toInt_int,gI]
theorem akc (a b c d : V3) (t0 t1 t2 t3 : Int) (ha : pt a = true) (hb : pt b = true) (hc : pt c = true) (hd : pt d = true) :
    run tab X 103 [.zq,.p (.ref [.list true bZ [aT a,aT b,aT c,aT d]]),.p (.ref [.list false [.int .i64] [.int .i64 t0,.int .i64 t1,.int .i64 t2,.int .i64 t3]])] [.log true []] =
     some ([],[.log true [.agg [eS (qo a b t0 t1)],.agg [eS (qo b c t1 t2)],.agg [eS (qo c d t2 t3)]]]):=by
  have k1:=c94 X hX a b t0 t1 (jT ha) (jT hb)
  have k2:=c94 X hX b c t1 t2 (jT hb) (jT hc)
  have k3:=c94 X hX c d t2 t3 (jT hc) (jT hd)
  unfold aT at k1 k2 k3
  have w0:IntKind.i64.wrap (1-1)=0:=by decide
  have w1:IntKind.i64.wrap (2-1)=1:=by decide
  have w2:IntKind.i64.wrap (3-1)=2:=by decide
  have v1:IntKind.i64.wrap (1+1)=2:=by decide
  have v2:IntKind.i64.wrap (2+1)=3:=by decide
  have v3:IntKind.i64.wrap (3+1)=4:=by decide
  refine bn (hX _ rfl) ?_
  rw[ajG]
  refine dP ?_
  rw[JB,w0,v1]
  simp only[dh,aG,List.length_cons,List.length_nil,aT,show (1:Int).toNat=1 from rfl,Int.toNat_zero,List.getD_cons_zero,List.getD_cons_succ,vk,toInt_int,nO]
  simp only[show ((1:Int)<((0+1+1+1+1:Nat):Int)) by decide,show ((0:Int)<((0+1+1+1+1:Nat):Int)) by decide,show (0:Int)≤1 by decide,Int.le_refl,if_true]
  rw[k1]
  simp only[Option.bind_some,List.headD_cons,gV,fork]
  refine dP ?_
  rw[JB,w1,v2]
  simp only[dh,aG,List.length_cons,List.length_nil,show (1:Int).toNat=1 from rfl,show (2:Int).toNat=2 from rfl,List.getD_cons_zero,List.getD_cons_succ,vk,toInt_int,nO]
  simp only[show ((1:Int)<((0+1+1+1+1:Nat):Int)) by decide,show ((2:Int)<((0+1+1+1+1:Nat):Int)) by decide,show (0:Int)≤1 by decide,show (0:Int)≤2 by decide,if_true]
  rw[k2]
  simp only[Option.bind_some,List.headD_cons,gV,fork]
  refine dP ?_
  rw[JB,w2,v3]
  simp only[dh,aG,List.length_cons,List.length_nil,show (3:Int).toNat=3 from rfl,show (2:Int).toNat=2 from rfl,List.getD_cons_zero,List.getD_cons_succ,vk,toInt_int,nO]
  simp only[show ((3:Int)<((0+1+1+1+1:Nat):Int)) by decide,show ((2:Int)<((0+1+1+1+1:Nat):Int)) by decide,show (0:Int)≤3 by decide,show (0:Int)≤2 by decide,if_true]
  rw[k3]
  simp only[Option.bind_some,List.headD_cons,gV,fork]
  refine dP ?_
  rw[JB]
  simp only[dh,aG,List.length_cons,List.length_nil]
  rw[if_neg (show ¬ ((4:Int)<((0+1+1+1+1:Nat):Int)) by decide)]
  rfl
theorem c90 (a b c d : V3) (t0 t1 t2 t3 : Int) (ha : pt a = true) (hb : pt b = true) (hc : pt c = true) (hd : pt d = true) (h0 : 0 ≤ t0) (h1 : t0 < t1) (h2 : t1 < t2) (h3 : t2 < t3) (h4 : t3 ≤ 3600000) :
    run tab X 90 [.p (.list true bZ [aT a,aT b,aT c,aT d]),.p (.list false [.int .i64] [.int .i64 t0,.int .i64 t1,.int .i64 t2,.int .i64 t3])] [] =
     some ([.fresh true iy (eP [qo a b t0 t1,qo b c t1 t2,qo c d t2 t3]),.p (.int .i64 0)],[]):=by
  have k1:=Yo X hX a
  have k2:=Yo X hX b
  have k3:=Yo X hX c
  have k4:=Yo X hX d
  rw[ha]at k1
  rw[hb]at k2
  rw[hc]at k3
  rw[hd]at k4
  unfold aT at k1 k2 k3 k4
  have k5:=akc X hX a b c d t0 t1 t2 t3 ha hb hc hd
  have k6:run tab X 95 [.p (.list true bZ [aT a,aT b,aT c,aT d]),.p (.list false [.int .i64] [.int .i64 t0,.int .i64 t1,.int .i64 t2,.int .i64 t3])] []=some ([.p (.fn 103 [.ref [.list true bZ [aT a,aT b,aT c,aT d]],.ref [.list false [.int .i64] [.int .i64 t0,.int .i64 t1,.int .i64 t2,.int .i64 t3]]])],[]) :=
   bn (hX _ rfl) (by rw[e95])
  have v0:IntKind.i64.wrap (0+1)=1:=by decide
  have v1:IntKind.i64.wrap (1+1)=2:=by decide
  have v2:IntKind.i64.wrap (2+1)=3:=by decide
  have v3:IntKind.i64.wrap (3+1)=4:=by decide
  have l4:∀ {α:Type} (w x y z:α),((([w,x,y,z]:List α).length:Nat):Int)=4:=fun _ _ _ _=>rfl
  refine bn (hX _ rfl) ?_
  rw[e90]
  simp only[l4,aG,pU]
  rw[if_neg (by decide),if_pos trivial]
  refine dP ?_
  rw[uY,v0]
  simp only[l4,dh,aG,iR,aT,Int.toNat_zero,List.getD_cons_zero,vk,List.getD_cons_succ,toInt_int,nO]
  simp only[show (0:Int)<4 by decide,Int.le_refl,if_true]
  rw[k1]
  simp only[Option.bind_some,List.headD_cons,gV,aI,cond_true]
  rw[if_neg (by omega),if_neg (by omega)]
  refine dP ?_
  rw[uY,v1]
  simp only[l4,dh,aG,iR,show (1:Int).toNat=1 from rfl,List.getD_cons_zero,vk,List.getD_cons_succ,toInt_int,nO]
  simp only[show (1:Int)<4 by decide,show (0:Int)≤1 by decide,if_true]
  rw[k2]
  simp only[Option.bind_some,List.headD_cons,gV,aI,cond_true]
  rw[if_neg (by omega),if_neg (by omega)]
  refine dP ?_
  rw[uY,v2]
  simp only[l4,dh,aG,iR,show (2:Int).toNat=2 from rfl,List.getD_cons_zero,vk,List.getD_cons_succ,toInt_int,nO]
  simp only[show (2:Int)<4 by decide,show (0:Int)≤2 by decide,if_true]
  rw[k3]
  simp only[Option.bind_some,List.headD_cons,gV,aI,cond_true]
  rw[if_neg (by omega),if_neg (by omega)]
  refine dP ?_
  rw[uY,v3]
  simp only[l4,dh,aG,iR,show (3:Int).toNat=3 from rfl,List.getD_cons_zero,vk,List.getD_cons_succ,toInt_int,nO]
  simp only[show (3:Int)<4 by decide,show (0:Int)≤3 by decide,if_true]
  rw[k4]
  simp only[Option.bind_some,List.headD_cons,gV,aI,cond_true]
  rw[if_neg (by omega),if_neg (by omega)]
  refine dP ?_
  rw[uY]
  simp only[l4,dh,aG]
  rw[if_neg (by decide),if_neg (by decide)]
  unfold aT at k5 k6
  rw[k6,Option.bind_some]
  show (run tab X 103 [.zq,.p (.ref [.list true bZ _]),.p (.ref [.list false [.int .i64] _])] [.log true []]).bind _=_
  refine(congrArg (fun o=>Option.bind o _) k5).trans ?_
  rw[Option.bind_some]
  show L tab (run tab X) 90 [] [.rg [1,1,1,1,1,1,0,1,0] [(true,iy)] [.agg [eS (qo a b t0 t1)],.agg [eS (qo b c t1 t2)],.agg [eS (qo c d t2 t3)]]] (xw _ _)=_
  unfold eS
  rw[Ep,qp]
  simp only[aG]
  rw[if_pos (by decide),qp]
  simp only[aG]
  rw[if_pos (by decide),Bc]
  rfl
end
end Go.Skm.Prg
