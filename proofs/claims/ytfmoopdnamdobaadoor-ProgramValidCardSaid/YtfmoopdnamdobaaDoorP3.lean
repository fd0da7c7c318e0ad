import Derived.Test.YtfmoopdnamdobaaDoorP2
namespace Go.Skm.Prg
open Go Go.Skm
theorem V6 (v:V3) (r:Int):(PV.agg [.int .i64 v.x,.int .i64 v.y,.int .i64 (v.z+r)])=aT (up v r):=rfl
theorem KI (v:V3):(PV.agg [.int .i64 ((aT v).cell 0).toInt,.int .i64 ((aT v).cell 1).toInt,.int .i64 ((aT v).cell 2).toInt]:PV)=aT v:=rfl
theorem OE {a : V3} {m : Mv} {len : Int} (h : lY a m len = true) : pt m.to = true ∧ (0 ≤ m.wait ∧ m.wait ≤ 3600000) ∧ (0 ≤ m.fl ∧ m.fl ≤ 3600000) ∧ (0 ≤ m.rise ∧ m.rise ≤ 3600000) ∧ m.wait + m.fl ≤ len ∧
    (m.fl=0→m.to=a∧m.rise=0)∧(m.fl≠0→m.rise≠0→m.fl.tmod 4=0∧pt (up a m.rise)=true∧pt (up m.to m.rise)=true):=by
  unfold lY at h
  simp only[qBa,qDa]at h
  obtain⟨h1,h2,h3,h4,h5,h6⟩:=h
  refine⟨h1,kW.1 h2,kW.1 h3,kW.1 h4,h5,fun hf=>?_,fun hf hr=>?_⟩
  · rw[if_pos hf]at h6
    simpa using h6
  · rw[if_neg hf,if_neg hr]at h6
    simpa using h6
theorem abY {n:Int} (h:n.tmod 4=0):4*n.tdiv 4=n:=by
 have:=Int.mul_tdiv_add_tmod n 4
 omega
section
variable (X:Ext) (hX:Mine X)
include hX
theorem c84 (a b : V3) (r f t : Int) (ha : pt a = true) (hb : pt b = true) (h0 : 0 ≤ f) (h1 : f < t) (h2 : t ≤ 3600000) (hr : 0 ≤ r) (h4 : (t - f).tmod 4 = 0) (hu : pt (up a r) = true) (hv : pt (up b r) = true) :
    run tab X 84 [.p (aT a),.p (aT b),.p (.int .i64 r),.p (.int .i64 f),.p (.int .i64 t)] []=some ([.fresh true iy (eP (Nw a b r f t)),.p (.int .i64 0)],[]):=by
  obtain⟨a1,a2,a3⟩:=jS.1 ha
  obtain⟨b1,b2,b3⟩:=jS.1 hb
  obtain⟨u1,u2,u3⟩:=jS.1 hu
  simp only[up]at u3
  have hq:=abY h4
  have k1:=c89 X hX a b f t
  rw[ha,hb]at k1
  have k2:=Yo X hX (up a r)
  have k3:=Yo X hX (up b r)
  rw[hu]at k2
  rw[hv]at k3
  generalize hqq:(t-f).tdiv 4=q at hq
  have k4:=c90 X hX a (up a r) (up b r) b f (f+q) (t-q) t ha hu hv hb h0 (by omega) (by omega) (by omega) h2
  unfold aT at k1
  refine bn (hX _ rfl) ?_
  rw[aT,aT,e84,k1]
  simp only[Option.bind_some,List.headD_cons,gV,aI,iR,h0,h1,h2,decide_true,Bool.and_self,cond_true]
  rw[wrap_eq (x:=t-f) (by omega) (by omega),hqq,wrap_eq (x:=q) (by omega) (by omega),wrap_eq (x:=4*q) (by omega) (by omega),pU,if_pos hq,aG,if_neg (by omega),aG,if_neg (by omega),
   wrap_eq (x:=a.z+r) (by omega) (by omega),wrap_eq (x:=b.z+r) (by omega) (by omega),V6,V6,k2]
  simp only[Option.bind_some,List.headD_cons,gV,aI,cond_true]
  rw[k3]
  simp only[Option.bind_some,List.headD_cons,gV,aI,cond_true]
  rw[wrap_eq (x:=f+q) (by omega) (by omega),wrap_eq (x:=t-q) (by omega) (by omega)]
  refine(congrArg (fun o=>Option.bind o _) k4).trans ?_
  simp only[Option.bind_some,List.headD_cons,List.tail_cons,gV,aV,toInt_int,gI]
  unfold Nw
  rw[hqq]
theorem c66 (a b : V3) (r f t : Int) (ha : pt a = true) (hb : pt b = true) (h0 : 0 ≤ f) (h1 : f < t) (h2 : t ≤ 3600000) (hr : 0 ≤ r) (hr' : r ≤ 3600000) (h4 : (t - f).tmod 4 = 0) (hu : pt (up a r) = true) (hv : pt (up b r) = true) :
    run tab X 66 [.p (aT a),.p (aT b),.p (.int .i64 r),.p (.int .i64 f),.p (.int .i64 t)] []=some ([.fresh true iy (eP (Nw a b r f t)),.p (.int .i64 0)],[]):=by
  obtain⟨a1,a2,a3⟩:=jS.1 ha
  obtain⟨u1,u2,u3⟩:=jS.1 hu
  simp only[up]at u3
  have hq:=abY h4
  have k1:=c42 X hX a
  have k2:=c42 X hX b
  rw[ha]at k1
  rw[hb]at k2
  have k3:=c75 X hX f t
  have k4:=c63 X hX a r hr hr' ha
  have k5:=c63 X hX b r hr hr' hb
  rw[if_pos (by omega),hu]at k4
  rw[if_pos (by omega),hv]at k5
  generalize hqq:(t-f).tdiv 4=q at hq
  have k6:=c65 X hX a (up a r) f (f+q) (jT ha) (jT hu)
  have k7:=c65 X hX (up a r) (up b r) (f+q) (f+3*q) (jT hu) (jT hv)
  have k8:=c65 X hX (up b r) b (f+3*q) t (jT hv) (jT hb)
  have e1:(PV.agg [.int .i64 a.x,.int .i64 a.y,.int .i64 a.z])=aT a:=rfl
  have e2:(PV.agg [.int .i64 b.x,.int .i64 b.y,.int .i64 b.z])=aT b:=rfl
  refine bn (hX _ rfl) ?_
  have aeV:=e66 (run tab X) a.x a.y a.z b.x b.y b.z r f t
  rw[e1,e2]at aeV
  rw[aeV,k1]
  simp only[Option.bind_some,List.headD_cons,gV,aI,iR,cond_true]
  rw[k2]
  simp only[Option.bind_some,List.headD_cons,gV,aI,cond_true]
  rw[k3]
  simp only[Option.bind_some,List.headD_cons,gV,aI,h0,h1,h2,decide_true,Bool.and_self,cond_true]
  rw[k4]
  simp only[Option.bind_some]
  rw[k5]
  simp only[Option.bind_some,List.headD_cons,List.tail_cons,gV,aI,cond_true]
  rw[wrap_eq (x:=t-f) (by omega) (by omega),h4,hqq,wrap_eq (x:=q) (by omega) (by omega),wrap_eq (x:=f+q) (by omega) (by omega),wrap_eq (x:=3*q) (by omega) (by omega),wrap_eq (x:=f+3*q) (by omega) (by omega),pU,if_pos rfl,KI,KI,k6]
  simp only[Option.bind_some,List.headD_cons,gV]
  rw[k7]
  simp only[Option.bind_some,List.headD_cons,gV]
  rw[k8]
  simp only[Option.bind_some,List.headD_cons,gV,KG]
  unfold Nw
  rw[hqq,show f+3*q=t-q by omega]
  rfl
theorem c64 (v:V3) (f t:Int):run tab X 64 [.p (aT v),.p (.int .i64 f),.p (.int .i64 t)] []=some ([.fresh true iy (eP (lg v f t))],[]):=by
 have k1:=ajP X hX v f t
 unfold aT at k1
 refine bn (hX _ rfl) ?_
 rw[aT,e64,pR]
 unfold lg
 by_cases h:f=t
 · rw[if_pos h,if_pos h];rfl
 · rw[if_neg h,if_neg h,k1]
   simp only[Option.bind_some,List.headD_cons,gV,KG]
   rfl
theorem c81 (v : V3) (f t : Int) (ws : List Sg) (hv : pt v = true) (h0 : 0 ≤ f) (h1 : f ≤ t) (h2 : t ≤ 3600000) (hl : ws.length ≤ 1000) :
    run tab X 81 [.p (aT v),.p (.int .i64 f),.p (.int .i64 t),.ptr 100000 0 0] [.box [.slice 99999 6 0 ws.length],.arr true iy (eP ws)]=some ([],[.box [.slice 99999 6 0 (ws.length+(lg v f t).length)],.arr true iy (eP (ws++lg v f t))]):=by
  obtain⟨e,k1⟩:=c82 X hX v f t hv h0 h1 h2
  unfold aT at k1
  refine bn (hX _ rfl) ?_
  rw[aT,e81,k1]
  have:=vg v f t
  simp only[Option.bind_some,List.headD_cons,aV,jw,aG]
  rw[if_pos (by omega),kX,kX,qB]
theorem c73 (a:V3) (m:Mv) (t len:Int) (ha:pt a=true) (hm:lY a m len=true) (h0:0≤t) (h1:t+len≤3600000):run tab X 73 [.p (aT a),.p (eM m),.p (.int .i64 t),.p (.int .i64 len)] []=some ([.fresh true iy (eP (qY a m t len))],[]):=by
 obtain⟨m1,m2,m3,m4,m5,m6,m7⟩:=OE hm
 have e1:(PV.agg [.int .i64 a.x,.int .i64 a.y,.int .i64 a.z])=aT a:=rfl
 have e2:(PV.agg [.int .i64 m.to.x,.int .i64 m.to.y,.int .i64 m.to.z])=aT m.to:=rfl
 have ex:=e73 (run tab X) a.x a.y a.z m.to.x m.to.y m.to.z m.wait m.fl m.rise t len
 rw[e1,e2,wrap_eq (x:=t+len) (by omega) (by omega),wrap_eq (x:=t+m.wait) (by omega) (by omega),wrap_eq (x:=t+m.wait+m.fl) (by omega) (by omega)]at ex
 refine bn (hX _ rfl) ?_
 refine Eq.trans ex ?_
 rw[pR]
 unfold qY
 by_cases hf:m.fl=0
 · rw[if_pos hf,if_pos hf]
   have k:=c81 X hX a t (t+len) [] ha h0 (by omega) h1 (by simp)
   refine(congrArg (fun o=>Option.bind o _) k).trans ?_
   simp only[Option.bind_some,FH,zC,List.getD_cons_succ,List.getD_cons_zero,List.headD_cons,P8,aJ.cs,zG,zH,List.length_nil,Nat.zero_add,List.nil_append]
   rw[kX]
 · rw[if_neg hf,if_neg hf]
   have k:=c81 X hX a t (t+m.wait) [] ha h0 (by omega) (by omega) (by simp)
   refine(congrArg (fun o=>Option.bind o _) k).trans ?_
   have kg:=c83 X hX a m.to (t+m.wait) (t+m.wait+m.fl) ha m1 (by omega) (by omega) (by omega)
   simp only[Option.bind_some]
   rw[kg]
   have hs:=vg a t (t+m.wait)
   simp only[Option.bind_some,FH,zC,List.getD_cons_succ,List.getD_cons_zero,List.headD_cons,P8,aJ.cs,zG,zH,List.length_nil,Nat.zero_add,List.nil_append,aV,aG,jw,kX]
   by_cases hr:m.rise=0
   · rw[if_neg (by omega),if_pos hr,if_pos (by simp only[List.length_singleton];omega),qB]
     have k2:=c81 X hX m.to (t+m.wait+m.fl) (t+len) (lg a t (t+m.wait)++[qo a m.to (t+m.wait) (t+m.wait+m.fl)]) m1 (by omega) (by omega) h1 (by simp only[List.length_append,List.length_singleton];omega)
     rw[List.length_append]at k2
     rw[k2]
     simp only[Option.bind_some,List.getD_cons_succ,List.getD_cons_zero,List.headD_cons,P8,zG,zH]
     rw[show (lg a t (t+m.wait)).length+([qo a m.to (t+m.wait) (t+m.wait+m.fl)]:List Sg).length+(lg m.to (t+m.wait+m.fl) (t+len)).length=(lg a t (t+m.wait)++[qo a m.to (t+m.wait) (t+m.wait+m.fl)]++lg m.to (t+m.wait+m.fl) (t+len)).length by simp only[List.length_append],kX]
   · obtain⟨q1,q2,q3⟩:=m7 hf hr
     have ka:=c84 X hX a m.to m.rise (t+m.wait) (t+m.wait+m.fl) ha m1 (by omega) (by omega) (by omega) m4.1 (by rw[show t+m.wait+m.fl-(t+m.wait)=m.fl by omega];exact q1) q2 q3
     rw[if_pos (by omega),if_neg hr,ka]
     simp only[Option.bind_some,List.headD_cons,aV,jw,kX]
     rw[if_pos (by rw[FP];omega),qB]
     have k2:=c81 X hX m.to (t+m.wait+m.fl) (t+len) (lg a t (t+m.wait)++Nw a m.to m.rise (t+m.wait) (t+m.wait+m.fl)) m1 (by omega) (by omega) h1 (by simp only[List.length_append,FP];omega)
     rw[List.length_append]at k2
     rw[k2]
     simp only[Option.bind_some,List.getD_cons_succ,List.getD_cons_zero,List.headD_cons,P8,zG,zH]
     rw[show (lg a t (t+m.wait)).length+(Nw a m.to m.rise (t+m.wait) (t+m.wait+m.fl)).length+(lg m.to (t+m.wait+m.fl) (t+len)).length=(lg a t (t+m.wait)++Nw a m.to m.rise (t+m.wait) (t+m.wait+m.fl)++lg m.to (t+m.wait+m.fl) (t+len)).length by simp only[List.length_append],kX]
theorem c44 (a:V3) (m:Mv) (t len:Int) (ha:pt a=true) (hm:lY a m len=true) (h0:0≤t) (h1:t+len≤3600000):run tab X 44 [.p (aT a),.p (eM m),.p (.int .i64 t),.p (.int .i64 len)] []=some ([.fresh true iy (eP (qY a m t len))],[]):=by
 obtain⟨m1,m2,m3,m4,m5,m6,m7⟩:=OE hm
 have e1:(PV.agg [.int .i64 a.x,.int .i64 a.y,.int .i64 a.z])=aT a:=rfl
 have e2:(PV.agg [.int .i64 m.to.x,.int .i64 m.to.y,.int .i64 m.to.z])=aT m.to:=rfl
 have ex:=e44 (run tab X) a.x a.y a.z m.to.x m.to.y m.to.z m.wait m.fl m.rise t len
 rw[e1,e2,wrap_eq (x:=t+len) (by omega) (by omega),wrap_eq (x:=t+m.wait) (by omega) (by omega),wrap_eq (x:=t+m.wait+m.fl) (by omega) (by omega)]at ex
 refine bn (hX _ rfl) ?_
 refine Eq.trans ex ?_
 rw[pR]
 unfold qY
 by_cases hf:m.fl=0
 · rw[if_pos hf,if_pos hf,c64 X hX]
   simp only[Option.bind_some,List.headD_cons,aV,gI]
 · rw[if_neg hf,if_neg hf,c64 X hX]
   have hs:=vg a t (t+m.wait)
   have hs2:=vg m.to (t+m.wait+m.fl) (t+len)
   simp only[Option.bind_some,List.headD_cons,aV,jw,kX]
   rw[pR]
   by_cases hr:m.rise=0
   · rw[if_pos hr,if_pos hr,c65 X hX a m.to _ _ (jT ha) (jT m1)]
     simp only[Option.bind_some,List.headD_cons,gV,KG,aG]
     rw[if_pos (by omega),c64 X hX]
     simp only[Option.bind_some,List.headD_cons,aV,jw,kX]
     rw[if_pos (by omega),show ([eS (qo a m.to (t+m.wait) (t+m.wait+m.fl))]:List PV)=eP [qo a m.to (t+m.wait) (t+m.wait+m.fl)] from rfl,qB]
     rw[show (lg a t (t+m.wait)).length+1=(lg a t (t+m.wait)++[qo a m.to (t+m.wait) (t+m.wait+m.fl)]).length by simp,kX,qB,← List.length_append,kX]
   · obtain⟨q1,q2,q3⟩:=m7 hf hr
     have ka:=c66 X hX a m.to m.rise (t+m.wait) (t+m.wait+m.fl) ha m1 (by omega) (by omega) (by omega) m4.1 m4.2 (by rw[show t+m.wait+m.fl-(t+m.wait)=m.fl by omega];exact q1) q2 q3
     rw[if_neg hr,if_neg hr,ka]
     simp only[Option.bind_some,List.headD_cons,aV,aG,jw,kX]
     rw[if_pos (by rw[FP];omega),c64 X hX]
     simp only[Option.bind_some,List.headD_cons,aV,jw,kX]
     rw[if_pos (by rw[FP];omega),qB,← List.length_append,kX,qB,← List.length_append,kX]
end
end Go.Skm.Prg
