/-
  What flights, stays and paths of moves are, in the program and in the document; condition: parts in range where that is said.
-/
import Derived.Test.YtfmoopdnamdobaaDoorP1
namespace Go.Skm.Prg
open Go Go.Skm
structure Mv where
 to:V3
 wait:Int
 fl:Int
 rise:Int
 deriving DecidableEq
def eM (m:Mv):PV:=.agg [.int .i64 m.to.x,.int .i64 m.to.y,.int .i64 m.to.z,.int .i64 m.wait,.int .i64 m.fl,.int .i64 m.rise]
def stayS (v:V3) (f t:Int):List Sg:=if f=t then [] else [legS v v f t]
def validM (a:V3) (m:Mv) (len:Int):Bool :=
 pt m.to&&(tmB m.wait&&(tmB m.fl&&(tmB m.rise&&(decide (m.wait+m.fl≤len)&&(if m.fl=0 then decide (m.to=a)&&decide (m.rise=0) else if m.rise=0 then true else decide (m.fl.tmod 4=0)&&(pt (up a m.rise)&&pt (up m.to m.rise)))))))
def pathS (a:V3) (m:Mv) (t len:Int):List Sg :=
 if m.fl=0 then stayS a t (t+len) else
  stayS a t (t+m.wait)++(if m.rise=0 then [legS a m.to (t+m.wait) (t+m.wait+m.fl)] else arcS a m.to m.rise (t+m.wait) (t+m.wait+m.fl))++stayS m.to (t+m.wait+m.fl) (t+len)
def pathR (a:V3) (m:Mv) (t len:Int):List Sg × Int :=
 if pt a&&(decide (1≤len)&&(tmB len&&(tmB t&&validM a m len))) then(if tmB (t+len) then(pathS a m t len,0) else([],3)) else([],2)
theorem tmB_iff {n:Int}:tmB n=true↔0≤n∧n≤3600000:=by simp[tmB]
theorem pt_wide {v:V3} (h:pt v=true):inM 2097152 v=true:=by
 have:=inM_iff.1 h
 rw[inM_iff];omega
theorem stay_len (v:V3) (f t:Int):(stayS v f t).length≤1:=by
 unfold stayS;split<;>simp
theorem arc_len (a b:V3) (r f t:Int):(arcS a b r f t).length=3:=rfl
theorem path_len (a:V3) (m:Mv) (t len:Int):(pathS a m t len).length≤5:=by
 unfold pathS
 have h1:=stay_len a t (t+len)
 have h2:=stay_len a t (t+m.wait)
 have h3:=stay_len m.to (t+m.wait+m.fl) (t+len)
 split
 · omega
 · split
   · simp only[List.length_append,List.length_singleton];omega
   · simp only[List.length_append,arc_len];omega
theorem eP_append (a b:List Sg):eP a++eP b=eP (a++b):=by simp[eP]
theorem eP_take (l:List Sg):((eP l).drop 0).take l.length=eP l:=by
 rw[← eP_length l,all_take]
theorem eqV {a b:V3}:((a.x==b.x)&&((a.y==b.y)&&((a.z==b.z)&&true)))=decide (a=b):=by
 have:a=b↔a.x=b.x∧a.y=b.y∧a.z=b.z:=⟨fun h=>by rw[h];exact⟨rfl,rfl,rfl⟩,fun ⟨h1,h2,h3⟩=>V3.ext' h1 h2 h3⟩
 rw[Bool.eq_iff_iff]
 simp[this]
section
variable (X:Ext) (hX:Mine X)
include hX
theorem c88s (v : V3) (f t : Int) : run tab X 88 [.p (encV v),.p (encV v),.p (.int .i64 f),.p (.int .i64 t),.p (.int .i64 0)] [] =
    some ([.fresh true kSg (eP (if pt v&&(decide (0≤f)&&(decide (f<t)&&decide (t≤3600000))) then [legS v v f t] else [])),.p (.int .i64 (if pt v&&(decide (0≤f)&&(decide (f<t)&&decide (t≤3600000))) then 0 else 2))],[]):=by
  have h1:=c89 X hX v v f t
  have h2:=c94s X hX v f t
  unfold encV at h1 h2
  refine run_of (hX _ rfl) ?_
  rw[encV,e88,h1]
  simp only[Option.bind_some,List.headD_cons,pv_p,toBool_bool,condO]
  have e:(pt v&&(pt v&&(decide (0≤f)&&(decide (f<t)&&decide (t≤3600000)))))=(pt v&&(decide (0≤f)&&(decide (f<t)&&decide (t≤3600000)))):=by cases pt v<;>simp
  rw[e]
  cases (pt v&&(decide (0≤f)&&(decide (f<t)&&decide (t≤3600000)))) with
  | false=>rfl
  | true =>
   rw[cond_true,h2]
   rfl
theorem c88g (a b : V3) (f t : Int) (ha : pt a = true) (hb : pt b = true) (h0 : 0 ≤ f) (h1 : f < t) (h2 : t ≤ 3600000) : run tab X 88 [.p (encV a),.p (encV b),.p (.int .i64 f),.p (.int .i64 t),.p (.int .i64 2)] [] =
    some ([.fresh true kSg (eP [legS a b f t]),.p (.int .i64 0)],[]):=by
  have k1:=c89 X hX a b f t
  have k2:=c94 X hX a b f t (pt_wide ha) (pt_wide hb)
  rw[ha,hb]at k1
  unfold encV at k1 k2
  refine run_of (hX _ rfl) ?_
  rw[encV,encV,e88,k1]
  simp only[Option.bind_some,List.headD_cons,pv_p,toBool_bool,condO]
  simp only[h0,h1,h2,decide_true,Bool.and_self,cond_true]
  rw[k2]
  rfl
theorem c82 (v:V3) (f t:Int) (hv:pt v=true) (h0:0≤f) (h1:f≤t) (h2:t≤3600000):∃ e,run tab X 82 [.p (encV v),.p (.int .i64 f),.p (.int .i64 t)] []=some ([.fresh true kSg (eP (stayS v f t)),.p (.int .i64 e)],[]):=by
 have k1:=c88s X hX v f t
 unfold encV at k1
 refine⟨_,run_of (hX _ rfl) (by
  rw[encV,e82,k1]
  simp only[Option.bind_some,List.headD_cons,List.tail_cons,pv_p,freshList_fresh,toInt_int,all_take]
  have e:(if pt v&&(decide (0≤f)&&(decide (f<t)&&decide (t≤3600000))) then [legS v v f t] else [])=stayS v f t:=by
   unfold stayS
   rw[hv]
   by_cases h:f=t
   · rw[if_pos h,if_neg (by simp;omega)]
   · rw[if_neg h,if_pos (by simp;omega)]
  rw[e])⟩
theorem c83 (a b:V3) (f t:Int) (ha:pt a=true) (hb:pt b=true) (h0:0≤f) (h1:f<t) (h2:t≤3600000):run tab X 83 [.p (encV a),.p (encV b),.p (.int .i64 f),.p (.int .i64 t)] []=some ([.fresh true kSg (eP [legS a b f t]),.p (.int .i64 0)],[]):=by
 have k1:=c88g X hX a b f t ha hb h0 h1 h2
 unfold encV at k1
 refine run_of (hX _ rfl) ?_
 rw[encV,encV,e83,k1]
 simp only[Option.bind_some,List.headD_cons,List.tail_cons,pv_p,freshList_fresh,toInt_int,all_take]
theorem c103 (a b c d : V3) (t0 t1 t2 t3 : Int) (ha : pt a = true) (hb : pt b = true) (hc : pt c = true) (hd : pt d = true) :
    run tab X 103 [.yld,.p (.ref [.list true kV3 [encV a,encV b,encV c,encV d]]),.p (.ref [.list false [.int .i64] [.int .i64 t0,.int .i64 t1,.int .i64 t2,.int .i64 t3]])] [.log true []] =
     some ([],[.log true [.agg [eS (legS a b t0 t1)],.agg [eS (legS b c t1 t2)],.agg [eS (legS c d t2 t3)]]]):=by
  have k1:=c94 X hX a b t0 t1 (pt_wide ha) (pt_wide hb)
  have k2:=c94 X hX b c t1 t2 (pt_wide hb) (pt_wide hc)
  have k3:=c94 X hX c d t2 t3 (pt_wide hc) (pt_wide hd)
  unfold encV at k1 k2 k3
  have w0:IntKind.i64.wrap (1-1)=0:=by decide
  have w1:IntKind.i64.wrap (2-1)=1:=by decide
  have w2:IntKind.i64.wrap (3-1)=2:=by decide
  have v1:IntKind.i64.wrap (1+1)=2:=by decide
  have v2:IntKind.i64.wrap (2+1)=3:=by decide
  have v3:IntKind.i64.wrap (3+1)=4:=by decide
  refine run_of (hX _ rfl) ?_
  rw[e103]
  refine L_of ?_
  rw[e103_10,w0,v1]
  simp only[condA,condD,List.length_cons,List.length_nil,encV,show (1:Int).toNat=1 from rfl,Int.toNat_zero,List.getD_cons_zero,List.getD_cons_succ,cell_agg,toInt_int,cell_int]
  simp only[show ((1:Int)<((0+1+1+1+1:Nat):Int)) by decide,show ((0:Int)<((0+1+1+1+1:Nat):Int)) by decide,show (0:Int)≤1 by decide,Int.le_refl,if_true]
  rw[k1]
  simp only[Option.bind_some,List.headD_cons,pv_p,fork]
  refine L_of ?_
  rw[e103_10,w1,v2]
  simp only[condA,condD,List.length_cons,List.length_nil,show (1:Int).toNat=1 from rfl,show (2:Int).toNat=2 from rfl,List.getD_cons_zero,List.getD_cons_succ,cell_agg,toInt_int,cell_int]
  simp only[show ((1:Int)<((0+1+1+1+1:Nat):Int)) by decide,show ((2:Int)<((0+1+1+1+1:Nat):Int)) by decide,show (0:Int)≤1 by decide,show (0:Int)≤2 by decide,if_true]
  rw[k2]
  simp only[Option.bind_some,List.headD_cons,pv_p,fork]
  refine L_of ?_
  rw[e103_10,w2,v3]
  simp only[condA,condD,List.length_cons,List.length_nil,show (3:Int).toNat=3 from rfl,show (2:Int).toNat=2 from rfl,List.getD_cons_zero,List.getD_cons_succ,cell_agg,toInt_int,cell_int]
  simp only[show ((3:Int)<((0+1+1+1+1:Nat):Int)) by decide,show ((2:Int)<((0+1+1+1+1:Nat):Int)) by decide,show (0:Int)≤3 by decide,show (0:Int)≤2 by decide,if_true]
  rw[k3]
  simp only[Option.bind_some,List.headD_cons,pv_p,fork]
  refine L_of ?_
  rw[e103_10]
  simp only[condA,condD,List.length_cons,List.length_nil]
  rw[if_neg (show ¬ ((4:Int)<((0+1+1+1+1:Nat):Int)) by decide)]
  rfl
theorem c90 (a b c d : V3) (t0 t1 t2 t3 : Int) (ha : pt a = true) (hb : pt b = true) (hc : pt c = true) (hd : pt d = true) (h0 : 0 ≤ t0) (h1 : t0 < t1) (h2 : t1 < t2) (h3 : t2 < t3) (h4 : t3 ≤ 3600000) :
    run tab X 90 [.p (.list true kV3 [encV a,encV b,encV c,encV d]),.p (.list false [.int .i64] [.int .i64 t0,.int .i64 t1,.int .i64 t2,.int .i64 t3])] [] =
     some ([.fresh true kSg (eP [legS a b t0 t1,legS b c t1 t2,legS c d t2 t3]),.p (.int .i64 0)],[]):=by
  have k1:=c58 X hX a
  have k2:=c58 X hX b
  have k3:=c58 X hX c
  have k4:=c58 X hX d
  rw[ha]at k1
  rw[hb]at k2
  rw[hc]at k3
  rw[hd]at k4
  unfold encV at k1 k2 k3 k4
  have k5:=c103 X hX a b c d t0 t1 t2 t3 ha hb hc hd
  have k6:run tab X 95 [.p (.list true kV3 [encV a,encV b,encV c,encV d]),.p (.list false [.int .i64] [.int .i64 t0,.int .i64 t1,.int .i64 t2,.int .i64 t3])] []=some ([.p (.fn 103 [.ref [.list true kV3 [encV a,encV b,encV c,encV d]],.ref [.list false [.int .i64] [.int .i64 t0,.int .i64 t1,.int .i64 t2,.int .i64 t3]]])],[]) :=
   run_of (hX _ rfl) (by rw[e95])
  have v0:IntKind.i64.wrap (0+1)=1:=by decide
  have v1:IntKind.i64.wrap (1+1)=2:=by decide
  have v2:IntKind.i64.wrap (2+1)=3:=by decide
  have v3:IntKind.i64.wrap (3+1)=4:=by decide
  have l4:∀ {α:Type} (w x y z:α),((([w,x,y,z]:List α).length:Nat):Int)=4:=fun _ _ _ _=>rfl
  refine run_of (hX _ rfl) ?_
  rw[e90]
  simp only[l4,condD,condN]
  rw[if_neg (by decide),if_pos trivial]
  refine L_of ?_
  rw[e90_111010,v0]
  simp only[l4,condA,condD,condO,encV,Int.toNat_zero,List.getD_cons_zero,cell_agg,List.getD_cons_succ,toInt_int,cell_int]
  simp only[show (0:Int)<4 by decide,Int.le_refl,if_true]
  rw[k1]
  simp only[Option.bind_some,List.headD_cons,pv_p,toBool_bool,cond_true]
  rw[if_neg (by omega),if_neg (by omega)]
  refine L_of ?_
  rw[e90_111010,v1]
  simp only[l4,condA,condD,condO,show (1:Int).toNat=1 from rfl,List.getD_cons_zero,cell_agg,List.getD_cons_succ,toInt_int,cell_int]
  simp only[show (1:Int)<4 by decide,show (0:Int)≤1 by decide,if_true]
  rw[k2]
  simp only[Option.bind_some,List.headD_cons,pv_p,toBool_bool,cond_true]
  rw[if_neg (by omega),if_neg (by omega)]
  refine L_of ?_
  rw[e90_111010,v2]
  simp only[l4,condA,condD,condO,show (2:Int).toNat=2 from rfl,List.getD_cons_zero,cell_agg,List.getD_cons_succ,toInt_int,cell_int]
  simp only[show (2:Int)<4 by decide,show (0:Int)≤2 by decide,if_true]
  rw[k3]
  simp only[Option.bind_some,List.headD_cons,pv_p,toBool_bool,cond_true]
  rw[if_neg (by omega),if_neg (by omega)]
  refine L_of ?_
  rw[e90_111010,v3]
  simp only[l4,condA,condD,condO,show (3:Int).toNat=3 from rfl,List.getD_cons_zero,cell_agg,List.getD_cons_succ,toInt_int,cell_int]
  simp only[show (3:Int)<4 by decide,show (0:Int)≤3 by decide,if_true]
  rw[k4]
  simp only[Option.bind_some,List.headD_cons,pv_p,toBool_bool,cond_true]
  rw[if_neg (by omega),if_neg (by omega)]
  refine L_of ?_
  rw[e90_111010]
  simp only[l4,condA,condD]
  rw[if_neg (by decide),if_neg (by decide)]
  unfold encV at k5 k6
  rw[k6,Option.bind_some]
  show (run tab X 103 [.yld,.p (.ref [.list true kV3 _]),.p (.ref [.list false [.int .i64] _])] [.log true []]).bind _=_
  refine(congrArg (fun o=>Option.bind o _) k5).trans ?_
  rw[Option.bind_some]
  show L tab (run tab X) 90 [] [.rg [1,1,1,1,1,1,0,1,0] [(true,kSg)] [.agg [eS (legS a b t0 t1)],.agg [eS (legS b c t1 t2)],.agg [eS (legS c d t2 t3)]]] (S90_111111010 _ _)=_
  unfold eS
  rw[e90_111111010_cons,e90_111111010_s1_cons]
  simp only[condD]
  rw[if_pos (by decide),e90_111111010_s1_cons]
  simp only[condD]
  rw[if_pos (by decide),e90_111111010_s1_nil]
  rfl
end
end Go.Skm.Prg
