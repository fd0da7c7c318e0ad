/-
  What appending, finding and the paths are held to, in this program; condition: the document's examples, the library's answers.
-/
import Derived.Test.YtfmoopdnamdobaaDoorP12
namespace Go.Skm.Prg
open Go Go.Skm
section
variable {α:Type}
theorem eqT {x y:Int} {a b r:α} (h:x=y) (h2:a=r):cond (x==y) a b=r:=by rw[condE,if_pos h];exact h2
theorem neF {x y:Int} {a b r:α} (h:x=y) (h2:b=r):cond (x != y) a b=r:=by rw[condN,if_pos h];exact h2
theorem eqF {x y:Int} {a b r:α} (h:¬ x=y) (h2:b=r):cond (x==y) a b=r:=by rw[condE,if_neg h];exact h2
theorem notT {c:Bool} {a b r:α} (h:c=true) (h2:b=r):cond (!c) a b=r:=by rw[h];exact h2
theorem notF {c:Bool} {a b r:α} (h:c=false) (h2:a=r):cond (!c) a b=r:=by rw[h];exact h2
theorem decT {p:Prop} {i:Decidable p} {a b r:α} (h:p) (h2:a=r):cond (@decide p i) a b=r:=condP h h2
theorem decF {p:Prop} {i:Decidable p} {a b r:α} (h:¬ p) (h2:b=r):cond (@decide p i) a b=r:=condNP h h2
end
theorem tm_len (a b:Int):(tm a b).length≤1000:=by unfold tm;split<;>simp
def coefS (s:Sg):Prop:=s.X.length≤1000∧s.Y.length≤1000∧s.Z.length≤1000
theorem leg_coef (a b:V3) (f t:Int):coefS (legS a b f t):=⟨tm_len _ _,tm_len _ _,tm_len _ _⟩
theorem stay_coef (v:V3) (f t:Int):∀ s∈stayS v f t,coefS s:=by
 unfold stayS
 split
 · simp
 · intro s hs
   simp only[List.mem_singleton]at hs
   subst hs;exact leg_coef _ _ _ _
theorem arc_coef (a b:V3) (r f t:Int):∀ s∈arcS a b r f t,coefS s:=by
 intro s hs
 simp only[arcS,List.mem_cons,List.not_mem_nil,or_false]at hs
 rcases hs with rfl | rfl | rfl<;>exact leg_coef _ _ _ _
theorem path_coef (a:V3) (m:Mv) (t len:Int):∀ s∈pathS a m t len,coefS s:=by
 unfold pathS
 split
 · exact stay_coef _ _ _
 · intro s hs
   simp only[List.mem_append]at hs
   rcases hs with (hs | hs) | hs
   · exact stay_coef _ _ _ s hs
   · split at hs
     · simp only[List.mem_singleton]at hs
       subst hs;exact leg_coef _ _ _ _
     · exact arc_coef _ _ _ _ _ s hs
   · exact stay_coef _ _ _ s hs
theorem trail_coef (i:Nat):∀ (zs:List Ac) (t:Int) (fr:List V3),∀ s∈trailR i t fr zs,coefS s
 | [],_,_=>by simp[trailR]
 | a::r,t,fr=>by
  intro s hs
  simp only[trailR,List.mem_append]at hs
  rcases hs with hs | hs
  · exact path_coef _ _ _ _ s hs
  · exact trail_coef i r _ _ s hs
theorem few_acts {p:Pg} {n m:Nat} (h:fewB p n m=true):p.names.length≤n∧p.homes.length≤n∧p.acts.length≤m:=by
 simp only[fewB,Bool.and_eq_true,decide_eq_true_eq]at h
 exact⟨h.1,h.2.1,h.2.2.1⟩
section
variable (X:Ext) (hX:Mine X)
include hX
theorem law5 (hC:Clones X) (hK:Known X) (p:Pg) (hf:Fits p) (a:Ac) (ha1:i64 a.len):run tab X 5 [.p (eG p),.p (eA a)] []=some ([.p (.bool true)],[]):=by
 refine run_of (hX _ rfl) ?_
 rw[eG,eA,e5]
 refine bindS (c11 X hX p hf 6 5 (by decide)) ?_
 cases hw:fewB p 6 5 with
 | false =>
  refine notF rfl ?_
  exact bindS hK rfl
 | true =>
  have hp:=few_small (by decide) (by decide) hf hw
  obtain⟨w1,w2,w3⟩:=few_acts hw
  refine notT rfl ?_
  by_cases h1:((eMs a.mvs).length:Int) > 8
  · refine decT h1 ?_
    exact bindS hK rfl
  · refine decF h1 ?_
    by_cases h2:((ba a.name).size:Int) > 60
    · refine decT h2 ?_
      exact bindS hK rfl
    · refine decF h2 ?_
      rw[eMs_length]at h1
      rw[ba_size]at h2
      have hpa:Small (addA p a):=by
       refine⟨hp.names,hp.homes,by show (p.acts++[a]).length≤100;rw[List.length_append,List.length_singleton];omega,fun b hb=>?_,hp.name⟩
       rcases List.mem_append.1 (show b∈p.acts++[a] from hb) with hb | hb
       · exact hp.act b hb
       · simp only[List.mem_singleton]at hb
         subst hb
         exact⟨by omega,by omega,ha1⟩
      have k20:=c20 X hX hC p hp a hpa
      refine decT (by rw[eN_length];omega) ?_
      refine decT (by rw[encL_length];omega) ?_
      refine decT (by rw[eAs_length];omega) ?_
      rw[all_take,all_take,all_take]
      cases hv:validP p with
      | false =>
       have e1:appR p a=(nilP,2):=by rw[appR,hv];rfl
       rw[e1]at k20
       refine bindS k20 ?_
       refine bindS (c21 X hX p p hp) ?_
       refine notT (decide_eq_true rfl) ?_
       refine bindS (c15 X hX p hp) ?_
       refine notF hv ?_
       refine bindS (c21n X hX) ?_
       refine condT rfl ?_
       refine eqT rfl ?_
       exact bindS hK rfl
      | true =>
       have e1:appR p a=if validP (addA p a) then(eG (addA p a),0) else(nilP,10):=by rw[appR,hv,if_pos rfl]
       cases hv2:validP (addA p a) with
       | false =>
        rw[hv2,if_neg (by decide)]at e1
        rw[e1]at k20
        refine bindS k20 ?_
        refine bindS (c21 X hX p p hp) ?_
        refine notT (decide_eq_true rfl) ?_
        refine bindS (c15 X hX p hp) ?_
        refine notT hv ?_
        refine bindS (c22 X hX p hp a) ?_
        refine bindS (c15 X hX (addA p a) hpa) ?_
        refine notF hv2 ?_
        refine bindS (c21n X hX) ?_
        refine condT rfl ?_
        refine eqT rfl ?_
        exact bindS hK rfl
       | true =>
        rw[hv2,if_pos rfl]at e1
        rw[e1]at k20
        refine bindS k20 ?_
        refine bindS (c21 X hX p p hp) ?_
        refine notT (decide_eq_true rfl) ?_
        refine bindS (c15 X hX p hp) ?_
        refine notT hv ?_
        refine bindS (c22 X hX p hp a) ?_
        refine bindS (c15 X hX (addA p a) hpa) ?_
        refine notT hv2 ?_
        refine eqT rfl ?_
        refine bindS (c22 X hX p hp a) ?_
        refine bindS (c21 X hX (addA p a) (addA p a) hpa) ?_
        refine condT (decide_eq_true rfl) ?_
        exact bindS hK rfl
theorem law6 (hC:Clones X) (hA:AllOk X) (hK:Known X) (p:Pg) (hf:Fits p) (j:Int):run tab X 6 [.p (eG p),.p (.int .i64 j)] []=some ([.p (.bool true)],[]):=by
 refine run_of (hX _ rfl) ?_
 rw[eG,e6]
 refine bindS (c11 X hX p hf 6 5 (by decide)) ?_
 cases hw:fewB p 6 5 with
 | false =>
  refine notF rfl ?_
  exact bindS hK rfl
 | true =>
  have hp:=few_small (by decide) (by decide) hf hw
  obtain⟨w1,w2,w3⟩:=few_acts hw
  have hpl:∀ i,(pathP p i).length≤1000:=fun i=>by
   have:=trail_len i p.acts 0 p.homes
   rw[pathP];omega
  have hpc:∀ i,∀ s∈pathP p i,s.X.length≤1000∧s.Y.length≤1000∧s.Z.length≤1000:=fun i s hs=>trail_coef i _ _ _ s hs
  have hco:∀ q∈(List.range p.names.length).map (pathP p),q.length≤1000∧∀ s∈q,s.X.length≤1000∧s.Y.length≤1000∧s.Z.length≤1000:=fun q hq=>by
   obtain⟨i,_,rfl⟩:=List.mem_map.1 hq
   exact⟨hpl i,hpc i⟩
  refine notT rfl ?_
  have k23:=c23 X hX hC p hp
  have k24:=c24 X hX hC hA p hp j
  have k25:=c25 X hX hC hA p hp
  cases hv:validP p with
  | false =>
   have e1:pathV p j=([],2):=by rw[pathV,hv];rfl
   have e2:pathsV p=([],2):=by rw[pathsV,hv];rfl
   rw[hv]at k23
   rw[e1]at k24
   rw[e2]at k25
   refine bindS k23 ?_
   refine bindS k24 ?_
   refine bindS k25 ?_
   refine bindS (c15 X hX p hp) ?_
   refine notF hv ?_
   refine eqT rfl ?_
   refine eqT rfl ?_
   refine eqT rfl ?_
   refine eqT rfl ?_
   refine eqT rfl ?_
   refine eqT rfl ?_
   exact bindS hK rfl
  | true =>
   have k26:=c26 X hX p hp hv
   have e0:pathV p j=if 0≤j∧j<p.names.length then(if p.acts=[] then([],9) else(pathP p j.toNat,0)) else([],3):=by rw[pathV,hv,if_pos rfl]
   rw[hv]at k23
   refine bindS k23 ?_
   by_cases hj:j<0
   · rw[if_neg (by omega)]at e0
     rw[e0]at k24
     refine bindS k24 ?_
     refine bindS k25 ?_
     refine bindS (c15 X hX p hp) ?_
     refine notT hv ?_
     refine bindS k26 ?_
     refine neF rfl ?_
     refine neF rfl ?_
     refine decT hj ?_
     refine neF rfl ?_
     refine neF rfl ?_
     by_cases h3:p.acts=[]
     · have e3:pathsV p=([],9):=by rw[pathsV,hv,if_pos rfl,if_pos h3]
       rw[e3]at k25
       refine eqT (by rw[h3];rfl) ?_
       refine eqT (show (((pathsV p).1.length:Nat):Int)=0 by rw[e3];rfl) ?_
       refine eqT (show (pathsV p).2=9 by rw[e3]) ?_
       exact bindS hK rfl
     · have e3:pathsV p=(allP p,0):=by rw[pathsV,hv,if_pos rfl,if_neg h3]
       have h4:1≤p.acts.length:=by have:=List.length_pos_iff.2 h3;omega
       refine eqF (by rw[eAs_length];omega) ?_
       refine eqT (show (pathsV p).2=0 by rw[e3]) ?_
       refine bindS (c30 X hX p hp hv) ?_
       rw[all_take,all_take]
       refine bindS (show run tab X 29 [.p (.list false [.slice true kSg] (pathsV p).1),.p (.list false [.slice true kSg] (allP p))] []=_ by rw[e3];exact c29 X hX ((List.range p.names.length).map (pathP p)) (by simp;omega) hco) ?_
       refine condT rfl ?_
       exact bindS hK rfl
   · by_cases hj2:j ≥ (p.names.length:Int)
     · rw[if_neg (by omega)]at e0
       rw[e0]at k24
       refine bindS k24 ?_
       refine bindS k25 ?_
       refine bindS (c15 X hX p hp) ?_
       refine notT hv ?_
       refine bindS k26 ?_
       refine neF rfl ?_
       refine neF rfl ?_
       refine decF hj ?_
       refine decT (by rw[eN_length];exact hj2) ?_
       refine neF rfl ?_
       refine neF rfl ?_
       by_cases h3:p.acts=[]
       · have e3:pathsV p=([],9):=by rw[pathsV,hv,if_pos rfl,if_pos h3]
         rw[e3]at k25
         refine eqT (by rw[h3];rfl) ?_
         refine eqT (show (((pathsV p).1.length:Nat):Int)=0 by rw[e3];rfl) ?_
         refine eqT (show (pathsV p).2=9 by rw[e3]) ?_
         exact bindS hK rfl
       · have e3:pathsV p=(allP p,0):=by rw[pathsV,hv,if_pos rfl,if_neg h3]
         have h4:1≤p.acts.length:=by have:=List.length_pos_iff.2 h3;omega
         refine eqF (by rw[eAs_length];omega) ?_
         refine eqT (show (pathsV p).2=0 by rw[e3]) ?_
         refine bindS (c30 X hX p hp hv) ?_
         rw[all_take,all_take]
         refine bindS (show run tab X 29 [.p (.list false [.slice true kSg] (pathsV p).1),.p (.list false [.slice true kSg] (allP p))] []=_ by rw[e3];exact c29 X hX ((List.range p.names.length).map (pathP p)) (by simp;omega) hco) ?_
         refine condT rfl ?_
         exact bindS hK rfl
     · rw[if_pos (by omega)]at e0
       by_cases h0:p.acts=[]
       · rw[if_pos h0]at e0
         rw[e0]at k24
         refine bindS k24 ?_
         refine bindS k25 ?_
         refine bindS (c15 X hX p hp) ?_
         refine notT hv ?_
         refine bindS k26 ?_
         refine neF rfl ?_
         refine neF rfl ?_
         refine decF hj ?_
         refine decF (by rw[eN_length];exact hj2) ?_
         refine eqT (by rw[h0];rfl) ?_
         refine neF rfl ?_
         refine neF rfl ?_
         by_cases h3:p.acts=[]
         · have e3:pathsV p=([],9):=by rw[pathsV,hv,if_pos rfl,if_pos h3]
           rw[e3]at k25
           refine eqT (by rw[h3];rfl) ?_
           refine eqT (show (((pathsV p).1.length:Nat):Int)=0 by rw[e3];rfl) ?_
           refine eqT (show (pathsV p).2=9 by rw[e3]) ?_
           exact bindS hK rfl
         · have e3:pathsV p=(allP p,0):=by rw[pathsV,hv,if_pos rfl,if_neg h3]
           have h4:1≤p.acts.length:=by have:=List.length_pos_iff.2 h3;omega
           refine eqF (by rw[eAs_length];omega) ?_
           refine eqT (show (pathsV p).2=0 by rw[e3]) ?_
           refine bindS (c30 X hX p hp hv) ?_
           rw[all_take,all_take]
           refine bindS (show run tab X 29 [.p (.list false [.slice true kSg] (pathsV p).1),.p (.list false [.slice true kSg] (allP p))] []=_ by rw[e3];exact c29 X hX ((List.range p.names.length).map (pathP p)) (by simp;omega) hco) ?_
           refine condT rfl ?_
           exact bindS hK rfl
       · rw[if_neg h0]at e0
         rw[e0]at k24
         have h5:1≤p.acts.length:=by have:=List.length_pos_iff.2 h0;omega
         have k28:=c28 X hX p hp hv j.toNat (by omega)
         rw[Int.toNat_of_nonneg (by omega)]at k28
         refine bindS k24 ?_
         refine bindS k25 ?_
         refine bindS (c15 X hX p hp) ?_
         refine notT hv ?_
         refine bindS k26 ?_
         refine neF rfl ?_
         refine neF rfl ?_
         refine decF hj ?_
         refine decF (by rw[eN_length];exact hj2) ?_
         refine eqF (by rw[eAs_length];omega) ?_
         refine neF rfl ?_
         refine bindS k28 ?_
         rw[all_take]
         refine bindS (c27 X hX (pathP p j.toNat) (hpl _) (hpc _)) ?_
         refine notT rfl ?_
         by_cases h3:p.acts=[]
         · have e3:pathsV p=([],9):=by rw[pathsV,hv,if_pos rfl,if_pos h3]
           rw[e3]at k25
           refine eqT (by rw[h3];rfl) ?_
           refine eqT (show (((pathsV p).1.length:Nat):Int)=0 by rw[e3];rfl) ?_
           refine eqT (show (pathsV p).2=9 by rw[e3]) ?_
           exact bindS hK rfl
         · have e3:pathsV p=(allP p,0):=by rw[pathsV,hv,if_pos rfl,if_neg h3]
           have h4:1≤p.acts.length:=by have:=List.length_pos_iff.2 h3;omega
           refine eqF (by rw[eAs_length];omega) ?_
           refine eqT (show (pathsV p).2=0 by rw[e3]) ?_
           refine bindS (c30 X hX p hp hv) ?_
           rw[all_take,all_take]
           refine bindS (show run tab X 29 [.p (.list false [.slice true kSg] (pathsV p).1),.p (.list false [.slice true kSg] (allP p))] []=_ by rw[e3];exact c29 X hX ((List.range p.names.length).map (pathP p)) (by simp;omega) hco) ?_
           refine condT rfl ?_
           exact bindS hK rfl
end
end Go.Skm.Prg
