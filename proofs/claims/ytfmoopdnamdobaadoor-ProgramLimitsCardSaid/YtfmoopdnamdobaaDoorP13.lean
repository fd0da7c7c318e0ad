/-
  What appending, finding and the paths are held to, in this program; condition: the document's examples, the library's answers.
-/
import Derived.Test.YtfmoopdnamdobaaDoorP12
namespace Go.Skm.Prg
open Go Go.Skm
section
variable {α:Type}
theorem eqT {x y:Int} {a b r:α} (h:x=y) (h2:a=r):cond (x==y) a b=r:=by rw[condE,if_pos h];exact h2
theorem neF {x y:Int} {a b r:α} (h:x=y) (h2:b=r):cond (x != y) a b=r:=by rw[condN,if_pos h];exact h2
theorem notT {c:Bool} {a b r:α} (h:c=true) (h2:b=r):cond (!c) a b=r:=by rw[h];exact h2
theorem notF {c:Bool} {a b r:α} (h:c=false) (h2:a=r):cond (!c) a b=r:=by rw[h];exact h2
theorem decT {p:Prop} {i:Decidable p} {a b r:α} (h:p) (h2:a=r):cond (@decide p i) a b=r:=condP h h2
theorem decF {p:Prop} {i:Decidable p} {a b r:α} (h:¬ p) (h2:b=r):cond (@decide p i) a b=r:=condNP h h2
end
section
variable (X:Ext) (hX:Mine X)
include hX
theorem law4 (hC:Clones X) (hK:Known X) (p:Pg) (hf:Fits p) (acts t:Int) (g:List UInt8):run tab X 4 [.p (eG p),.p (.int .i64 acts),.p (.int .i64 t),.p (.str (ba g))] []=some ([.p (.bool true)],[]):=by
 refine run_of (hX _ rfl) ?_
 rw[eG,e4]
 refine bindS (c11 X hX p hf 6 5 (by decide)) ?_
 cases hw:fewB p 6 5 with
 | false =>
  refine notF rfl ?_
  exact bindS hK rfl
 | true =>
  have hp:=few_small (by decide) (by decide) hf hw
  refine notT rfl ?_
  by_cases hg:(g.length:Int) > 60
  · refine decT hg ?_
    exact bindS hK rfl
  · refine decF hg ?_
    have k12:=c12 X hX hC p hp acts
    have k13:=c13 X hX hC p hp t
    have k14:=c14 X hX hC p hp g
    have k19:=c19 X hX p hp g
    cases hv:validP p with
    | false =>
     have h1:formR p acts=([],2):=by rw[formR,hv];rfl
     have h2:actV p t=(0,0,2):=by rw[actV,hv];rfl
     have h3:findR p g=(0,2):=by rw[findR,hv];rfl
     rw[h1]at k12
     rw[h2]at k13
     rw[h3]at k14
     refine bindS k12 ?_
     refine bindS k13 ?_
     refine bindS k14 ?_
     refine bindS (c15 X hX p hp) ?_
     refine notF hv ?_
     refine eqT rfl ?_
     refine eqT rfl ?_
     refine eqT rfl ?_
     refine eqT rfl ?_
     refine eqT rfl ?_
     refine eqT rfl ?_
     refine eqT rfl ?_
     exact bindS hK rfl
    | true =>
     have k18:=c18 X hX p hp hv t
     have h1:formR p acts=if 0≤acts∧acts≤p.acts.length then(formP p acts.toNat,0) else([],3):=by rw[formR,hv,if_pos rfl]
     have h3:findR p g=if idxN g 0 p.names<0 then(0,9) else(idxN g 0 p.names,0):=by rw[findR,hv,if_pos rfl]
     by_cases ha:acts<0
     · rw[if_neg (by omega)]at h1
       rw[h1]at k12
       refine bindS k12 ?_
       refine bindS k13 ?_
       refine bindS k14 ?_
       refine bindS (c15 X hX p hp) ?_
       refine notT hv ?_
       refine decT ha ?_
       refine neF rfl ?_
       refine neF rfl ?_
       refine bindS k18 ?_
       refine neF rfl ?_
       refine neF rfl ?_
       refine neF rfl ?_
       refine bindS k19 ?_
       by_cases hi:idxN g 0 p.names<0
       · rw[if_pos hi]at h3
         refine decT hi ?_
         refine eqT (congrArg Prod.fst h3) ?_
         refine eqT (congrArg Prod.snd h3) ?_
         exact bindS hK rfl
       · rw[if_neg hi]at h3
         refine decF hi ?_
         refine bindS k19 ?_
         refine eqT (congrArg Prod.fst h3) ?_
         refine eqT (congrArg Prod.snd h3) ?_
         exact bindS hK rfl
     · by_cases hb:acts > (p.acts.length:Int)
       · rw[if_neg (by omega)]at h1
         rw[h1]at k12
         refine bindS k12 ?_
         refine bindS k13 ?_
         refine bindS k14 ?_
         refine bindS (c15 X hX p hp) ?_
         refine notT hv ?_
         refine decF ha ?_
         refine decT (by rw[eAs_length];exact hb) ?_
         refine neF rfl ?_
         refine neF rfl ?_
         refine bindS k18 ?_
         refine neF rfl ?_
         refine neF rfl ?_
         refine neF rfl ?_
         refine bindS k19 ?_
         by_cases hi:idxN g 0 p.names<0
         · rw[if_pos hi]at h3
           refine decT hi ?_
           refine eqT (congrArg Prod.fst h3) ?_
           refine eqT (congrArg Prod.snd h3) ?_
           exact bindS hK rfl
         · rw[if_neg hi]at h3
           refine decF hi ?_
           refine bindS k19 ?_
           refine eqT (congrArg Prod.fst h3) ?_
           refine eqT (congrArg Prod.snd h3) ?_
           exact bindS hK rfl
       · rw[if_pos (by omega)]at h1
         rw[h1]at k12
         have k17:=c17 X hX p hp acts.toNat (by omega)
         rw[Int.toNat_of_nonneg (by omega)]at k17
         have hfl:(formP p acts.toNat).length≤1000:=by
          have q1:=hp.homes
          cases hn:acts.toNat with
          | zero=>rw[formP];omega
          | succ n =>
           have hlt:n<p.acts.length:=by omega
           have:=(hp.act _ (List.getElem_mem hlt)).1
           rw[formP,acts_getD p hlt,List.length_map];omega
         refine bindS k12 ?_
         refine bindS k13 ?_
         refine bindS k14 ?_
         refine bindS (c15 X hX p hp) ?_
         refine notT hv ?_
         refine decF ha ?_
         refine decF (by rw[eAs_length];exact hb) ?_
         refine neF rfl ?_
         refine bindS k17 ?_
         rw[all_take]
         refine bindS (c16 X hX (formP p acts.toNat) (formP p acts.toNat) hfl) ?_
         refine notT (decide_eq_true rfl) ?_
         refine bindS k18 ?_
         refine neF rfl ?_
         refine neF rfl ?_
         refine neF rfl ?_
         refine bindS k19 ?_
         by_cases hi:idxN g 0 p.names<0
         · rw[if_pos hi]at h3
           refine decT hi ?_
           refine eqT (congrArg Prod.fst h3) ?_
           refine eqT (congrArg Prod.snd h3) ?_
           exact bindS hK rfl
         · rw[if_neg hi]at h3
           refine decF hi ?_
           refine bindS k19 ?_
           refine eqT (congrArg Prod.fst h3) ?_
           refine eqT (congrArg Prod.snd h3) ?_
           exact bindS hK rfl
end
end Go.Skm.Prg
