import Derived.Test.YtoheflpoanjihaaGreatR4
namespace Go.Skm.Fen
open Go Go.Skm Go.Skm.Dig
def eI (z:Int):PV:=.agg [.bool (decide (z<0)),.list false kI (nI z.natAbs)]
theorem Ak (z:Int):PV.agg [.bool (((eI z).cell 0).toBool),.list false kI (((eI z).cell 1).toList)]=eI z:=rfl
def SX (z:Int) (k:Nat):Prop:=(bK B9 z.natAbs).length≤k
section
variable (X:Ext) (hX:Mine X)
include hX
theorem c131 (neg:Bool) (m:Nat):run tab X 131 [.p (.bool neg),.p (.list false kI (nI m))] []=some ([.p (eI (if neg then -(m:Int) else m))],[]) :=
 bF (hX _ rfl) (by
  rw[amq,eI];cases neg with
  | true =>
   rw[cond_true,if_pos rfl,Int.natAbs_neg,Int.natAbs_natCast,dI];have e:kX ((bK B9 m).length:Int) 0=decide (-(m:Int)<0):=decide_eq_decide.2 (by
    constructor
    · intro h;rcases Nat.eq_zero_or_pos m with h2 | h2
      · subst h2;rw[gq]at h;simp at h
      · omega
    · intro h;have:bK B9 m≠[]:=fun h2=>by have:=(sD b9).1 h2;omega
      have:=List.length_pos_iff.2 this;omega)
   rw[e]
  | false =>rw[cond_false,if_neg (by decide),Int.natAbs_natCast,decide_eq_false (show ¬ (m:Int)<0 by omega)])
theorem aoo (x y:Int) (hx:SX x 10000000) (hy:SX y 10000000):run tab X 142 [.p (eI x),.p (eI y)] []=some ([.p (eI (x+y))],[]) :=
 bF (hX _ rfl) (by
  have hx':(bK B9 x.natAbs).length≤10000000:=hx;have hy':(bK B9 y.natAbs).length≤10000000:=hy;rw[eI,eI,amx];by_cases h:decide (x<0)=decide (y<0)
  · rw[show (decide (x<0)==decide (y<0))=true by simp[h],cond_true,aom X hX _ _ (by omega) (by omega)];simp only[Option.bind_some,List.headD_cons,dM,List.drop_zero,List.take_length];rw[c131 X hX];simp only[Option.bind_some,List.headD_cons,dA,Ak];congr 5;by_cases h1:x<0
    · have h2:y<0:=by simpa [h1] using h
      simp[h1];omega
    · have h2:¬ y<0:=by simpa [h1] using h
      simp[h1];omega
  · rw[show (decide (x<0)==decide (y<0))=false by simp[h],cond_false,aon X hX _ _ (by omega) (by omega)];simp only[Option.bind_some,List.headD_cons,dA,toInt_int];by_cases hge:y.natAbs≤x.natAbs
    · refine fF (Int.not_lt.1 fun h3=>absurd ((XU _ _).1 h3) (by omega)) ?_;rw[c175 X hX _ _ (iok _) (iok _) (by omega) (Ug hge) (by rw[ival,ival];exact hge),ival,ival];simp only[Option.bind_some,List.headD_cons,dM,List.drop_zero,List.take_length];rw[c131 X hX];simp only[Option.bind_some,List.headD_cons,dA,Ak];congr 5;by_cases h1:x<0
      · have h2:¬ y<0:=by simpa [h1] using h
        simp[h1];omega
      · have h2:y<0:=by simpa [h1] using h
        simp[h1];omega
    · refine dO (fun h3=>absurd ((XU x.natAbs y.natAbs).2 (by omega)) (by omega)) ?_;rw[c175 X hX _ _ (iok _) (iok _) (by omega) (Ug (by omega)) (by rw[ival,ival];omega),ival,ival];simp only[Option.bind_some,List.headD_cons,dM,List.drop_zero,List.take_length];rw[c131 X hX];simp only[Option.bind_some,List.headD_cons,dA,Ak];congr 5;by_cases h1:y<0
      · have h2:¬ x<0:=fun h3=>h (by simp[h1,h3]);simp[h1];omega
      · have h2 : x < 0 := by
          by_cases h3:x<0
          · exact h3
          · exact absurd (by simp[h1,h3]) h
        simp[h1];omega)
end
end Go.Skm.Fen
namespace Go.Skm.Fen
open Go Go.Skm Go.Skm.Dig
theorem ajv (z:Int):eI z=PV.agg [PV.bool (decide (z<0)),PV.list false kI (nI z.natAbs)]:=rfl
section
variable (X:Ext) (hX:Mine X)
include hX
end
end Go.Skm.Fen
