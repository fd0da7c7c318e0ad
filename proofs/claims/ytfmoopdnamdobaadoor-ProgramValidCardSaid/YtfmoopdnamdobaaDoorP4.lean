import Derived.Test.YtfmoopdnamdobaaDoorP3
import Derived.Test.YtfmoopdnamdobaaDoorSkmG
namespace Go.Skm.Prg
open Go Go.Skm
def nmP (c:Int) (i:Nat):Prop:=(97≤c∧c≤122)∨(65≤c∧c≤90)∨(0<i∧((48≤c∧c≤57)∨c=45∨c=95))
instance (c:Int) (i:Nat):Decidable (nmP c i):=by unfold nmP;infer_instance
def ada (g:List UInt8) (i:Nat):Bool:=decide (nmP ((g.getD i 0).toNat:Int) i)
def IG (g:List UInt8):Nat→Nat→Bool
 | _,0=>true
 | i,n+1=>ada g i&&IG g (i+1) n
def okN (g:List UInt8):Bool:=decide (1≤g.length∧g.length≤32)&&IG g 0 g.length
theorem V7 (g:List UInt8) (i:Nat):(ba g).data.getD i 0=g.getD i 0:=by
 show g.toArray.getD i 0=_
 simp[]
section
variable (X:Ext) (hX:Mine X)
include hX
omit hX in
set_option maxHeartbeats 1000000 in
theorem Ze (g : List UInt8) (hg : g.length ≤ maxLen) : ∀ (n i : Nat),i + n = g.length →
    L tab (run tab X) 37 [] [.lp [1,0,1,0]] (dG (ba g) g.length i)=some ([.p (.bool (decide (1≤g.length∧g.length≤32)&&IG g i n))],[]):=by
  have hm:(maxLen:Int)=9223372036854775807:=by decide
  intro n
  induction n with
  | zero =>
   intro i hi
   refine dP ?_
   rw[Rt]
   simp only[aG,oh]
   rw[if_neg (by omega)]
   by_cases h:(g.length:Int) ≥ 1
   · have h':1≤g.length:=by omega
     rw[if_pos h]
     by_cases h2:g.length≤32
     · have h3:(g.length:Int)≤32:=by omega
       simp[h',h2,h3,IG]
     · have h3:¬ (g.length:Int)≤32:=by omega
       simp[h2,h3]
   · have h':¬ 1≤g.length:=by omega
     rw[if_neg h]
     simp[h']
  | succ n ih =>
   intro i hi
   have w:IntKind.i64.wrap ((i:Int)+1)=((i+1:Nat):Int):=by rw[wrap_eq (by omega) (by omega)];omega
   have ih':=ih (i+1) (by omega)
   have b1:(0:Int)≤(i:Int):=by omega
   have b2:(i:Int)<(g.length:Int):=by omega
   refine dP ?_
   rw[Rt]
   simp only[aG,dh,pR,oh,V7,Int.toNat_natCast,w,ih',if_pos b1,if_pos b2,IG,ada]
   generalize (((g.getD i 0).toNat:Nat):Int)=c
   by_cases hp:nmP c i
   · simp only[hp,decide_true,Bool.true_and]
     unfold nmP at hp
     repeat' split
     all_goals (first | rfl | (exfalso;omega))
   · simp only[hp,decide_false,Bool.false_and,Bool.and_false]
     unfold nmP at hp
     repeat' split
     all_goals (first | rfl | (exfalso;omega))
theorem c37 (g:List UInt8) (hg:g.length≤maxLen):run tab X 37 [.p (.str (ba g))] []=some ([.p (.bool (okN g))],[]) :=
 bn (hX _ rfl) (by
  rw[e37,oh]
  exact Ze X g hg g.length 0 (by omega))
omit hX in
set_option maxHeartbeats 2000000 in
theorem Zf (g : List UInt8) (hg : g.length ≤ maxLen) : ∀ (n i : Nat),i + n = g.length →
    L tab (run tab X) 41 [] [.lp [1,0,1,0]] (dH (ba g) i)=some ([.p (.bool (decide (1≤g.length∧g.length≤32)&&IG g i n))],[]):=by
  have hm:(maxLen:Int)=9223372036854775807:=by decide
  intro n
  induction n with
  | zero =>
   intro i hi
   refine dP ?_
   rw[Rw]
   simp only[aG,oh]
   rw[if_neg (by omega)]
   by_cases h:(g.length:Int) ≥ 1
   · have h':1≤g.length:=by omega
     rw[if_pos h]
     by_cases h2:g.length≤32
     · have h3:(g.length:Int)≤32:=by omega
       simp[h',h2,h3,IG]
     · have h3:¬ (g.length:Int)≤32:=by omega
       simp[h2,h3]
   · have h':¬ 1≤g.length:=by omega
     rw[if_neg h]
     simp[h']
  | succ n ih =>
   intro i hi
   have w:IntKind.i64.wrap ((i:Int)+1)=((i+1:Nat):Int):=by rw[wrap_eq (by omega) (by omega)];omega
   have ih':=ih (i+1) (by omega)
   have b1:(0:Int)≤(i:Int):=by omega
   have b2:(i:Int)<(g.length:Int):=by omega
   refine dP ?_
   rw[Rw]
   simp only[aG,dh,pR,pU,iR,oh,V7,Int.toNat_natCast,w,ih',if_pos b1,if_pos b2,IG,ada]
   generalize (((g.getD i 0).toNat:Nat):Int)=c
   by_cases hp:nmP c i
   · simp only[hp,decide_true,Bool.true_and]
     unfold nmP at hp
     repeat' split
     all_goals (first | rfl | (exfalso;omega))
   · simp only[hp,decide_false,Bool.false_and,Bool.and_false]
     unfold nmP at hp
     repeat' split
     all_goals (first | rfl | (exfalso;omega))
theorem c41 (g:List UInt8) (hg:g.length≤maxLen):run tab X 41 [.p (.str (ba g))] []=some ([.p (.bool (okN g))],[]) :=
 bn (hX _ rfl) (by
  rw[e41]
  exact Zf X g hg g.length 0 (by omega))
theorem c72 (a:V3) (m:Mv) (len:Int) (ha:pt a=true):run tab X 72 [.p (aT a),.p (eM m),.p (.int .i64 len)] []=some ([.p (.bool (lY a m len))],[]):=by
 obtain⟨a1,a2,a3⟩:=jS.1 ha
 have e1:(PV.agg [.int .i64 a.x,.int .i64 a.y,.int .i64 a.z])=aT a:=rfl
 have e2:(PV.agg [.int .i64 m.to.x,.int .i64 m.to.y,.int .i64 m.to.z])=aT m.to:=rfl
 have ex:=e72 (run tab X) a.x a.y a.z m.to.x m.to.y m.to.z m.wait m.fl m.rise len
 rw[e1,e2,Yo X hX,c71 X hX,c71 X hX,c71 X hX,eqV]at ex
 refine bn (hX _ rfl) ?_
 refine Eq.trans ex ?_
 simp only[Option.bind_some,List.headD_cons,gV,aI,iR]
 unfold lY
 cases h1:pt m.to with
 | false=>rfl
 | true =>
  obtain⟨t1,t2,t3⟩:=jS.1 h1
  cases h2:JC m.wait with
  | false=>rfl
  | true =>
   cases h3:JC m.fl with
   | false=>rfl
   | true =>
    cases h4:JC m.rise with
    | false=>rfl
    | true =>
     have g2:=kW.1 h2
     have g3:=kW.1 h3
     have g4:=kW.1 h4
     simp only[cond_true,Bool.true_and]
     rw[wrap_eq (by omega) (by omega),aG]
     by_cases h5:m.wait+m.fl≤len
     · rw[if_neg (by omega)]
       simp only[h5,decide_true,Bool.true_and]
       rw[pR]
       by_cases h6:m.fl=0
       · rw[if_pos h6,if_pos h6,aG]
         by_cases h7:m.to=a
         · rw[if_pos h7];simp[h7];exact Bool.eq_iff_iff.2 (by simp)
         · rw[if_neg h7];simp[h7]
       · rw[if_neg h6,if_neg h6,aG]
         by_cases h8:m.rise=0
         · rw[if_neg (by omega),if_pos h8]
         · rw[if_pos (by omega),if_neg h8,pR]
           by_cases h9:m.fl.tmod 4=0
           · rw[if_pos h9,c80 X hX a m.rise (by omega) (by omega),c80 X hX m.to m.rise (by omega) (by omega)]
             simp only[Option.bind_some,List.headD_cons,gV,aI,h9,decide_true,Bool.true_and]
             cases pt (up a m.rise)<;>rfl
           · rw[if_neg h9];simp[h9]
     · rw[if_pos (by omega)]
       simp[h5]
theorem c43 (a:V3) (m:Mv) (len:Int) (ha:pt a=true):run tab X 43 [.p (aT a),.p (eM m),.p (.int .i64 len)] []=some ([.p (.bool (lY a m len))],[]):=by
 have e1:(PV.agg [.int .i64 a.x,.int .i64 a.y,.int .i64 a.z])=aT a:=rfl
 have e2:(PV.agg [.int .i64 m.to.x,.int .i64 m.to.y,.int .i64 m.to.z])=aT m.to:=rfl
 have ex:=e43 (run tab X) a.x a.y a.z m.to.x m.to.y m.to.z m.wait m.fl m.rise len
 rw[e1,e2,c42 X hX,c62 X hX,c62 X hX,c62 X hX,eqV]at ex
 refine bn (hX _ rfl) ?_
 refine Eq.trans ex ?_
 simp only[Option.bind_some,List.headD_cons,gV,aI,iR]
 unfold lY
 cases h1:pt m.to with
 | false=>rfl
 | true =>
  cases h2:JC m.wait with
  | false=>rfl
  | true =>
   cases h3:JC m.fl with
   | false=>rfl
   | true =>
    cases h4:JC m.rise with
    | false=>rfl
    | true =>
     have g2:=kW.1 h2
     have g3:=kW.1 h3
     have g4:=kW.1 h4
     simp only[cond_true,Bool.true_and]
     rw[wrap_eq (by omega) (by omega),aG]
     by_cases h5:m.wait+m.fl≤len
     · rw[if_neg (by omega)]
       simp only[h5,decide_true,Bool.true_and]
       rw[pR]
       by_cases h6:m.fl=0
       · rw[if_pos h6,if_pos h6,aG]
         by_cases h7:m.to=a
         · rw[if_pos h7];simp[h7];exact Bool.eq_iff_iff.2 (by simp)
         · rw[if_neg h7];simp[h7]
       · rw[if_neg h6,if_neg h6,c63 X hX a m.rise g4.1 g4.2 ha,c63 X hX m.to m.rise g4.1 g4.2 h1]
         simp only[Option.bind_some,List.headD_cons,List.tail_cons,gV,aI]
         rw[pR]
         by_cases h8:m.rise=0
         · rw[if_pos h8,if_pos h8]
         · rw[if_neg h8,if_neg h8,pR]
           by_cases h9:m.fl.tmod 4=0
           · rw[if_pos h9]
             simp only[h9,decide_true,Bool.true_and]
             cases pt (up a m.rise)<;>rfl
           · rw[if_neg h9];simp[h9]
     · rw[if_pos (by omega)]
       simp[h5]
theorem c60 (a:V3) (m:Mv) (t len:Int) (hl:-9223372036854775808≤len∧len≤9223372036854775807):run tab X 60 [.p (aT a),.p (eM m),.p (.int .i64 t),.p (.int .i64 len)] []=some ([.fresh true iy (eP (mg a m t len).1),.p (.int .i64 (mg a m t len).2)],[]):=by
 have e1:(PV.agg [.int .i64 a.x,.int .i64 a.y,.int .i64 a.z])=aT a:=rfl
 have e2:(PV.agg [.int .i64 m.to.x,.int .i64 m.to.y,.int .i64 m.to.z,.int .i64 m.wait,.int .i64 m.fl,.int .i64 m.rise])=eM m:=rfl
 have ex:=e60 (run tab X) a.x a.y a.z m.to.x m.to.y m.to.z m.wait m.fl m.rise t len
 rw[e1,e2,Yo X hX,c71 X hX,c71 X hX]at ex
 refine bn (hX _ rfl) ?_
 refine Eq.trans ex ?_
 simp only[Option.bind_some,List.headD_cons,gV,aI,iR]
 unfold mg
 cases h1:pt a with
 | false=>rfl
 | true =>
  rw[cond_true,aG]
  by_cases h2:1≤len
  · rw[if_neg (by omega)]
    cases h3:JC len with
    | false=>simp;rfl
    | true =>
     cases h4:JC t with
     | false=>simp;rfl
     | true =>
      have g3:=kW.1 h3
      have g4:=kW.1 h4
      rw[c72 X hX a m len h1]
      simp only[Option.bind_some,List.headD_cons,gV,aI,cond_true]
      cases h5:lY a m len with
      | false=>simp;rfl
      | true =>
       rw[cond_true,wrap_eq (by omega) (by omega),c71 X hX]
       simp only[Option.bind_some,List.headD_cons,gV,aI,h2,decide_true,Bool.and_self,if_true]
       cases h6:JC (t+len) with
       | false=>rfl
       | true =>
        have g6:=kW.1 h6
        rw[cond_true,c73 X hX a m t len h1 h5 g4.1 g6.2]
        simp only[Option.bind_some,List.headD_cons,aV,gI,if_true]
  · rw[if_pos (by omega)]
    simp[h2];rfl
end
end Go.Skm.Prg
