/-
  Programs with as many aircraft and acts as are allowed, and more; condition: the document's examples, the library's answers.
-/
import Derived.Test.YtfmoopdnamdobaaDoorP13
import Derived.Test.YtfmoopdnamdobaaDoorEqu
namespace Go.Skm.Prg
open Go Go.Skm
section
variable (X:Ext) (hX:Mine X)
include hX
theorem l36n (p : Pg) (hp : Small p) (hh : p.homes.length = p.names.length) : ∀ (k i : Nat),i + k = p.names.length →
    L tab (run tab X) 36 [] [.lp [1,1,1,1,0,1,0]] (S36_1111010n (eN p.names) p.names.length i (eN p.names) (encL p.homes) (sN (p.names.take i)) (sH (p.homes.take i))) =
     some ([.p (.bool (crewF (p.names.take i) (p.homes.take i) (p.names.drop i) (p.homes.drop i)))],[]):=by
  have hn:=hp.names
  intro k
  induction k with
  | zero =>
   intro i hi
   refine L_of ?_
   rw[e36_1111010n,condD,if_neg (by omega),show p.names.drop i=[] from List.drop_eq_nil_iff.2 (by omega)]
   simp[crewF]
  | succ k ih =>
   intro i hi
   have h1:i<p.names.length:=by omega
   have h2:i<p.homes.length:=by omega
   have hg:=hp.name p.names[i] (List.getElem_mem h1)
   have e1:(PV.str (ba p.names[i])).cell 0=.str (ba p.names[i]):=rfl
   have e2:(PV.str (ba p.names[i])).toStr=ba p.names[i]:=rfl
   have e3:((encV p.homes[i]).cell 0).toInt=p.homes[i].x:=rfl
   have e4:((encV p.homes[i]).cell 1).toInt=p.homes[i].y:=rfl
   have e5:((encV p.homes[i]).cell 2).toInt=p.homes[i].z:=rfl
   have ev:(PV.agg [.int .i64 p.homes[i].x,.int .i64 p.homes[i].y,.int .i64 p.homes[i].z])=encV p.homes[i]:=rfl
   obtain⟨o,ho,hoc⟩:=find_sN p.names[i] (p.names.take i)
   obtain⟨q,hq,hqc⟩:=find_sH p.homes[i] (p.homes.take i)
   have hc:=c58 X hX p.homes[i]
   rw[encV]at hc
   refine L_of ?_
   rw[e36_1111010n,List.drop_eq_getElem_cons h1,List.drop_eq_getElem_cons h2,crewF]
   simp only[condA,condD,Int.toNat_natCast,eN_length,encL_length,eN_get p.names h1,encL_at p.homes h2,e1,e2,e3,e4,e5,key9,key31,ho,hq]
   rw[if_pos (by omega),if_pos (by omega),if_pos (by omega),c37 X hX _ (maxLen_1000 hg)]
   simp only[Option.bind_some,List.headD_cons,pv_p,toBool_bool,condO,Option.isSome_some,cond_true,Option.getD_some]
   cases okN p.names[i] with
   | false=>simp
   | true =>
    simp only[cond_true,Bool.true_and]
    rcases hoc with ⟨hm,j,rfl,hj⟩ | ⟨hm,rfl⟩
    · rw[at_sN (by simpa using hj)]
      simp[hm,kindOk]
    · have ek:mapAt (.bool false) (sN (p.names.take i)) none=.bool false:=rfl
      rw[ek]
      have ek2:kindOk .bool (.bool false)=true:=rfl
      simp only[ek2,cond_true,toBool_bool,cond_false,hm,decide_false,Bool.not_false,Bool.true_and]
      rw[if_pos (by omega),if_pos (by omega),hc]
      simp only[Option.bind_some,List.headD_cons,pv_p,toBool_bool]
      cases pt p.homes[i] with
      | false=>simp
      | true =>
       simp only[cond_true,Bool.true_and]
       rw[if_pos (by omega),if_pos (by omega)]
       rcases hqc with ⟨hm2,j,rfl,hj⟩ | ⟨hm2,rfl⟩
       · rw[at_sH (by simpa using hj)]
         simp[hm2,kindOk]
       · have ek3:mapAt (.bool false) (sH (p.homes.take i)) none=.bool false:=rfl
         rw[ek3]
         have hl:(sH (p.homes.take i)).length=i:=by simp;omega
         simp only[ek2,cond_true,toBool_bool,cond_false,hm2,decide_false,Bool.not_false,Bool.true_and,Option.getD_none,hl,mapPut,ev]
         rw[if_pos (by omega),if_pos (by omega)]
         have hs:((sH (p.homes.take i))++[(encV p.homes[i],PV.bool false)]).length=i+1:=by simp;omega
         have hg2:((sH (p.homes.take i))++[(encV p.homes[i],PV.bool false)]).getD i (.nil,.nil)=(encV p.homes[i],PV.bool false):=by
          have:=get_last (sH (p.homes.take i)) (encV p.homes[i],PV.bool false) (.nil,.nil)
          rwa[hl]at this
         have hst:((sH (p.homes.take i))++[(encV p.homes[i],PV.bool false)]).set i (encV p.homes[i],PV.bool true)=sH (p.homes.take (i+1)):=by
          have:=set_last (sH (p.homes.take i)) (encV p.homes[i],PV.bool false) (encV p.homes[i],PV.bool true)
          rw[hl]at this
          rw[this,sH_take _ h2]
         rw[hs,hg2,hst,sN_take _ h1,if_pos (by omega),if_pos (by omega),i64_succ i (by omega),ih (i+1) (by omega)]
         rw[List.take_succ_eq_append_getElem h1,List.take_succ_eq_append_getElem h2]
theorem c36n (p:Pg) (hp:Small p):run tab X 36 [.p (.agg [.list false [.str] (eN p.names),.list true kV3 (encL p.homes),.nil])] []=some ([.p (.bool (crewB p))],[]):=by
 refine run_of (hX _ rfl) ?_
 have hn:=hp.names
 have hh:=hp.homes
 rw[e36n]
 simp only[condD,condN,eN_length,encL_length]
 by_cases h1:1≤p.names.length
 · rw[if_neg (by omega)]
   by_cases h2:p.names.length≤64
   · rw[if_neg (by omega)]
     by_cases h3:p.homes.length=p.names.length
     · rw[if_pos (by omega),show ((0:Int))=((0:Nat):Int) from rfl]
       have:=l36n X hX p hp h3 p.names.length 0 (by omega)
       simp only[List.take_zero,List.drop_zero]at this
       have e0:([]:List (PV × PV))=sN []:=rfl
       have e1:([]:List (PV × PV))=sH []:=rfl
       refine(show L tab (run tab X) 36 [] [.lp [1,1,1,1,0,1,0]] (S36_1111010n (eN p.names) p.names.length (0:Nat) (eN p.names) (encL p.homes) (sN []) (sH []))=_ from this).trans ?_
       simp[crewB,h1,h2,h3]
     · rw[if_neg (by omega)]
       simp[crewB,h3]
   · rw[if_pos (by omega)]
     simp[crewB,h2]
 · rw[if_pos (by omega)]
   simp[crewB,h1]
theorem c10n (p:Pg) (hp:Small p) (ha:p.acts=[]):run tab X 10 [.p (.agg [.list false [.str] (eN p.names),.list true kV3 (encL p.homes),.nil])] []=some ([.p (.bool (validP p))],[]):=by
 refine run_of (hX _ rfl) ?_
 have hn:=hp.names
 rw[e10n,c36n X hX p hp]
 simp only[Option.bind_some,List.headD_cons,pv_p,toBool_bool,condA,condD,eN_length]
 rw[validP]
 cases hc:crewB p with
 | false=>simp
 | true =>
  simp only[Bool.not_true,cond_false]
  rw[if_pos (by omega),if_pos (by omega),if_pos (by omega)]
  refine(L_of (by rw[e10_1111010n,condD,if_neg (by omega)])).trans ?_
  simp[ha,actsF]
end
theorem andT {α:Type} {p q:Prop} {i:Decidable p} {j:Decidable q} {a b r:α} (hp:p) (hq:q) (h:a=r):cond (@decide p i&&@decide q j) a b=r:=by
 rw[decide_eq_true hp,decide_eq_true hq];exact h
def nmI (i:Nat):List UInt8:=[110,UInt8.ofNat (97+i / 26),UInt8.ofNat (97+i%26)]
def hmI (i:Nat):V3:=⟨i,0,0⟩
def stI (i:Nat):Mv:=⟨hmI i,0,0,0⟩
def bytI (i:Int):ByteArray:=(⟨#[110]⟩:ByteArray)++(bytesOf ([.int .u8 (IntKind.u8.wrap (IntKind.i64.wrap ((97:Int)+(IntKind.i64.wrap (i.tdiv (26:Int)))))),.int .u8 (IntKind.u8.wrap (IntKind.i64.wrap ((97:Int)+(i.tmod (26:Int)))))]:List PV))
theorem bytI_all:((List.range 67).all fun i=>(bytI (i:Int)).data.toList==nmI i)=true:=by decide +kernel
theorem bytI_eq {i:Nat} (h:i<67):bytI (i:Int)=ba (nmI i):=by
 have h1:=List.all_eq_true.1 bytI_all i (List.mem_range.2 h)
 have h2:(bytI (i:Int)).data.toList=nmI i:=by simpa using h1
 rw[← h2]
 unfold ba
 simp
def pgN (n:Nat):Pg:=⟨(List.range n).map nmI,(List.range n).map hmI,[]⟩
def acQ:Ac:=⟨[97],1,[stI 0]⟩
def acM (i:Nat):Ac:=⟨[97],6,[⟨⟨((i+1)%2:Nat),0,0⟩,1,4,1⟩]⟩
def pgQ (l:List Ac):Pg:=⟨[nmI 0],[hmI 0],l⟩
theorem valN:([58,59,60,61,62,63,64,65,66].all fun n=>validP (pgN n)==decide (n≤64))=true:=by decide +kernel
theorem valQ:([58,59,60,61,62,63,64,65,66].all fun n=>validP (pgQ (List.replicate n acQ))==decide (n≤60))=true:=by decide +kernel
theorem valM1:validP (pgQ ((List.range 51).map acM))=true:=by decide +kernel
theorem valM2:validP (pgQ ((List.range 52).map acM))=false:=by decide +kernel
theorem small_N {n:Nat} (h:n≤66):Small (pgN n):=by
 refine⟨by simp[pgN];omega,by simp[pgN];omega,by simp[pgN],fun a ha=>by simp[pgN]at ha,fun g hg=>?_⟩
 obtain⟨i,_,rfl⟩:=List.mem_map.1 hg
 simp[nmI]
theorem small_Q {l:List Ac} (h:l.length≤66) (ha:∀ a∈l,a=acQ∨∃ i,a=acM i):Small (pgQ l):=by
 refine⟨by simp[pgQ],by simp[pgQ],by simp[pgQ];omega,fun a h=>?_,fun g hg=>?_⟩
 · rcases ha a h with rfl | ⟨i,rfl⟩
   · simp[acQ]
   · simp[acM]
 · simp only[pgQ,List.mem_singleton]at hg
   subst hg
   simp[nmI]
section
variable (X:Ext) (hX:Mine X)
include hX
theorem l3b (hC : Clones X) (hK : Known X) (b0 b1 : List PV) (h0 : b0.take 1 = eN [nmI 0]) (h1 : b1.take 1 = encL [hmI 0]) (n : Nat) (hn : 58 ≤ n ∧ n ≤ 66) (sl : List PV) (hs : 1 ≤ sl.length ∧ sl.length ≤ 1000) (hs1 : sl.take 1 = eMs [stI 0]) : ∀ (k i : Nat),i + k = n → 1 ≤ i →
    L tab (run tab X) 3 [] [.lp [1,1,1,1,1,1,1,1,1,1,0,1,0]] (S3_1111111111010_s1 n sl i b0 b1 0 1 0 1 0 i 0 1 0 1 0 i ((i%2:Nat):Int) 0 0 (eAs (List.replicate i acQ)) (eAs ((List.range i).map acM)))=some ([.p (.bool true)],[]):=by
  intro k
  induction k with
  | zero =>
   intro i hi h1i
   have hin:i=n:=by omega
   subst hin
   have e1:(eAs (List.replicate i acQ)).length=i:=by rw[eAs_length];simp
   have e2:(eAs ((List.range i).map acM)).length=i:=by rw[eAs_length];simp
   have t1:((eAs (List.replicate i acQ)).drop 0).take i=eAs (List.replicate i acQ):=by
    rw[List.drop_zero,List.take_of_length_le (by omega)]
   have t2:∀ j,j≤i→((eAs ((List.range i).map acM)).drop (0+0)).take j=eAs ((List.range j).map acM):=fun j hj=>by
    rw[List.drop_zero,eAs,eAs,← List.map_take,← List.map_take,List.take_range,Nat.min_eq_left hj]
   have q1:=c10 X hX hC (pgQ (List.replicate i acQ)) (small_Q (by simp;omega) (fun a ha=>.inl (List.eq_of_mem_replicate ha)))
   have q2:=c10 X hX hC (pgQ ((List.range 51).map acM)) (small_Q (by simp) (fun a ha=>by obtain⟨j,_,rfl⟩:=List.mem_map.1 ha;exact .inr ⟨j,rfl⟩))
   have q3:=c10 X hX hC (pgQ ((List.range 52).map acM)) (small_Q (by simp) (fun a ha=>by obtain⟨j,_,rfl⟩:=List.mem_map.1 ha;exact .inr ⟨j,rfl⟩))
   have v1:validP (pgQ (List.replicate i acQ))=decide (i≤60):=by
    have:=List.all_eq_true.1 valQ i (by simp only[List.mem_cons,List.not_mem_nil,or_false];omega)
    simpa using this
   rw[v1]at q1
   rw[valM1]at q2
   rw[valM2]at q3
   have g:∀ l,eG (pgQ l)=.agg [.list false [.str] (eN [nmI 0]),.list true kV3 (encL [hmI 0]),.list true kAc (eAs l)]:=fun l=>rfl
   rw[g]at q1 q2 q3
   refine L_of ?_
   rw[e3_1111111111010_s1,condD,if_neg (by omega),t1,t2 51 (by omega),t2 52 (by omega),List.drop_zero,List.drop_zero,h0,h1]
   refine bindS q1 ?_
   refine notT ?_ ?_
   · simp only[List.headD_cons,pv_p,toBool_bool,leI]
     by_cases h:i≤60
     · rw[decide_eq_true h,decide_eq_true (show (i:Int)≤60 by omega)];rfl
     · rw[decide_eq_false h,decide_eq_false (show ¬ (i:Int)≤60 by omega)];rfl
   refine andT (by omega) (by omega) ?_
   refine bindS q2 ?_
   refine notT rfl ?_
   refine andT (by omega) (by omega) ?_
   refine bindS q3 ?_
   refine condF rfl ?_
   exact bindS hK rfl
  | succ k ih =>
   intro i hi h1i
   have e1:(eAs (List.replicate i acQ)).length=i:=by rw[eAs_length];simp
   have e2:(eAs ((List.range i).map acM)).length=i:=by rw[eAs_length];simp
   have t1:((eAs (List.replicate i acQ)).drop 0).take i=eAs (List.replicate i acQ):=by
    rw[List.drop_zero,List.take_of_length_le (by omega)]
   have t2:((eAs ((List.range i).map acM)).drop 0).take i=eAs ((List.range i).map acM):=by
    rw[List.drop_zero,List.take_of_length_le (by omega)]
   have hw:IntKind.i64.wrap ((1:Int)-((i%2:Nat):Int))=(((i+1)%2:Nat):Int):=by
    rw[wrap_eq (by omega) (by omega)];omega
   refine L_of ?_
   rw[e3_1111111111010_s1,condD,if_pos (by omega),t1,t2,List.drop_zero,hs1,hw,i64_succ i (by omega)]
   refine andT (by omega) (by omega) ?_
   refine decT (by omega) ?_
   refine bindS (c9 X hX _ _ _) ?_
   refine decT (by omega) ?_
   have a1:eAs (List.replicate i acQ)++[.agg [.str ⟨#[97]⟩,.int .i64 1,.list true kMv (eMs [stI 0])]]=eAs (List.replicate (i+1) acQ):=by
    rw[List.replicate_succ']
    simp only[eAs,List.map_append,List.map_cons,List.map_nil]
    rfl
   have a2:eAs ((List.range i).map acM)++[.agg [.str ⟨#[97]⟩,.int .i64 6,.list true kMv [.agg [.int .i64 (((i+1)%2:Nat):Int),.int .i64 0,.int .i64 0,.int .i64 1,.int .i64 4,.int .i64 1]]]]=eAs ((List.range (i+1)).map acM):=by
    rw[List.range_succ]
    simp only[eAs,List.map_append,List.map_cons,List.map_nil]
    rfl
   have:=ih (i+1) (by omega) (by omega)
   rw[← a1,← a2]at this
   exact this
theorem l3a (hC : Clones X) (hK : Known X) (n m : Nat) (hn : 58 ≤ n ∧ n ≤ 66) (hm : 58 ≤ m ∧ m ≤ 66) : ∀ (k i : Nat),i + k = n → 1 ≤ i →
    L tab (run tab X) 3 [] [.lp [1,1,1,1,0,1,0]] (S3_1111010_s1 n m 0 i i 0 i 0 i (eMs ((List.range i).map stI)) (eN ((List.range i).map nmI)) (encL ((List.range i).map hmI)))=some ([.p (.bool true)],[]):=by
  intro k
  induction k with
  | zero =>
   intro i hi h1i
   have hin:i=n:=by omega
   subst hin
   have t1:((eN ((List.range i).map nmI)).drop 0).take i=eN ((List.range i).map nmI):=by rw[List.drop_zero,List.take_of_length_le (by simp)]
   have t2:((encL ((List.range i).map hmI)).drop 0).take i=encL ((List.range i).map hmI):=by rw[List.drop_zero,List.take_of_length_le (by simp)]
   have t3:((eMs ((List.range i).map stI)).drop 0).take i=eMs ((List.range i).map stI):=by rw[List.drop_zero,List.take_of_length_le (by rw[eMs_length];simp)]
   have q1:=c10n X hX (pgN i) (small_N hn.2) rfl
   have v1:validP (pgN i)=decide (i≤64):=by
    have:=List.all_eq_true.1 valN i (by simp only[List.mem_cons,List.not_mem_nil,or_false];omega)
    simpa using this
   rw[v1]at q1
   obtain⟨j,rfl⟩:∃ j,i=j+1:=⟨i-1,by omega⟩
   refine L_of ?_
   rw[e3_1111010_s1,condD,if_neg (by omega),t1,t2,t3]
   refine bindS q1 ?_
   refine notT ?_ ?_
   · simp only[List.headD_cons,pv_p,toBool_bool,leI]
     by_cases h:j+1≤64
     · rw[decide_eq_true h,decide_eq_true (show ((j+1:Nat):Int)≤64 by omega)];rfl
     · rw[decide_eq_false h,decide_eq_false (show ¬ ((j+1:Nat):Int)≤64 by omega)];rfl
   refine andT (by omega) (by omega) ?_
   refine andT (by omega) (by omega) ?_
   refine bindS (c9 X hX _ _ _) ?_
   have z1:(eN ((List.range (j+1)).map nmI)).take 1=eN [nmI 0]:=by rw[List.range_succ_eq_map];rfl
   have z2:(encL ((List.range (j+1)).map hmI)).take 1=encL [hmI 0]:=by rw[List.range_succ_eq_map];rfl
   have z3:(eMs ((List.range (j+1)).map stI)).take 1=eMs [stI 0]:=by rw[List.range_succ_eq_map];rfl
   refine L_of ?_
   rw[e3_1111111111010,condD]
   refine(if_pos (by omega)).trans ?_
   rw[List.drop_zero,z3]
   have hsl:(eMs ((List.range (j+1)).map stI)).length=j+1:=by rw[eMs_length];simp
   refine andT (by rw[hsl];omega) (by omega) ?_
   refine bindS (c9 X hX _ _ _) ?_
   have:=l3b X hX hC hK (eN ((List.range (j+1)).map nmI)) (encL ((List.range (j+1)).map hmI)) z1 z2 m hm (eMs ((List.range (j+1)).map stI)) ⟨by omega,by omega⟩ z3 (m-1) 1 (by omega) (Nat.le_refl _)
   exact this
  | succ k ih =>
   intro i hi h1i
   have t1:((eN ((List.range i).map nmI)).drop 0).take i=eN ((List.range i).map nmI):=by rw[List.drop_zero,List.take_of_length_le (by simp)]
   have t2:((encL ((List.range i).map hmI)).drop 0).take i=encL ((List.range i).map hmI):=by rw[List.drop_zero,List.take_of_length_le (by simp)]
   have t3:((eMs ((List.range i).map stI)).drop 0).take i=eMs ((List.range i).map stI):=by rw[List.drop_zero,List.take_of_length_le (by rw[eMs_length];simp)]
   have hb:=bytI_eq (i:=i) (by omega)
   unfold bytI at hb
   refine L_of ?_
   rw[e3_1111010_s1,condD,if_pos (by omega),t1,t2,t3,hb]
   refine decT (by simp[bytesOf,ByteArray.size]) ?_
   refine decT (by omega) ?_
   refine bindS (c9 X hX _ _ _) ?_
   refine decT (by omega) ?_
   refine bindS (c9 X hX _ _ _) ?_
   refine decT (by omega) ?_
   have a1:eN ((List.range i).map nmI)++[.str (ba (nmI i))]=eN ((List.range (i+1)).map nmI):=by rw[List.range_succ];simp[eN]
   have a2:encL ((List.range i).map hmI)++[.agg [.int .i64 (i:Int),.int .i64 0,.int .i64 0]]=encL ((List.range (i+1)).map hmI):=by
    rw[List.range_succ];simp only[encL,List.map_append,List.map_cons,List.map_nil];rfl
   have a3:eMs ((List.range i).map stI)++[.agg [.int .i64 (i:Int),.int .i64 0,.int .i64 0,.int .i64 0,.int .i64 0,.int .i64 0]]=eMs ((List.range (i+1)).map stI):=by
    rw[List.range_succ];simp only[eMs,List.map_append,List.map_cons,List.map_nil];rfl
   have:=ih (i+1) (by omega) (by omega)
   rw[← a1,← a2,← a3]at this
   rw[i64_succ i (by omega)]
   exact this
theorem law3 (hC:Clones X) (hK:Known X) (n m:Int):run tab X 3 [.p (.int .i64 n),.p (.int .i64 m)] []=some ([.p (.bool true)],[]):=by
 refine run_of (hX _ rfl) ?_
 rw[e3]
 by_cases h1:n<58
 · refine decT h1 ?_
   exact bindS hK rfl
 refine decF h1 ?_
 by_cases h2:n > 66
 · refine decT h2 ?_
   exact bindS hK rfl
 refine decF h2 ?_
 by_cases h3:m<58
 · refine decT h3 ?_
   exact bindS hK rfl
 refine decF h3 ?_
 by_cases h4:m > 66
 · refine decT h4 ?_
   exact bindS hK rfl
 refine decF h4 ?_
 obtain⟨a,rfl⟩:∃ a:Nat,n=a:=⟨n.toNat,by omega⟩
 obtain⟨b,rfl⟩:∃ b:Nat,m=b:=⟨m.toNat,by omega⟩
 have hb:=bytI_eq (i:=0) (by omega)
 unfold bytI at hb
 rw[show ((0:Nat):Int)=0 from rfl]at hb
 refine L_of ?_
 rw[e3_1111010,condD]
 refine(if_pos (by omega)).trans ?_
 rw[hb]
 refine decT (by simp[bytesOf,ByteArray.size]) ?_
 refine bindS (c9 X hX _ _ _) ?_
 refine bindS (c9 X hX _ _ _) ?_
 refine decT (by omega) ?_
 exact l3a X hX hC hK a b (by omega) (by omega) (a-1) 1 (by omega) (Nat.le_refl _)
end
end Go.Skm.Prg
