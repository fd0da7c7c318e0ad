/-
  The document's word on a valid program is the program's; condition: a program of moderate size.
-/
import Derived.Test.YtfmoopdnamdobaaDoorP6
namespace Go.Skm.Prg
open Go Go.Skm
def frB {α:Type} [DecidableEq α] (x:α):List α→Bool
 | []=>true
 | y::l=>!decide (y=x)&&frB x l
theorem frB_drop {α:Type} [DecidableEq α] (x:α) (l:List α) {k:Nat} (h:k<l.length):frB x (l.drop k)=(!decide (l[k]=x)&&frB x (l.drop (k+1))):=by
 rw[List.drop_eq_getElem_cons h,frB]
theorem frB_iff {α:Type} [DecidableEq α] (x:α):∀ l:List α,frB x l=true↔x ∉ l
 | []=>by simp[frB]
 | y::l=>by
  rw[frB,Bool.and_eq_true,frB_iff x l]
  simp only[Bool.not_eq_true',decide_eq_false_iff_not,List.mem_cons,not_or]
  exact⟨fun ⟨h1,h2⟩=>⟨fun e=>h1 e.symm,h2⟩,fun ⟨h1,h2⟩=>⟨fun e=>h1 e.symm,h2⟩⟩
theorem pathR_of (a : V3) (m : Mv) (t len : Int) (ha : pt a = true) (h1 : 1 ≤ len) (h0 : 0 ≤ t) (h2 : t + len ≤ 3600000) :
    pathR a m t len=if validM a m len=true then(pathS a m t len,0) else([],2):=by
  have e1:tmB len=true:=tmB_iff.2 ⟨by omega,by omega⟩
  have e2:tmB t=true:=tmB_iff.2 ⟨by omega,by omega⟩
  have e3:tmB (t+len)=true:=tmB_iff.2 ⟨by omega,by omega⟩
  rw[pathR,ha,e1,e2,e3,decide_eq_true h1]
  simp
theorem validM_pt {a:V3} {m:Mv} {len:Int} (h:validM a m len=true):pt m.to=true:=by
 unfold validM at h
 rw[Bool.and_eq_true]at h
 exact h.1
theorem cnt_pt (t len:Int):∀ (vs:List V3) (ms:List Mv) (cs cs':List Int),vs.length=cs.length→ms.length=cs.length→cntF t len vs ms cs=some cs'→∀ w∈ms.map Mv.to,pt w=true
 | [],ms,[],cs',_,h2,_=>by
  have:ms=[]:=List.length_eq_zero_iff.1 (by simpa using h2)
  subst this;simp
 | v::vs,m::ms,c::cs,cs',h1,h2,h=>by
  simp only[cntF]at h
  split at h
  · next h0 =>
    split at h
    · obtain⟨w,hw,rfl⟩:=Option.map_eq_some_iff.1 h
      simp only[List.length_cons,Nat.add_right_cancel_iff]at h1 h2
      have ih:=cnt_pt t len vs ms cs w h1 h2 hw
      intro x hx
      simp only[List.map_cons,List.mem_cons]at hx
      rcases hx with rfl | hx
      · unfold pathR at h0
        split at h0
        · next h5 =>
          simp only[Bool.and_eq_true]at h5
          exact validM_pt h5.2.2.2.2
        · simp at h0
      · exact ih x hx
    · cases h
  · cases h
 | [],_,_::_,_,h,_,_=>by simp at h
 | _::_,[],_::_,_,_,h,_=>by simp at h
 | _::_,_,[],_,h,_,_=>by simp at h
theorem crewF_pt:∀ (gs:List (List UInt8)) (vs:List V3) (a:List (List UInt8)) (b:List V3),vs.length=gs.length→crewF a b gs vs=true→∀ v∈vs,pt v=true
 | [],[],_,_,_,_=>by simp
 | g::gs,v::vs,a,b,h,hc=>by
  simp only[crewF,Bool.and_eq_true]at hc
  simp only[List.length_cons,Nat.add_right_cancel_iff]at h
  intro w hw
  rcases List.mem_cons.1 hw with rfl | hw
  · exact hc.2.2.1
  · exact crewF_pt gs vs _ _ h hc.2.2.2.2 w hw
 | [],_::_,_,_,h,_=>by simp at h
 | _::_,[],_,_,h,_=>by simp at h
section
variable (X:Ext) (hX:Mine X)
include hX
theorem l15k (p : Pg) (hp : Small p) (hh : p.homes.length = p.names.length) (i : Nat) (hi : i < p.names.length) (r : List AV × List Blk) : ∀ (k j : Nat),j + k = i →
    (if (frB p.names[i] ((p.names.take i).drop j) && frB (p.homes[i]'(by omega)) ((p.homes.take i).drop j)) = true then
        L tab (run tab X) 15 [] [.lp [1,1,1,0,1,0]] (S15_111010 p.names.length ((i+1:Nat):Int) (eN p.names) (encL p.homes) (eAs p.acts)) else some ([.p (.bool false)],[]))=some r →
    L tab (run tab X) 15 [] [.lp [1,1,1,0,1,0],.lp [1,0,0,1,1,0]] (S15_111010_100110 p.names.length i j (eN p.names) (encL p.homes) (eAs p.acts))=some r:=by
  have _ := hX
  have hn:=hp.names
  have hi2:i<p.homes.length:=by omega
  intro k
  induction k with
  | zero =>
   intro j hj hr
   refine L_of ?_
   rw[← hr]
   rw[e15_111010_100110,condD,if_neg (by omega),i64_succ i (by omega),show (p.names.take i).drop j=[] from List.drop_eq_nil_iff.2 (by simp;omega),show (p.homes.take i).drop j=[] from List.drop_eq_nil_iff.2 (by simp;omega)]
   simp[frB]
  | succ k ih =>
   intro j hj hr
   have g1:j<p.names.length:=by omega
   have g2:j<p.homes.length:=by omega
   have e1:∀ x:List UInt8,(PV.str (ba x)).cell 0=.str (ba x):=fun _=>rfl
   have e2:∀ x:List UInt8,(PV.str (ba x)).toStr=ba x:=fun _=>rfl
   have e3:∀ v:V3,((encV v).cell 0).toInt=v.x:=fun _=>rfl
   have e4:∀ v:V3,((encV v).cell 1).toInt=v.y:=fun _=>rfl
   have e5:∀ v:V3,((encV v).cell 2).toInt=v.z:=fun _=>rfl
   have t1:j<(p.names.take i).length:=by simp;omega
   have t2:j<(p.homes.take i).length:=by simp;omega
   rw[frB_drop _ _ t1,frB_drop _ _ t2,List.getElem_take,List.getElem_take]at hr
   refine L_of ?_
   rw[← hr,e15_111010_100110]
   simp only[condA,condD,Int.toNat_natCast,eN_length,encL_length,eN_get p.names g1,eN_get p.names hi,encL_at p.homes g2,encL_at p.homes hi2,e1,e2,e3,e4,e5]
   rw[if_pos (by omega),if_pos (by omega),if_pos (by omega),if_pos (by omega),if_pos (by omega)]
   have hb:((ba p.names[j]).toList==(ba p.names[i]).toList)=decide (p.names[j]=p.names[i]):=by
    rw[ba_beq];simp only[ba_inj]
   rw[hb,condD]
   by_cases q1:p.names[j]=p.names[i]
   · rw[if_pos q1];simp[q1]
   · rw[if_neg q1,if_pos (by omega),if_pos (by omega),if_pos (by omega),if_pos (by omega)]
     have hv:=@eqV p.homes[j] p.homes[i]
     simp only[← condA]
     rw[hv,condD]
     by_cases q2:p.homes[j]=p.homes[i]
     · rw[if_pos q2];simp[q2]
     · rw[if_neg q2,i64_succ j (by omega),hr]
       refine ih (j+1) (by omega) ?_
       rw[← hr]
       simp[q1,q2]
theorem l15n (p : Pg) (hp : Small p) (hh : p.homes.length = p.names.length) (r : List AV × List Blk) : ∀ (k i : Nat),i + k = p.names.length →
    (if crewF (p.names.take i) (p.homes.take i) (p.names.drop i) (p.homes.drop i) = true then
        L tab (run tab X) 15 [] [.lp [1,1,1,1,1,1,0,1,0]] (S15_111111010 p.names.length 0 0 p.names.length 0 (eN p.names) (encL p.homes) (eAs p.acts) (encI (List.replicate p.names.length 0))) else some ([.p (.bool false)],[]))=some r →
    L tab (run tab X) 15 [] [.lp [1,1,1,0,1,0]] (S15_111010 p.names.length i (eN p.names) (encL p.homes) (eAs p.acts))=some r:=by
  have hn:=hp.names
  intro k
  induction k with
  | zero =>
   intro i hi hr
   refine L_of ?_
   rw[← hr]
   rw[e15_111010]
   simp only[condD,condA,Int.toNat_natCast,encI_rep]
   rw[if_neg (by omega),show p.names.drop i=[] from List.drop_eq_nil_iff.2 (by omega),if_pos (by omega),if_pos (by omega),if_pos (by omega)]
   simp[crewF]
  | succ k ih =>
   intro i hi hr
   have h1:i<p.names.length:=by omega
   have h2:i<p.homes.length:=by omega
   have hg:=hp.name p.names[i] (List.getElem_mem h1)
   have e1:(PV.str (ba p.names[i])).cell 0=.str (ba p.names[i]):=rfl
   have e2:(PV.str (ba p.names[i])).toStr=ba p.names[i]:=rfl
   have e3:((encV p.homes[i]).cell 0).toInt=p.homes[i].x:=rfl
   have e4:((encV p.homes[i]).cell 1).toInt=p.homes[i].y:=rfl
   have e5:((encV p.homes[i]).cell 2).toInt=p.homes[i].z:=rfl
   have hc:=c42 X hX p.homes[i]
   rw[encV]at hc
   rw[List.drop_eq_getElem_cons h1,List.drop_eq_getElem_cons h2,crewF]at hr
   refine L_of ?_
   rw[← hr,e15_111010]
   simp only[condA,condD,Int.toNat_natCast,eN_length,encL_length,eN_get p.names h1,encL_at p.homes h2,e1,e2,e3,e4,e5]
   rw[if_pos (by omega),if_pos (by omega),if_pos (by omega),c41 X hX _ (maxLen_1000 hg)]
   simp only[Option.bind_some,List.headD_cons,pv_p,toBool_bool,condO]
   cases ho:okN p.names[i] with
   | false=>simp
   | true =>
    rw[ho]at hr
    simp only[cond_true,Bool.true_and]
    rw[if_pos (by omega),if_pos (by omega),hc]
    simp only[Option.bind_some,List.headD_cons,pv_p,toBool_bool]
    cases ht:pt p.homes[i] with
    | false=>simp
    | true =>
     rw[ht]at hr
     simp only[cond_true,Bool.true_and]
     simp only[Bool.true_and]at hr
     rw[hr]
     refine(show L tab (run tab X) 15 [] [.lp [1,1,1,0,1,0],.lp [1,0,0,1,1,0]] (S15_111010_100110 p.names.length i (0:Nat) (eN p.names) (encL p.homes) (eAs p.acts))=_ from l15k X hX p hp hh i h1 r i 0 (by omega) ?_)
     simp only[List.drop_zero]
     by_cases q1:p.names[i]∈p.names.take i
     · rw[← hr,if_neg (by rw[Bool.and_eq_true,frB_iff];exact fun h=>h.1 q1)];simp[q1]
     · by_cases q2:p.homes[i]∈p.homes.take i
       · rw[← hr,if_neg (by rw[Bool.and_eq_true,frB_iff,frB_iff];exact fun h=>h.2 q2)];simp[q2]
       · rw[(frB_iff _ _).2 q1,(frB_iff _ _).2 q2,Bool.and_self,if_pos rfl]
         refine ih (i+1) (by omega) ?_
         rw[← hr,List.take_succ_eq_append_getElem h1,List.take_succ_eq_append_getElem h2]
         simp[q1,q2]
theorem l15r (p : Pg) (n : Nat) (hn : n ≤ 64) (t len : Int) (h0 : 0 ≤ t) (hl : 1 ≤ len) (ht : t + len ≤ 3600000) (a' : Int) (ab0 : ByteArray) (fs : List V3) (ns : List Mv) (hfs : fs.length = n) (hns : ns.length = n) (hpt : ∀ v ∈ fs,pt v = true) (r : List AV × List Blk) : ∀ (k i : Nat) (cs done : List Int),i + k = n → done.length = i → cs.length = k → (∀ c ∈ cs,0 ≤ c ∧ c ≤ 256) →
    ((cntF t len (fs.drop i) (ns.drop i) cs).elim (some ([.p (.bool false)],[])) fun cs'=>L tab (run tab X) 15 [] [.lp [1,1,1,1,1,1,0,1,0]] (S15_111111010 n (IntKind.i64.wrap (t+len)) 0 n (IntKind.i64.wrap (a'+1)) (eN p.names) (encL p.homes) (eAs p.acts) (encI (done++cs'))))=some r →
    L tab (run tab X) 15 [] [.lp [1,1,1,1,1,1,0,1,0],.lp [1,0,0,1,1,1,0,1,0]] (S15_111111010_100111010 n t 0 n a' 0 n i (eN p.names) (encL p.homes) (eAs p.acts) (encI (done++cs)) ab0 len (eMs ns) (encL fs))=some r:=by
  intro k
  induction k with
  | zero =>
   intro i cs done hi hd hc h4 hr
   have:cs=[]:=List.length_eq_zero_iff.1 hc
   subst this
   refine L_of ?_
   rw[← hr,e15_111111010_100111010,condD,if_neg (by omega),show fs.drop i=[] from List.drop_eq_nil_iff.2 (by omega),cntF]
   · simp
   · simp
  | succ k ih =>
   intro i cs done hi hd hc h4 hr
   cases cs with
   | nil=>simp at hc
   | cons c cs =>
    subst hd
    have g1:done.length<fs.length:=by omega
    have g2:done.length<ns.length:=by omega
    simp only[List.length_cons,Nat.add_right_cancel_iff]at hc
    have hcc:=h4 c (by simp)
    have hpa:=hpt fs[done.length] (List.getElem_mem g1)
    have hdl:done.length<(done++c::cs).length:=by simp
    have hgc:(done++c::cs)[done.length]=c:=by simp
    have e1:∀ x:Int,(PV.int .i64 x).cell 0=.int .i64 x:=fun _=>rfl
    have hw:∀ x:Nat,x≤5→IntKind.i64.wrap (c+(x:Int))=c+(x:Int):=fun x hx=>wrap_eq (by omega) (by omega)
    have hset:∀ y:Int,(encI (done++c::cs)).set done.length (.int .i64 y)=encI ((done++[y])++cs):=fun y=>by
     rw[encI_set,mid_set]
    have hg2:∀ x:Int,(encI ((done++[x])++cs)).getD done.length .nil=.int .i64 x:=fun x=>by
     rw[encI_at _ (by simp)];simp
    have hg1:(encI (done++c::cs)).getD done.length .nil=.int .i64 c:=by
     rw[encI_at _ hdl,hgc]
    have ev:(PV.agg [.int .i64 ((encV fs[done.length]).cell 0).toInt,.int .i64 ((encV fs[done.length]).cell 1).toInt,.int .i64 ((encV fs[done.length]).cell 2).toInt])=encV fs[done.length]:=rfl
    have em:(PV.agg [.int .i64 ((eM ns[done.length]).cell 0).toInt,.int .i64 ((eM ns[done.length]).cell 1).toInt,.int .i64 ((eM ns[done.length]).cell 2).toInt,.int .i64 ((eM ns[done.length]).cell 3).toInt,.int .i64 ((eM ns[done.length]).cell 4).toInt,.int .i64 ((eM ns[done.length]).cell 5).toInt])=eM ns[done.length]:=rfl
    rw[List.drop_eq_getElem_cons g1,List.drop_eq_getElem_cons g2,cntF,pathR_of _ _ _ _ hpa hl h0 ht]at hr
    refine L_of ?_
    rw[← hr,e15_111111010_100111010]
    simp only[condA,condD,Int.toNat_natCast,Nat.zero_add,encL_at fs g1,eMs_get ns g2,ev,em,eMs_length,hg1,e1,toInt_int]
    rw[if_pos (by omega),if_pos (by omega),if_pos (by omega),if_pos (by omega),if_pos (by omega),c43 X hX _ _ _ hpa]
    simp only[Option.bind_some,List.headD_cons,pv_p,toBool_bool,condO]
    cases hv:validM fs[done.length] ns[done.length] len with
    | false=>simp
    | true =>
     have hpl:=path_len fs[done.length] ns[done.length] t len
     simp only[cond_true,if_true]
     rw[if_pos (by omega),if_pos (by omega),if_pos (by omega),if_pos (by omega),if_pos (by omega),if_pos (by omega),c44 X hX _ _ _ _ hpa hv h0 ht]
     simp only[Option.bind_some,List.headD_cons,freshList_fresh,eP_length,hw _ hpl,hset,hg2,e1,toInt_int]
     rw[if_pos (by omega),if_pos (by omega),if_pos (by omega),if_pos (by omega)]
     by_cases hb:c+((pathS fs[done.length] ns[done.length] t len).length:Int)≤256
     · rw[if_neg (by omega),if_pos hb,i64_succ _ (by omega)]
       have:=ih (done.length+1) cs (done++[c+((pathS fs[done.length] ns[done.length] t len).length:Int)]) (by omega) (by simp) (by omega) (fun x hx=>h4 x (by simp[hx]))
       rw[hv,if_pos rfl,if_pos rfl,if_pos hb]at hr
       rw[hr]
       refine this ?_
       rw[← hr]
       cases cntF t len (fs.drop (done.length+1)) (ns.drop (done.length+1)) cs with
       | none=>rfl
       | some w=>simp
     · rw[if_pos (by omega),if_neg hb]
       rfl
theorem l15 (p : Pg) (hp : Small p) : ∀ (k i : Nat) (t : Int) (many : List Int),i + k = p.acts.length → many.length = p.names.length → p.names.length ≤ 64 → (formP p i).length = p.names.length → (∀ v ∈ formP p i,pt v = true) → (∀ c ∈ many,0 ≤ c ∧ c ≤ 256) → 0 ≤ t → t ≤ 3600000 →
    L tab (run tab X) 15 [] [.lp [1,1,1,1,1,1,0,1,0]] (S15_111111010 p.names.length t 0 p.names.length i (eN p.names) (encL p.homes) (eAs p.acts) (encI many)) =
     some ([.p (.bool (actsF p.names.length t (formP p i) many (p.acts.drop i)))],[]):=by
  have ha:=hp.acts
  intro k
  induction k with
  | zero =>
   intro i t many hi _ _ _ _ _ _ _
   refine L_of ?_
   rw[e15_111111010,condD,eAs_length,if_neg (by omega),show p.acts.drop i=[] from List.drop_eq_nil_iff.2 (by omega)]
   simp[actsF]
  | succ k ih =>
   intro i t many hi hm hn hf hpt hc ht0 ht1
   have hlt:i<p.acts.length:=by omega
   obtain⟨q1,q2,q3⟩:=hp.act p.acts[i] (List.getElem_mem hlt)
   have e1:((eA p.acts[i]).cell 0).toStr=ba p.acts[i].name:=rfl
   have e2:((eA p.acts[i]).cell 1).toInt=p.acts[i].len:=rfl
   have e3:((eA p.acts[i]).cell 2).toList=eMs p.acts[i].mvs:=rfl
   have h17:=c17 X hX p hp i (by omega)
   rw[eG]at h17
   refine L_of ?_
   rw[e15_111111010,List.drop_eq_getElem_cons hlt,actsF]
   simp only[condA,condD,condN,Int.toNat_natCast,eAs_length,eAs_get p.acts hlt,e1,e2,e3,eMs_length]
   rw[if_pos (by omega),if_pos (by omega),if_pos (by omega),c41 X hX _ (maxLen_1000 q2)]
   simp only[Option.bind_some,List.headD_cons,pv_p,toBool_bool,condO]
   cases okN p.acts[i].name with
   | false=>simp
   | true =>
    simp only[cond_true,Bool.true_and]
    by_cases h1:1≤p.acts[i].len
    · rw[if_neg (by omega),wrap_eq (by omega) (by omega)]
      by_cases h2:p.acts[i].len≤3600000-t
      · rw[if_neg (by omega)]
        by_cases h3:p.acts[i].mvs.length=p.names.length
        · rw[if_pos (by omega),h17]
          simp only[Option.bind_some,List.headD_cons,freshList_fresh,encL_length]
          have hfs:formP p (i+1)=p.acts[i].mvs.map Mv.to:=by rw[formP,acts_getD p hlt]
          rw[hf]
          refine(show L tab (run tab X) 15 [] [.lp [1,1,1,1,1,1,0,1,0],.lp [1,0,0,1,1,1,0,1,0]] (S15_111111010_100111010 p.names.length t 0 p.names.length i 0 p.names.length (0:Nat) (eN p.names) (encL p.homes) (eAs p.acts) (encI ([]++many)) (ba p.acts[i].name) p.acts[i].len (eMs p.acts[i].mvs) (encL (formP p i)))=_ from l15r X hX p p.names.length hn t p.acts[i].len ht0 h1 (by omega) i (ba p.acts[i].name) (formP p i) p.acts[i].mvs hf h3 hpt _ p.names.length 0 many [] (by omega) rfl hm hc ?_)
          simp only[List.drop_zero]
          cases hq:cntF t p.acts[i].len (formP p i) p.acts[i].mvs many with
          | none=>simp[h1,h2]
          | some w =>
           have hwl:=cnt_len _ _ _ _ _ _ (by omega) (by omega) hq
           have hwc:=cnt_le _ _ _ _ _ _ hc hq
           have hwp:=cnt_pt _ _ _ _ _ _ (by omega) (by omega) hq
           simp only[List.nil_append,Option.elim_some]
           rw[wrap_eq (x:=t+p.acts[i].len) (by omega) (by omega),i64_succ i (by omega),ih (i+1) (t+p.acts[i].len) w (by omega) (by omega) hn (by rw[hfs];simp;omega) (by rw[hfs];exact hwp) hwc (by omega) (by omega),hfs]
           simp[h1,h2,h3]
        · rw[if_neg (by omega)]
          simp[h3]
      · rw[if_pos (by omega)]
        simp[h2]
    · rw[if_pos (by omega)]
      simp[h1]
theorem c15 (p:Pg) (hp:Small p):run tab X 15 [.p (eG p)] []=some ([.p (.bool (validP p))],[]):=by
 refine run_of (hX _ rfl) ?_
 have hn:=hp.names
 have hh:=hp.homes
 rw[eG,e15]
 simp only[condD,condN,eN_length,encL_length,eAs_length]
 rw[validP,crewB]
 by_cases h1:1≤p.names.length
 · rw[if_neg (by omega)]
   by_cases h2:p.names.length≤64
   · rw[if_neg (by omega)]
     by_cases h3:p.homes.length=p.names.length
     · rw[if_pos (by omega)]
       by_cases h4:p.acts.length≤60
       · rw[if_neg (by omega)]
         refine(show L tab (run tab X) 15 [] [.lp [1,1,1,0,1,0]] (S15_111010 p.names.length (0:Nat) (eN p.names) (encL p.homes) (eAs p.acts))=_ from l15n X hX p hp h3 _ p.names.length 0 (by omega) ?_)
         simp only[List.take_zero,List.drop_zero]
         cases hc:crewF [] [] p.names p.homes with
         | false=>simp
         | true =>
          rw[if_pos rfl]
          have hpt:=crewF_pt _ _ _ _ (by omega) hc
          have:=l15 X hX p hp p.acts.length 0 0 (List.replicate p.names.length 0) (by omega) (by simp) h2 h3 hpt (by intro c hc;rw[List.mem_replicate]at hc;omega) (by omega) (by omega)
          refine(show L tab (run tab X) 15 [] [.lp [1,1,1,1,1,1,0,1,0]] (S15_111111010 p.names.length 0 0 p.names.length (0:Nat) (eN p.names) (encL p.homes) (eAs p.acts) (encI (List.replicate p.names.length 0)))=_ from this).trans ?_
          simp[h1,h2,h3,h4,formP]
       · rw[if_pos (by omega)]
         simp[h4]
     · rw[if_neg (by omega)]
       simp[h3]
   · rw[if_pos (by omega)]
     simp[h2]
 · rw[if_pos (by omega)]
   simp[h1]
end
end Go.Skm.Prg
