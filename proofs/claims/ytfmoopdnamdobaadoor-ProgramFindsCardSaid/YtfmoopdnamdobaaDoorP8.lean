/-
  Few parts; formations, acts at a time and names that are found, in the program and in the document; condition: zs said.
-/
import Derived.Test.YtfmoopdnamdobaaDoorP7
namespace Go.Skm.Prg
open Go Go.Skm
structure Fits (p:Pg):Prop where
 names:p.names.length≤9223372036854775807
 homes:p.homes.length≤9223372036854775807
 acts:p.acts.length≤9223372036854775807
 len:∀ a∈p.acts,-9223372036854775808≤a.len∧a.len≤9223372036854775807
def fewB (p:Pg) (n m:Nat):Bool:=decide (p.names.length≤n)&&(decide (p.homes.length≤n)&&(decide (p.acts.length≤m)&&(p.names.all (fun g=>decide (g.length≤60))&&p.acts.all fun a=>decide (a.name.length≤60)&&decide (a.mvs.length≤n+2))))
theorem few_small {p:Pg} {n m:Nat} (hn:n≤98) (hm:m≤100) (hf:Fits p) (h:fewB p n m=true):Small p:=by
 simp only[fewB,Bool.and_eq_true,decide_eq_true_eq,List.all_eq_true]at h
 obtain⟨h1,h2,h3,h4,h5⟩:=h
 exact⟨by omega,by omega,by omega,fun a ha=>⟨by have:=(h5 a ha).2;omega,by have:=(h5 a ha).1;omega,hf.len a ha⟩,fun g hg=>by have:=h4 g hg;omega⟩
def lenR:List Ac→Int
 | []=>0
 | a::r=>a.len+lenR r
def lenP (p:Pg):Int:=lenR p.acts
theorem actsF_of (n:Nat):∀ (zs:List Ac) (t:Int) (fr:List V3) (many:List Int),t≤3600000→actsF n t fr many zs=true→(∀ a∈zs,okN a.name=true∧1≤a.len∧a.mvs.length=n)∧t+lenR zs≤3600000
 | [],t,fr,many,ht,_=>⟨by simp,by simp[lenR,ht]⟩
 | a::r,t,fr,many,ht,h=>by
  simp only[actsF,Bool.and_eq_true,decide_eq_true_eq]at h
  obtain⟨h1,h2,h3,h4,h5⟩:=h
  cases hq:cntF t a.len fr a.mvs many with
  | none=>rw[hq]at h5;cases h5
  | some w =>
   rw[hq]at h5
   obtain⟨i1,i2⟩:=actsF_of n r _ _ _ (by omega) h5
   refine⟨fun b hb=>?_,by simp only[lenR];omega⟩
   rcases List.mem_cons.1 hb with rfl | hb
   · exact⟨h1,h2,h4⟩
   · exact i1 b hb
theorem valid_of {p:Pg} (h:validP p=true):(1≤p.names.length∧p.names.length≤64∧p.homes.length=p.names.length)∧p.acts.length≤60∧(∀ a∈p.acts,okN a.name=true∧1≤a.len∧a.mvs.length=p.names.length)∧lenP p≤3600000:=by
 simp only[validP,Bool.and_eq_true,decide_eq_true_eq]at h
 obtain⟨h1,h2,h3⟩:=h
 obtain⟨h4,h5⟩:=actsF_of _ _ _ _ _ (by omega) h3
 exact⟨crew_len h1,h2,h4,by rw[lenP];omega⟩
theorem lenR_nonneg:∀ zs:List Ac,(∀ a∈zs,1≤a.len)→(zs.length:Int)≤lenR zs
 | [],_=>by simp[lenR]
 | a::r,h=>by
  have:=lenR_nonneg r (fun b hb=>h b (by simp[hb]))
  have:=h a (by simp)
  simp only[lenR,List.length_cons];omega
theorem lenR_drop (zs:List Ac) {i:Nat} (h:i<zs.length):lenR (zs.drop i)=zs[i].len+lenR (zs.drop (i+1)):=by
 rw[List.drop_eq_getElem_cons h,lenR]
def formR (p:Pg) (k:Int):List V3 × Int:=if validP p then(if 0≤k∧k≤p.acts.length then(formP p k.toNat,0) else([],3)) else([],2)
def actR (t:Int):Nat→Int→List Ac→Int × Int × Int
 | _,_,[]=>(0,0,3)
 | k,f,[a]=>if t≤f+a.len then(k,f,0) else(0,0,3)
 | k,f,a::b::r=>if t<f+a.len then(k,f,0) else actR t (k+1) (f+a.len) (b::r)
def actV (p:Pg) (t:Int):Int × Int × Int:=if validP p then(if 0≤t then actR t 0 0 p.acts else(0,0,3)) else(0,0,2)
def idxN (g:List UInt8):Nat→List (List UInt8)→Int
 | _,[]=>-1
 | i,x::r=>if x=g then(i:Int) else idxN g (i+1) r
def findR (p:Pg) (g:List UInt8):Int × Int:=if validP p then(if idxN g 0 p.names<0 then(0,9) else(idxN g 0 p.names,0)) else(0,2)
theorem actR_far (t:Int):∀ (zs:List Ac) (k:Nat) (f:Int),(∀ a∈zs,1≤a.len)→f+lenR zs<t→actR t k f zs=(0,0,3)
 | [],_,_,_,_=>rfl
 | [a],k,f,h,ht=>by
  simp only[lenR]at ht
  rw[actR,if_neg (by omega)]
 | a::b::r,k,f,h,ht=>by
  have hn:=lenR_nonneg (b::r) (fun c hc=>h c (by simp only[List.mem_cons]at hc ⊢;exact .inr hc))
  have h2:lenR (a::b::r)=a.len+lenR (b::r):=rfl
  simp only[List.length_cons]at hn
  rw[actR,if_neg (by omega)]
  exact actR_far t (b::r) (k+1) (f+a.len) (fun c hc=>h c (by simp only[List.mem_cons]at hc ⊢;exact .inr hc)) (by omega)
section
variable (X:Ext) (hX:Mine X)
include hX
theorem l11b (p : Pg) (hf : Fits p) (n : Nat) (hn : n ≤ 1000) : ∀ (k i : Nat),i + k = p.acts.length →
    L tab (run tab X) 11 [] [.lp [1,1,1,0,1,0]] (S11_111010 n i (eN p.names) (encL p.homes) (eAs p.acts))=some ([.p (.bool ((p.acts.drop i).all fun a=>decide (a.name.length≤60)&&decide (a.mvs.length≤n+2)))],[]):=by
  have _ := hX
  have ha:=hf.acts
  intro k
  induction k with
  | zero =>
   intro i hi
   refine L_of ?_
   rw[e11_111010,condD,eAs_length,if_neg (by omega),show p.acts.drop i=[] from List.drop_eq_nil_iff.2 (by omega)]
   simp
  | succ k ih =>
   intro i hi
   have hlt:i<p.acts.length:=by omega
   have e1:((eA p.acts[i]).cell 0).toStr=ba p.acts[i].name:=rfl
   have e3:((eA p.acts[i]).cell 2).toList=eMs p.acts[i].mvs:=rfl
   refine L_of ?_
   rw[e11_111010,List.drop_eq_getElem_cons hlt]
   simp only[condA,condD,Int.toNat_natCast,eAs_length,eAs_get p.acts hlt,e1,e3,eMs_length,ba_size,List.all_cons]
   rw[if_pos (by omega),if_pos (by omega),if_pos (by omega)]
   by_cases h1:p.acts[i].name.length≤60
   · rw[if_neg (by omega),if_pos (by omega),if_pos (by omega),wrap_eq (by omega) (by omega)]
     by_cases h2:p.acts[i].mvs.length≤n+2
     · rw[if_neg (by omega),wrap_eq (by omega) (by omega),show (i:Int)+1=((i+1:Nat):Int) by omega,ih (i+1) (by omega)]
       simp[h1,h2]
     · rw[if_pos (by omega)]
       simp[h2]
   · rw[if_pos (by omega)]
     simp[h1]
theorem l11a (p : Pg) (hf : Fits p) (n : Nat) (hn : n ≤ 1000) : ∀ (k i : Nat),i + k = p.names.length →
    L tab (run tab X) 11 [] [.lp [1,1,0,1,0]] (S11_11010 n i (eN p.names) (encL p.homes) (eAs p.acts))=some ([.p (.bool ((p.names.drop i).all (fun g=>decide (g.length≤60))&&p.acts.all fun a=>decide (a.name.length≤60)&&decide (a.mvs.length≤n+2)))],[]):=by
  have ha:=hf.names
  intro k
  induction k with
  | zero =>
   intro i hi
   refine L_of ?_
   rw[e11_11010,condD,eN_length,if_neg (by omega),show p.names.drop i=[] from List.drop_eq_nil_iff.2 (by omega)]
   have:=l11b X hX p hf n hn p.acts.length 0 (by omega)
   refine(show L tab (run tab X) 11 [] [.lp [1,1,1,0,1,0]] (S11_111010 n (0:Nat) (eN p.names) (encL p.homes) (eAs p.acts))=_ from this).trans ?_
   simp
  | succ k ih =>
   intro i hi
   have hlt:i<p.names.length:=by omega
   have e1:((PV.str (ba p.names[i])).cell 0).toStr=ba p.names[i]:=rfl
   refine L_of ?_
   rw[e11_11010,List.drop_eq_getElem_cons hlt]
   simp only[condA,condD,Int.toNat_natCast,eN_length,eN_get p.names hlt,e1,ba_size,List.all_cons]
   rw[if_pos (by omega),if_pos (by omega),if_pos (by omega)]
   by_cases h1:p.names[i].length≤60
   · rw[if_neg (by omega),wrap_eq (by omega) (by omega),show (i:Int)+1=((i+1:Nat):Int) by omega,ih (i+1) (by omega)]
     simp[h1]
   · rw[if_pos (by omega)]
     simp[h1]
theorem c11 (p:Pg) (hf:Fits p) (n m:Nat) (hn:n≤1000):run tab X 11 [.p (eG p),.p (.int .i64 n),.p (.int .i64 m)] []=some ([.p (.bool (fewB p n m))],[]):=by
 refine run_of (hX _ rfl) ?_
 rw[eG,e11]
 simp only[condD,eN_length,encL_length,eAs_length]
 by_cases h1:p.names.length≤n
 · rw[if_neg (by omega)]
   by_cases h2:p.homes.length≤n
   · rw[if_neg (by omega)]
     by_cases h3:p.acts.length≤m
     · rw[if_neg (by omega)]
       have:=l11a X hX p hf n hn p.names.length 0 (by omega)
       refine(show L tab (run tab X) 11 [] [.lp [1,1,0,1,0]] (S11_11010 n (0:Nat) (eN p.names) (encL p.homes) (eAs p.acts))=_ from this).trans ?_
       simp[fewB,h1,h2,h3]
     · rw[if_pos (by omega)]
       simp[fewB,h3]
   · rw[if_pos (by omega)]
     simp[fewB,h2]
 · rw[if_pos (by omega)]
   simp[fewB,h1]
theorem c12 (hC:Clones X) (p:Pg) (hp:Small p) (k:Int):run tab X 12 [.p (eG p),.p (.int .i64 k)] []=some ([.p (.list true kV3 (encL (formR p k).1)),.p (.int .i64 (formR p k).2)],[]):=by
 have h10:=c10 X hX hC p hp
 rw[eG]at h10
 refine run_of (hX _ rfl) ?_
 rw[eG,e12,h10]
 simp only[Option.bind_some,List.headD_cons,pv_p,toBool_bool,condO,condD,eAs_length]
 cases hv:validP p with
 | false=>simp[formR,hv,encL]
 | true =>
  simp only[cond_true]
  by_cases h1:0≤k
  · rw[if_neg (by omega)]
    by_cases h2:k≤p.acts.length
    · rw[if_neg (by omega)]
      have h39:=c39 X hX hC p hp k.toNat (by omega)
      rw[eG,Int.toNat_of_nonneg h1]at h39
      rw[h39]
      simp[formR,hv,h1,h2]
    · rw[if_pos (by omega)]
      simp[formR,hv,h2,encL]
  · rw[if_pos (by omega)]
    simp[formR,hv,h1,encL]
theorem l23 (p : Pg) (hp : Small p) (_ht : lenP p ≤ 3600000) (h1 : ∀ a ∈ p.acts,1 ≤ a.len) : ∀ (k i : Nat) (n : Int),i + k = p.acts.length → 0 ≤ n → n + lenR (p.acts.drop i) ≤ 3600000 →
    L tab (run tab X) 23 [] [.lp [1,1,1,0,1,0]] (S23_111010 n (eAs p.acts) p.acts.length i)=some ([.p (.int .i64 (n+lenR (p.acts.drop i))),.p (.int .i64 0)],[]):=by
  have _ := hX
  have ha:=hp.acts
  intro k
  induction k with
  | zero =>
   intro i n hi h0 hn
   refine L_of ?_
   rw[e23_111010,condD,if_neg (by omega),show p.acts.drop i=[] from List.drop_eq_nil_iff.2 (by omega)]
   simp[lenR]
  | succ k ih =>
   intro i n hi h0 hn
   have hlt:i<p.acts.length:=by omega
   have e2:((eA p.acts[i]).cell 1).toInt=p.acts[i].len:=rfl
   have hl:=h1 p.acts[i] (List.getElem_mem hlt)
   have hd:=lenR_drop p.acts hlt
   have hr:=lenR_nonneg (p.acts.drop (i+1)) (fun b hb=>h1 b (List.mem_of_mem_drop hb))
   refine L_of ?_
   rw[e23_111010]
   simp only[condA,condD,Int.toNat_natCast,eAs_length,eAs_get p.acts hlt,e2]
   rw[if_pos (by omega),if_pos (by omega),if_pos (by omega),wrap_eq (x:=n+p.acts[i].len) (by omega) (by omega),i64_succ i (by omega),ih (i+1) (n+p.acts[i].len) (by omega) (by omega) (by omega),hd]
   rw[Int.add_assoc]
theorem c23 (hC:Clones X) (p:Pg) (hp:Small p):run tab X 23 [.p (eG p)] []=some ([.p (.int .i64 (if validP p then lenP p else 0)),.p (.int .i64 (if validP p then 0 else 2))],[]):=by
 have h10:=c10 X hX hC p hp
 rw[eG]at h10
 refine run_of (hX _ rfl) ?_
 rw[eG,e23,h10]
 simp only[Option.bind_some,List.headD_cons,pv_p,toBool_bool,condO,eAs_length]
 cases hv:validP p with
 | false=>simp
 | true =>
  obtain⟨_,_,h3,h4⟩:=valid_of hv
  have:=l23 X hX p hp h4 (fun a ha=>(h3 a ha).2.1) p.acts.length 0 0 (by omega) (by omega) (by simpa [lenP] using h4)
  simp only[cond_true]
  refine(show L tab (run tab X) 23 [] [.lp [1,1,1,0,1,0]] (S23_111010 0 (eAs p.acts) p.acts.length (0:Nat))=_ from this).trans ?_
  simp[lenP]
theorem l13 (p : Pg) (hp : Small p) (_ht : lenP p ≤ 3600000) (h1 : ∀ a ∈ p.acts,1 ≤ a.len) (t : Int) : ∀ (k i : Nat) (f : Int),i + (k + 1) = p.acts.length → 0 ≤ f → f + lenR (p.acts.drop i) ≤ 3600000 → t ≤ f + lenR (p.acts.drop i) →
    L tab (run tab X) 13 [] [.lp [1,1,1,0,0]] (S13_11100 t i f (eN p.names) (encL p.homes) (eAs p.acts))=some ([.p (.int .i64 (actR t i f (p.acts.drop i)).1),.p (.int .i64 (actR t i f (p.acts.drop i)).2.1),.p (.int .i64 (actR t i f (p.acts.drop i)).2.2)],[]):=by
  have _ := hX
  have ha:=hp.acts
  intro k
  induction k with
  | zero =>
   intro i f hi h0 hf hft
   have hlt:i<p.acts.length:=by omega
   have hd:=lenR_drop p.acts hlt
   have hn:p.acts.drop (i+1)=[]:=List.drop_eq_nil_iff.2 (by omega)
   rw[hn,lenR]at hd
   refine L_of ?_
   rw[e13_11100,condD,eAs_length,wrap_eq (by omega) (by omega),if_neg (by omega),List.drop_eq_getElem_cons hlt,hn,actR,if_pos (by omega)]
  | succ k ih =>
   intro i f hi h0 hf hft
   have hlt:i<p.acts.length:=by omega
   have hlt2:i+1<p.acts.length:=by omega
   have hd:=lenR_drop p.acts hlt
   have hl:=h1 p.acts[i] (List.getElem_mem hlt)
   have hr:=lenR_nonneg (p.acts.drop (i+1)) (fun b hb=>h1 b (List.mem_of_mem_drop hb))
   have e2:((eA p.acts[i]).cell 1).toInt=p.acts[i].len:=rfl
   have e3:actR t i f (p.acts.drop i)=if t<f+p.acts[i].len then((i:Int),f,(0:Int)) else actR t (i+1) (f+p.acts[i].len) (p.acts.drop (i+1)):=by
    rw[List.drop_eq_getElem_cons hlt,List.drop_eq_getElem_cons hlt2,actR]
   refine L_of ?_
   rw[e13_11100]
   simp only[condA,condD,Int.toNat_natCast,eAs_length,eAs_get p.acts hlt,e2,e3]
   rw[wrap_eq (x:=(p.acts.length:Int)-1) (by omega) (by omega),if_pos (by omega),if_pos (by omega),if_pos (by omega),wrap_eq (x:=f+p.acts[i].len) (by omega) (by omega)]
   by_cases h2:f+p.acts[i].len≤t
   · rw[if_pos h2,if_pos (by omega),if_pos (by omega),i64_succ i (by omega),ih (i+1) (f+p.acts[i].len) (by omega) (by omega) (by omega) (by omega),if_neg (by omega)]
   · rw[if_neg h2,if_pos (by omega)]
theorem c13 (hC:Clones X) (p:Pg) (hp:Small p) (t:Int):run tab X 13 [.p (eG p),.p (.int .i64 t)] []=some ([.p (.int .i64 (actV p t).1),.p (.int .i64 (actV p t).2.1),.p (.int .i64 (actV p t).2.2)],[]):=by
 have h23:=c23 X hX hC p hp
 rw[eG]at h23
 refine run_of (hX _ rfl) ?_
 rw[eG,e13,h23]
 simp only[Option.bind_some,List.headD_cons,List.tail_cons,pv_p,toInt_int,condN,condD,condE]
 rw[actV]
 cases hv:validP p with
 | false=>simp
 | true =>
  obtain⟨_,_,h3,h4⟩:=valid_of hv
  have h1:∀ a∈p.acts,1≤a.len:=fun a ha=>(h3 a ha).2.1
  have hn:=lenR_nonneg p.acts h1
  simp only[if_true]
  by_cases g1:0≤t
  · rw[if_neg (by omega),if_pos g1]
    by_cases g2:t≤lenP p
    · rw[if_neg (by omega)]
      by_cases g3:p.acts=[]
      · have:lenP p=0:=by rw[lenP,g3];rfl
        rw[if_pos this,g3]
        rfl
      · have g4:1≤p.acts.length:=by have:=List.length_pos_iff.2 g3;omega
        rw[if_neg (by rw[lenP];omega)]
        have:=l13 X hX p hp h4 h1 t (p.acts.length-1) 0 0 (by omega) (by omega) (by simpa [lenP] using h4) (by simpa [lenP] using g2)
        exact(show L tab (run tab X) 13 [] [.lp [1,1,1,0,0]] (S13_11100 t (0:Nat) 0 (eN p.names) (encL p.homes) (eAs p.acts))=_ from this)
    · rw[if_pos (by omega),actR_far t p.acts 0 0 h1 (by rw[lenP]at g2;omega)]
  · rw[if_pos (by omega),if_neg g1]
theorem l18 (p : Pg) (hp : Small p) (_ht : lenP p ≤ 3600000) (h1 : ∀ a ∈ p.acts,1 ≤ a.len) (t : Int) (t0 : 0 ≤ t) : ∀ (k i : Nat) (f : Int),i + k = p.acts.length → 0 ≤ f → f + lenR (p.acts.drop i) ≤ 3600000 →
    L tab (run tab X) 18 [] [.lp [1,1,0,1,0]] (S18_11010 t f i (eN p.names) (encL p.homes) (eAs p.acts))=some ([.p (.int .i64 (actR t i f (p.acts.drop i)).1),.p (.int .i64 (actR t i f (p.acts.drop i)).2.1),.p (.int .i64 (actR t i f (p.acts.drop i)).2.2)],[]):=by
  have _ := hX
  have ha:=hp.acts
  intro k
  induction k with
  | zero =>
   intro i f hi h0 hf
   refine L_of ?_
   rw[e18_11010,condD,eAs_length,if_neg (by omega),show p.acts.drop i=[] from List.drop_eq_nil_iff.2 (by omega)]
   rfl
  | succ k ih =>
   intro i f hi h0 hf
   have hlt:i<p.acts.length:=by omega
   have hd:=lenR_drop p.acts hlt
   have hl:=h1 p.acts[i] (List.getElem_mem hlt)
   have hr:=lenR_nonneg (p.acts.drop (i+1)) (fun b hb=>h1 b (List.mem_of_mem_drop hb))
   have e2:((eA p.acts[i]).cell 1).toInt=p.acts[i].len:=rfl
   have hih:=ih (i+1) (f+p.acts[i].len) (by omega) (by omega) (by omega)
   refine L_of ?_
   rw[e18_11010]
   simp only[condA,condD,condE,Int.toNat_natCast,eAs_length,eAs_get p.acts hlt,e2]
   rw[wrap_eq (x:=(p.acts.length:Int)-1) (by omega) (by omega),wrap_eq (x:=f+p.acts[i].len) (by omega) (by omega),i64_succ i (by omega)]
   rw[if_pos (by omega),if_pos (by omega),if_pos (by omega),if_pos (by omega)]
   by_cases g0:i+1=p.acts.length
   · have hn:p.acts.drop (i+1)=[]:=List.drop_eq_nil_iff.2 (by omega)
     have e3:actR t i f (p.acts.drop i)=if t≤f+p.acts[i].len then((i:Int),f,(0:Int)) else(0,0,3):=by
      rw[List.drop_eq_getElem_cons hlt,hn,actR]
     rw[hn]at hih
     rw[e3]
     by_cases g1:t<f+p.acts[i].len
     · rw[if_pos g1,if_pos (by omega)]
     · rw[if_neg g1,if_pos (by omega),if_pos (by omega),if_pos (by omega)]
       by_cases g2:t=f+p.acts[i].len
       · rw[if_pos g2,if_pos (by omega)]
       · rw[if_neg g2,if_pos (by omega),if_pos (by omega),hih,if_neg (by omega)]
         rfl
   · have hlt2:i+1<p.acts.length:=by omega
     have e3:actR t i f (p.acts.drop i)=if t<f+p.acts[i].len then((i:Int),f,(0:Int)) else actR t (i+1) (f+p.acts[i].len) (p.acts.drop (i+1)):=by
      rw[List.drop_eq_getElem_cons hlt,List.drop_eq_getElem_cons hlt2,actR]
     rw[e3]
     by_cases g1:t<f+p.acts[i].len
     · rw[if_pos g1,if_pos g1]
     · rw[if_neg g1,if_neg (by omega),if_pos (by omega),if_pos (by omega),hih,if_neg g1]
theorem c18 (p:Pg) (hp:Small p) (hv:validP p=true) (t:Int):run tab X 18 [.p (eG p),.p (.int .i64 t)] []=some ([.p (.int .i64 (actV p t).1),.p (.int .i64 (actV p t).2.1),.p (.int .i64 (actV p t).2.2)],[]):=by
 obtain⟨_,_,h3,h4⟩:=valid_of hv
 have h1:∀ a∈p.acts,1≤a.len:=fun a ha=>(h3 a ha).2.1
 refine run_of (hX _ rfl) ?_
 rw[eG,e18,actV,hv,if_pos rfl]
 by_cases t0:0≤t
 · have:=l18 X hX p hp h4 h1 t t0 p.acts.length 0 0 (by omega) (by omega) (by simpa [lenP] using h4)
   rw[if_pos t0]
   exact(show L tab (run tab X) 18 [] [.lp [1,1,0,1,0]] (S18_11010 t 0 (0:Nat) (eN p.names) (encL p.homes) (eAs p.acts))=_ from this)
 · rw[if_neg t0]
   refine L_of ?_
   rw[e18_11010]
   simp only[condD,eAs_length]
   by_cases g:(0:Int)<p.acts.length
   · rw[if_pos g,if_neg (by omega)]
   · rw[if_neg g]
theorem l40 (l : List (List UInt8)) (hl : l.length ≤ 100) (g : List UInt8) : ∀ (k i : Nat),i + k = l.length →
    L tab (run tab X) 40 [] [.lp [1,0,1,0]] (S40_1010 (eN l) (ba g) l.length i)=some ([.p (.int .i64 (idxN g i (l.drop i)))],[]):=by
  have _ := hX
  intro k
  induction k with
  | zero =>
   intro i hi
   refine L_of ?_
   rw[e40_1010,condD,if_neg (by omega),show l.drop i=[] from List.drop_eq_nil_iff.2 (by omega)]
   rfl
  | succ k ih =>
   intro i hi
   have hlt:i<l.length:=by omega
   have e1:((PV.str (ba l[i])).cell 0).toStr=ba l[i]:=rfl
   have hb:((ba g).toList==(ba l[i]).toList)=decide (l[i]=g):=by
    rw[ba_beq];simp only[ba_inj,eq_comm]
   refine L_of ?_
   rw[e40_1010,List.drop_eq_getElem_cons hlt,idxN]
   simp only[condA,condD,Int.toNat_natCast,eN_length,eN_get l hlt,e1,hb]
   rw[if_pos (by omega),if_pos (by omega),if_pos (by omega)]
   by_cases h:l[i]=g
   · rw[if_pos h,if_pos h]
   · rw[if_neg h,if_neg h,i64_succ i (by omega),ih (i+1) (by omega)]
theorem c40 (l:List (List UInt8)) (hl:l.length≤100) (g:List UInt8):run tab X 40 [.p (.list false [.str] (eN l)),.p (.str (ba g))] []=some ([.p (.int .i64 (idxN g 0 l))],[]):=by
 refine run_of (hX _ rfl) ?_
 have:=l40 X hX l hl g l.length 0 (by omega)
 rw[e40,eN_length]
 exact(show L tab (run tab X) 40 [] [.lp [1,0,1,0]] (S40_1010 (eN l) (ba g) l.length (0:Nat))=_ from this)
theorem l19 (p : Pg) (hp : Small p) (g : List UInt8) : ∀ (k i : Nat),i + k = p.names.length →
    L tab (run tab X) 19 [] [.lp [1,0,1,0]] (S19_1010 (ba g) i (eN p.names) (encL p.homes) (eAs p.acts))=some ([.p (.int .i64 (idxN g i (p.names.drop i)))],[]):=by
  have _ := hX
  have hl:=hp.names
  intro k
  induction k with
  | zero =>
   intro i hi
   refine L_of ?_
   rw[e19_1010,condD,eN_length,if_neg (by omega),show p.names.drop i=[] from List.drop_eq_nil_iff.2 (by omega)]
   rfl
  | succ k ih =>
   intro i hi
   have hlt:i<p.names.length:=by omega
   have e1:((PV.str (ba p.names[i])).cell 0).toStr=ba p.names[i]:=rfl
   have hb:((ba p.names[i]).toList==(ba g).toList)=decide (p.names[i]=g):=by
    rw[ba_beq];simp only[ba_inj]
   refine L_of ?_
   rw[e19_1010,List.drop_eq_getElem_cons hlt,idxN]
   simp only[condA,condD,Int.toNat_natCast,eN_length,eN_get p.names hlt,e1,hb]
   rw[if_pos (by omega),if_pos (by omega),if_pos (by omega)]
   by_cases h:p.names[i]=g
   · rw[if_pos h,if_pos h]
   · rw[if_neg h,if_neg h,i64_succ i (by omega),ih (i+1) (by omega)]
theorem c19 (p:Pg) (hp:Small p) (g:List UInt8):run tab X 19 [.p (eG p),.p (.str (ba g))] []=some ([.p (.int .i64 (idxN g 0 p.names))],[]):=by
 refine run_of (hX _ rfl) ?_
 have:=l19 X hX p hp g p.names.length 0 (by omega)
 rw[eG,e19]
 exact(show L tab (run tab X) 19 [] [.lp [1,0,1,0]] (S19_1010 (ba g) (0:Nat) (eN p.names) (encL p.homes) (eAs p.acts))=_ from this)
theorem c14 (hC:Clones X) (p:Pg) (hp:Small p) (g:List UInt8):run tab X 14 [.p (eG p),.p (.str (ba g))] []=some ([.p (.int .i64 (findR p g).1),.p (.int .i64 (findR p g).2)],[]):=by
 have h10:=c10 X hX hC p hp
 rw[eG]at h10
 refine run_of (hX _ rfl) ?_
 rw[eG,e14,h10,c40 X hX p.names hp.names g]
 simp only[Option.bind_some,List.headD_cons,pv_p,toBool_bool,condO,condD,toInt_int]
 rw[findR]
 cases hv:validP p with
 | false=>simp
 | true =>
  simp only[cond_true,if_true]
  by_cases h:idxN g 0 p.names<0
  · refine iteP h ?_
    rw[if_pos h]
  · refine(if_neg h).trans ?_
    rw[if_neg h]
theorem l16 (a b : List V3) (hab : a.length = b.length) (ha : a.length ≤ 1000) : ∀ (k i : Nat),i + k = a.length →
    L tab (run tab X) 16 [] [.lp [1,1,0,1,0]] (S16_11010 (encL a) (encL b) i)=some ([.p (.bool (decide (a.drop i=b.drop i)))],[]):=by
  have _ := hX
  intro k
  induction k with
  | zero =>
   intro i hi
   refine L_of ?_
   rw[e16_11010,condD,encL_length,if_neg (by omega),show a.drop i=[] from List.drop_eq_nil_iff.2 (by omega),show b.drop i=[] from List.drop_eq_nil_iff.2 (by omega)]
   simp
  | succ k ih =>
   intro i hi
   have h1:i<a.length:=by omega
   have h2:i<b.length:=by omega
   have e3:∀ v:V3,((encV v).cell 0).toInt=v.x:=fun _=>rfl
   have e4:∀ v:V3,((encV v).cell 1).toInt=v.y:=fun _=>rfl
   have e5:∀ v:V3,((encV v).cell 2).toInt=v.z:=fun _=>rfl
   refine L_of ?_
   rw[e16_11010]
   simp only[condD,Int.toNat_natCast,encL_length,encL_at a h1,encL_at b h2,e3,e4,e5,eqV]
   rw[if_pos (by omega),condA,condA]
   simp only[condD,condO]
   rw[if_pos (by omega),if_pos (by omega),if_pos (by omega),if_pos (by omega),i64_succ i (by omega),ih (i+1) (by omega),List.drop_eq_getElem_cons h1,List.drop_eq_getElem_cons h2]
   by_cases h:a[i]=b[i]
   · rw[if_pos h];simp only[List.cons.injEq,h,true_and]
   · rw[if_neg h];simp only[List.cons.injEq,h,false_and,decide_false]
theorem c16 (a b:List V3) (ha:a.length≤1000):run tab X 16 [.p (.list true kV3 (encL a)),.p (.list true kV3 (encL b))] []=some ([.p (.bool (decide (a=b)))],[]):=by
 refine run_of (hX _ rfl) ?_
 rw[e16,condN,encL_length,encL_length]
 by_cases h:a.length=b.length
 · rw[if_pos (by omega)]
   have:=l16 X hX a b h ha a.length 0 (by omega)
   refine(show L tab (run tab X) 16 [] [.lp [1,1,0,1,0]] (S16_11010 (encL a) (encL b) (0:Nat))=_ from this).trans ?_
   simp
 · rw[if_neg (by omega),decide_eq_false (fun e=>h (by rw[e]))]
end
end Go.Skm.Prg
