import Derived.Test.YtfmoopdnamdobaaDoorP5
namespace Go.Skm.Prg
open Go Go.Skm
theorem abe (l:List (List UInt8)) {i:Nat} (h:i<l.length):sN (l.take i)++[(.str (ba l[i]),.bool true)]=sN (l.take (i+1)):=by
 rw[List.take_succ_eq_append_getElem h,sN,sN,List.map_append];rfl
theorem abf (l:List V3) {i:Nat} (h:i<l.length):sH (l.take i)++[(aT l[i],.bool true)]=sH (l.take (i+1)):=by
 rw[List.take_succ_eq_append_getElem h,sH,sH,List.map_append];rfl
theorem Zh {α:Type} (l:List α) (x d:α):(l++[x]).getD l.length d=x:=by
 rw[qLb];simp
theorem Zi {α:Type} (l:List α) (x y:α):(l++[x]).set l.length y=l++[y]:=by
 induction l with
 | nil=>rfl
 | cons a l ih=>simp[ih]
def cntF (t len:Int):List V3→List Mv→List Int→Option (List Int)
 | v::vs,m::ms,c::cs=>if(mg v m t len).2=0 then(if c+(mg v m t len).1.length≤256 then(cntF t len vs ms cs).map ((c+(mg v m t len).1.length)::·) else none) else none
 | _,_,_=>some []
def Ad (n:Nat):Int→List V3→List Int→List Ac→Bool
 | _,_,_,[]=>true
 | t,fr,many,a::r=>okN a.name&&(decide (1≤a.len)&&(decide (a.len≤3600000-t)&&(decide (a.iw.length=n)&&match cntF t a.len fr a.iw many with
  | some many'=>Ad n (t+a.len) (a.iw.map Mv.to) many' r
  | none=>false)))
def dV (p:Pg):Bool:=DN p&&(decide (p.acts.length≤60)&&Ad p.names.length 0 p.homes (List.replicate p.names.length 0) p.acts)
theorem Jz (t len:Int):∀ (vs:List V3) (ms:List Mv) (cs cs':List Int),vs.length=cs.length→ms.length=cs.length→cntF t len vs ms cs=some cs'→cs'.length=cs.length
 | [],ms,[],cs',_,_,h=>by cases ms<;>(simp only[cntF,qOa]at h;subst h;rfl)
 | v::vs,m::ms,c::cs,cs',h1,h2,h=>by
  simp only[cntF]at h
  split at h
  · split at h
    · obtain⟨w,hw,rfl⟩:=Option.map_eq_some_iff.1 h
      simp only[List.length_cons,Nat.add_right_cancel_iff]at h1 h2
      have:=Jz t len vs ms cs w h1 h2 hw
      simp[this]
    · cases h
  · cases h
 | [],[],_::_,_,h,_,_=>by simp at h
 | [],_::_,_::_,_,h,_,_=>by simp at h
 | _::_,[],_::_,_,_,h,_=>by simp at h
 | _::_,_,[],_,h,_,_=>by simp at h
theorem cnt_le (t len:Int):∀ (vs:List V3) (ms:List Mv) (cs cs':List Int),(∀ c∈cs,0≤c∧c≤256)→cntF t len vs ms cs=some cs'→∀ c∈cs',0≤c∧c≤256
 | [],ms,cs,cs',_,h=>by cases ms<;>(simp only[cntF,qOa]at h;subst h;simp)
 | v::vs,[],cs,cs',_,h=>by simp only[cntF,qOa]at h;subst h;simp
 | v::vs,m::ms,[],cs',_,h=>by simp only[cntF,qOa]at h;subst h;simp
 | v::vs,m::ms,c::cs,cs',h1,h=>by
  simp only[cntF]at h
  split at h
  · split at h
    · next h3 =>
      obtain⟨w,hw,rfl⟩:=Option.map_eq_some_iff.1 h
      have:=cnt_le t len vs ms cs w (fun c hc=>h1 c (by simp[hc])) hw
      have hc:=h1 c (by simp)
      intro d hd
      rcases List.mem_cons.1 hd with rfl | hd
      · omega
      · exact this d hd
    · cases h
  · cases h
theorem Sj {p:Pg} (h:DN p=true):1≤p.names.length∧p.names.length≤64∧p.homes.length=p.names.length:=by
 simp only[DN,qBa,qDa]at h
 exact⟨h.1,h.2.1,h.2.2.1⟩
theorem JD (l:List Int) {i:Nat} (h:i<l.length):(encI l).getD i .nil=.int .i64 l[i]:=Zg _ l h
theorem Sl (l:List Int) (i:Nat) (x:Int):(encI l).set i (.int .i64 x)=encI (l.set i x):=by
 rw[encI,encI,List.map_set]
theorem Sm (n:Nat):List.replicate n (PV.int .i64 0)=encI (List.replicate n 0):=by
 rw[encI,List.map_replicate]
theorem Wh {α:Type} (d:List α) (c x:α) (cs:List α):(d++c::cs).set d.length x=(d++[x])++cs:=by
 rw[List.set_append_right _ _ (Nat.le_refl _),Nat.sub_self];simp
theorem akg (X : Ext) (t len : Int) (t24 : List PV) (t25 t26 : Int) (r0 r1 r2 : List PV) (c1 c2 : Int) (b0 b1 b2 : List PV) (n : Nat) (hn : n ≤ 64) (ab0 : ByteArray) (ab2 : List PV) : ∀ (vs : List V3) (ms : List Mv) (cs done : List Int),vs.length = cs.length → ms.length = cs.length → done.length + cs.length = n → (∀ c ∈ cs,0 ≤ c ∧ c ≤ 256) →
    L tab (run tab X) 10 [] [.lp [1,1,1,1,0,1,0],.rg [1,1,0,0,1,1,1,0,1,0] [(false,[.slice true iy]),(false,[.int .i64])] (gv t len vs ms)] (fC t t24 t25 t26 r0 r1 r2 c1 c2 b0 b1 b2 false (encI (done++cs)) 0 n ab0 len ab2 done.length) =
     match cntF t len vs ms cs with
     | some cs'=>L tab (run tab X) 10 [] [.lp [1,1,1,1,0,1,0]] (oK (IntKind.i64.wrap (t+len)) t24 t25 (IntKind.i64.wrap (t26+1)) b0 b1 b2 false (encI (done++cs')) 0 n)
     | none=>some ([.p (.bool false)],[]):=by
  intro vs
  induction vs with
  | nil =>
   intro ms cs done h1 h2 h3 h4
   have:cs=[]:=List.length_eq_zero_iff.1 (by simpa using h1.symm)
   subst this
   rw[gv,uP,cntF]
   · simp
   · simp
  | cons v vs ih =>
   intro ms cs done h1 h2 h3 h4
   cases cs with
   | nil=>simp at h1
   | cons c cs =>
    cases ms with
    | nil=>simp at h2
    | cons m ms =>
     simp only[List.length_cons,Nat.add_right_cancel_iff]at h1 h2 h3
     have hc:=h4 c (by simp)
     have hd:done.length<(done++c::cs).length:=by simp
     have hgc:(done++c::cs)[done.length]=c:=by simp
     have e1:∀ x:Int,(PV.int .i64 x).cell 0=.int .i64 x:=fun _=>rfl
     have hpl:(mg v m t len).1.length≤5:=by
      unfold mg
      have:=Fp v m t len
      split
      · split
        · exact this
        · simp
      · simp
     have hw:IntKind.i64.wrap (c+((mg v m t len).1.length:Int))=c+((mg v m t len).1.length:Int):=wrap_eq (by omega) (by omega)
     have hset:(encI (done++c::cs)).set done.length (.int .i64 (c+((mg v m t len).1.length:Int)))=encI ((done++[c+((mg v m t len).1.length:Int)])++cs):=by
      rw[Sl,Wh]
     have hg2:∀ x:Int,(encI ((done++[x])++cs)).getD done.length .nil=.int .i64 x:=fun x=>by
      rw[JD _ (by simp)];simp
     have hg1:(encI (done++c::cs)).getD done.length .nil=.int .i64 c:=by
      rw[JD _ hd,hgc]
     rw[gv,sW,cntF]
     simp only[dh,aG,pU,Int.toNat_natCast,Nat.zero_add,hg1,e1,toInt_int,jw,hw,hset,hg2]
     rw[if_pos (by omega),if_pos (by omega),if_pos (by omega),if_pos (by omega)]
     by_cases he:(mg v m t len).2=0
     · rw[if_pos he,if_pos he,if_pos (by omega),if_pos (by omega)]
       by_cases hb:c+((mg v m t len).1.length:Int)≤256
       · rw[if_neg (by omega),if_pos hb,bW _ (by omega)]
         have:=ih ms cs (done++[c+((mg v m t len).1.length:Int)]) h1 h2 (by simp;omega) (fun x hx=>h4 x (by simp[hx]))
         simp only[List.length_append,List.length_singleton]at this
         rw[this]
         cases cntF t len vs ms cs with
         | none=>rfl
         | some w=>simp
       · rw[if_pos (by omega),if_neg hb]
     · rw[if_neg he,if_neg he]
section
variable (X:Ext) (hX:Mine X)
include hX
theorem l36 (p : Pg) (hp : Small p) (hh : p.homes.length = p.names.length) : ∀ (k i : Nat),i + k = p.names.length →
    L tab (run tab X) 36 [] [.lp [1,1,1,1,0,1,0]] (rC (eN p.names) p.names.length i (eN p.names) (bF p.homes) (fM p.acts) (sN (p.names.take i)) (sH (p.homes.take i))) =
     some ([.p (.bool (Bo (p.names.take i) (p.homes.take i) (p.names.drop i) (p.homes.drop i)))],[]):=by
  have hn:=hp.names
  intro k
  induction k with
  | zero =>
   intro i hi
   refine dP ?_
   rw[Iz,aG,if_neg (by omega),show p.names.drop i=[] from List.drop_eq_nil_iff.2 (by omega)]
   simp[Bo]
  | succ k ih =>
   intro i hi
   have h1:i<p.names.length:=by omega
   have h2:i<p.homes.length:=by omega
   have hg:=hp.name p.names[i] (List.getElem_mem h1)
   have e1:(PV.str (ba p.names[i])).cell 0=.str (ba p.names[i]):=rfl
   have e2:(PV.str (ba p.names[i])).toStr=ba p.names[i]:=rfl
   have e3:((aT p.homes[i]).cell 0).toInt=p.homes[i].x:=rfl
   have e4:((aT p.homes[i]).cell 1).toInt=p.homes[i].y:=rfl
   have e5:((aT p.homes[i]).cell 2).toInt=p.homes[i].z:=rfl
   have ev:(PV.agg [.int .i64 p.homes[i].x,.int .i64 p.homes[i].y,.int .i64 p.homes[i].z])=aT p.homes[i]:=rfl
   obtain⟨o,ho,hoc⟩:=V9 p.names[i] (p.names.take i)
   obtain⟨q,hq,hqc⟩:=V8 p.homes[i] (p.homes.take i)
   have hc:=Yo X hX p.homes[i]
   rw[aT]at hc
   refine dP ?_
   rw[Iz,qLc h1,qLc h2,Bo]
   simp only[dh,aG,Int.toNat_natCast,cZ,aY,rY p.names h1,lQ p.homes h2,e1,e2,e3,e4,e5,ake,aeW,ho,hq]
   rw[if_pos (by omega),if_pos (by omega),if_pos (by omega),c37 X hX _ (wM hg)]
   simp only[Option.bind_some,List.headD_cons,gV,aI,iR,Option.isSome_some,cond_true,Option.getD_some]
   cases okN p.names[i] with
   | false=>simp
   | true =>
    simp only[cond_true,Bool.true_and]
    rcases hoc with ⟨hm,j,rfl,hj⟩ | ⟨hm,rfl⟩
    · rw[aeX (by simpa using hj)]
      simp[hm,kindOk]
    · have ek:kL (.bool false) (sN (p.names.take i)) none=.bool false:=rfl
      rw[ek]
      have ek2:kindOk .bool (.bool false)=true:=rfl
      simp only[ek2,cond_true,aI,cond_false,hm,decide_false,Bool.not_false,Bool.true_and]
      rw[if_pos (by omega),if_pos (by omega),hc]
      simp only[Option.bind_some,List.headD_cons,gV,aI]
      cases pt p.homes[i] with
      | false=>simp
      | true =>
       simp only[cond_true,Bool.true_and]
       rw[if_pos (by omega),if_pos (by omega)]
       rcases hqc with ⟨hm2,j,rfl,hj⟩ | ⟨hm2,rfl⟩
       · rw[aeY (by simpa using hj)]
         simp[hm2,kindOk]
       · have ek3:kL (.bool false) (sH (p.homes.take i)) none=.bool false:=rfl
         rw[ek3]
         have hl:(sH (p.homes.take i)).length=i:=by simp;omega
         simp only[ek2,cond_true,aI,cond_false,hm2,decide_false,Bool.not_false,Bool.true_and,Option.getD_none,hl,dw,ev]
         rw[if_pos (by omega),if_pos (by omega)]
         have hs:((sH (p.homes.take i))++[(aT p.homes[i],PV.bool false)]).length=i+1:=by simp;omega
         have hg2:((sH (p.homes.take i))++[(aT p.homes[i],PV.bool false)]).getD i (.nil,.nil)=(aT p.homes[i],PV.bool false):=by
          have:=Zh (sH (p.homes.take i)) (aT p.homes[i],PV.bool false) (.nil,.nil)
          rwa[hl]at this
         have hst:((sH (p.homes.take i))++[(aT p.homes[i],PV.bool false)]).set i (aT p.homes[i],PV.bool true)=sH (p.homes.take (i+1)):=by
          have:=Zi (sH (p.homes.take i)) (aT p.homes[i],PV.bool false) (aT p.homes[i],PV.bool true)
          rw[hl]at this
          rw[this,abf _ h2]
         rw[hs,hg2,hst,abe _ h1,if_pos (by omega),if_pos (by omega),bW i (by omega),ih (i+1) (by omega)]
         rw[List.take_succ_eq_append_getElem h1,List.take_succ_eq_append_getElem h2]
theorem c36 (p:Pg) (hp:Small p):run tab X 36 [.p (eG p)] []=some ([.p (.bool (DN p))],[]):=by
 refine bn (hX _ rfl) ?_
 have hn:=hp.names
 have hh:=hp.homes
 rw[eG,e36]
 simp only[aG,pU,cZ,aY]
 by_cases h1:1≤p.names.length
 · rw[if_neg (by omega)]
   by_cases h2:p.names.length≤64
   · rw[if_neg (by omega)]
     by_cases h3:p.homes.length=p.names.length
     · rw[if_pos (by omega),show ((0:Int))=((0:Nat):Int) from rfl]
       have:=l36 X hX p hp h3 p.names.length 0 (by omega)
       simp only[List.take_zero,List.drop_zero]at this
       have e0:([]:List (PV × PV))=sN []:=rfl
       have e1:([]:List (PV × PV))=sH []:=rfl
       refine(show L tab (run tab X) 36 [] [.lp [1,1,1,1,0,1,0]] (rC (eN p.names) p.names.length (0:Nat) (eN p.names) (bF p.homes) (fM p.acts) (sN []) (sH []))=_ from this).trans ?_
       simp[DN,h1,h2,h3]
     · rw[if_neg (by omega)]
       simp[DN,h3]
   · rw[if_pos (by omega)]
     simp[DN,h2]
 · rw[if_pos (by omega)]
   simp[DN,h1]
theorem l10 (hC : jI X) (p : Pg) (hp : Small p) : ∀ (k i : Nat) (t : Int) (many : List Int),i + k = p.acts.length → many.length = p.names.length → p.names.length ≤ 64 → (iV p i).length = p.names.length → (∀ c ∈ many,0 ≤ c ∧ c ≤ 256) → 0 ≤ t → t ≤ 3600000 →
    L tab (run tab X) 10 [] [.lp [1,1,1,1,0,1,0]] (oK t (fM p.acts) p.acts.length i (eN p.names) (bF p.homes) (fM p.acts) false (encI many) 0 p.names.length) =
     some ([.p (.bool (Ad p.names.length t (iV p i) many (p.acts.drop i)))],[]):=by
  have ha:=hp.acts
  intro k
  induction k with
  | zero =>
   intro i t many hi _ _ _ _ _ _
   refine dP ?_
   rw[Iu,aG,if_neg (by omega),show p.acts.drop i=[] from List.drop_eq_nil_iff.2 (by omega)]
   simp[Ad]
  | succ k ih =>
   intro i t many hi hm hn hf hc ht0 ht1
   have hlt:i<p.acts.length:=by omega
   obtain⟨q1,q2,q3⟩:=hp.act p.acts[i] (List.getElem_mem hlt)
   have e1:((eA p.acts[i]).cell 0).toStr=ba p.acts[i].name:=rfl
   have e2:((eA p.acts[i]).cell 1).toInt=p.acts[i].len:=rfl
   have e3:((eA p.acts[i]).cell 2).toList=qw p.acts[i].iw:=rfl
   have h38:=c38 X hX p i t
   rw[eG]at h38
   refine dP ?_
   rw[Iu,qLc hlt,Ad]
   simp only[dh,aG,pU,Int.toNat_natCast,aW,kU p.acts hlt,e1,e2,e3,cu,cZ]
   rw[if_pos (by omega),if_pos (by omega),if_pos (by omega),c37 X hX _ (wM q2)]
   simp only[Option.bind_some,List.headD_cons,gV,aI,iR]
   cases okN p.acts[i].name with
   | false=>simp
   | true =>
    simp only[cond_true,Bool.true_and]
    by_cases h1:1≤p.acts[i].len
    · rw[if_neg (by omega),wrap_eq (by omega) (by omega)]
      by_cases h2:p.acts[i].len≤3600000-t
      · rw[if_neg (by omega)]
        by_cases h3:p.acts[i].iw.length=p.names.length
        · rw[if_pos (by omega),h38]
          simp only[Option.bind_some,List.headD_cons,gV]
          have hk1:((PV.fn 59 [.ref [.list false [.str] (eN p.names),.list true bZ (bF p.homes),.list true dD (fM p.acts)],.ref [.int .i64 (i:Int)],.ref [.int .i64 t]]).cap 0)=.ref [.list false [.str] (eN p.names),.list true bZ (bF p.homes),.list true dD (fM p.acts)]:=rfl
          have hk2:((PV.fn 59 [.ref [.list false [.str] (eN p.names),.list true bZ (bF p.homes),.list true dD (fM p.acts)],.ref [.int .i64 (i:Int)],.ref [.int .i64 t]]).cap 1)=.ref [.int .i64 (i:Int)]:=rfl
          have hk3:((PV.fn 59 [.ref [.list false [.str] (eN p.names),.list true bZ (bF p.homes),.list true dD (fM p.acts)],.ref [.int .i64 (i:Int)],.ref [.int .i64 t]]).cap 2)=.ref [.int .i64 t]:=rfl
          have hr1:∀ a b c:PV,(PV.ref [a,b,c]).lZ 0=a:=fun _ _ _=>rfl
          have hr2:∀ a b c:PV,(PV.ref [a,b,c]).lZ 1=b:=fun _ _ _=>rfl
          have hr3:∀ a b c:PV,(PV.ref [a,b,c]).lZ 2=c:=fun _ _ _=>rfl
          have hr4:∀ a:PV,(PV.ref [a]).lZ 0=a:=fun _=>rfl
          simp only[hk1,hk2,hk3,hr1,hr2,hr3,hr4,oM,toInt_int]
          rw[c59 X hX hC p hp i hlt t (by omega)]
          simp only[Option.bind_some]
          have Zj:sQ [aJ.log true (gv t p.acts[i].len (iV p i) p.acts[i].iw)]=gv t p.acts[i].len (iV p i) p.acts[i].iw:=rfl
          rw[Zj]
          have:=akg X t p.acts[i].len (fM p.acts) p.acts.length i (eN p.names) (bF p.homes) (fM p.acts) i t (eN p.names) (bF p.homes) (fM p.acts) p.names.length hn (ba p.acts[i].name) (qw p.acts[i].iw) (iV p i) p.acts[i].iw many [] (by omega) (by omega) (by simp;omega) hc
          refine(show L tab (run tab X) 10 [] [.lp [1,1,1,1,0,1,0],.rg [1,1,0,0,1,1,1,0,1,0] [(false,[.slice true iy]),(false,[.int .i64])] (gv t p.acts[i].len (iV p i) p.acts[i].iw)] (fC t (fM p.acts) p.acts.length i (eN p.names) (bF p.homes) (fM p.acts) i t (eN p.names) (bF p.homes) (fM p.acts) false (encI ([]++many)) 0 p.names.length (ba p.acts[i].name) p.acts[i].len (qw p.acts[i].iw) ((List.length ([]:List Int):Nat):Int))=_ from this).trans ?_
          have hfs:iV p (i+1)=p.acts[i].iw.map Mv.to:=by rw[iV,oJ p hlt]
          cases hq:cntF t p.acts[i].len (iV p i) p.acts[i].iw many with
          | none=>simp[h1,h2]
          | some w =>
           have hwl:=Jz _ _ _ _ _ _ (by omega) (by omega) hq
           have hwc:=cnt_le _ _ _ _ _ _ hc hq
           simp only[List.nil_append]
           rw[wrap_eq (x:=t+p.acts[i].len) (by omega) (by omega),bW i (by omega),ih (i+1) (t+p.acts[i].len) w (by omega) (by omega) hn (by rw[hfs];simp;omega) hwc (by omega) (by omega),hfs]
           simp[h1,h2,h3]
        · rw[if_neg (by omega)]
          simp[h3]
      · rw[if_pos (by omega)]
        simp[h2]
    · rw[if_pos (by omega)]
      simp[h1]
theorem c10 (hC:jI X) (p:Pg) (hp:Small p):run tab X 10 [.p (eG p)] []=some ([.p (.bool (dV p))],[]):=by
 refine bn (hX _ rfl) ?_
 have h36:=c36 X hX p hp
 rw[eG]at h36
 rw[eG,e10,h36]
 simp only[Option.bind_some,List.headD_cons,gV,aI,iR,aG,dh,aW,cZ]
 rw[dV]
 cases hc:DN p with
 | false=>simp
 | true =>
  obtain⟨h1,h2,h3⟩:=Sj hc
  simp only[cond_true,Bool.true_and]
  by_cases h4:p.acts.length≤60
  · rw[if_neg (by omega),if_pos (by omega),if_pos (by omega),if_pos (by omega),Int.toNat_natCast,Sm]
    have:=l10 X hX hC p hp p.acts.length 0 0 (List.replicate p.names.length 0) (by omega) (by simp) h2 h3 (by intro c hc;rw[List.mem_replicate]at hc;omega) (by omega) (by omega)
    refine(show L tab (run tab X) 10 [] [.lp [1,1,1,1,0,1,0]] (oK 0 (fM p.acts) p.acts.length (0:Nat) (eN p.names) (bF p.homes) (fM p.acts) false (encI (List.replicate p.names.length 0)) 0 p.names.length)=_ from this).trans ?_
    simp[h4,iV]
  · rw[if_pos (by omega)]
    simp[h4]
end
end Go.Skm.Prg
