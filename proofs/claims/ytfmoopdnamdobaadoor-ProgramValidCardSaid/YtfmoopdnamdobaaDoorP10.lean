import Derived.Test.YtfmoopdnamdobaaDoorP9
namespace Go.Skm.Prg
open Go Go.Skm
def rW (i:Nat):Int→List V3→List Ac→List Sg
 | _,_,[]=>[]
 | t,fr,a::r=>qY (fr.getD i default) (a.iw.getD i default) t a.len++rW i (t+a.len) (a.iw.map Mv.to) r
def Fj (p:Pg) (i:Nat):List Sg:=rW i 0 p.homes p.acts
def allL (l:List (List Sg)):List PV:=l.map fun s=>.list true iy (eP s)
def Ef (p:Pg):List PV:=allL ((List.range p.names.length).map (Fj p))
structure Y0 (X:Ext):Prop where
 c47:∀ p,Small p→dV p=true→run tab X 47 [.p (eG p)] []=some ([.fresh false [.slice true iy] (Ef p)],[])
theorem Ob (i:Nat):∀ (zs:List Ac) (t:Int) (fr:List V3),(rW i t fr zs).length≤5*zs.length
 | [],_,_=>by simp[rW]
 | a::r,t,fr=>by
  have h1:=Fp (fr.getD i default) (a.iw.getD i default) t a.len
  have h2:=Ob i r (t+a.len) (a.iw.map Mv.to)
  simp only[rW,List.length_append,List.length_cons];omega
theorem Oa (t len:Int):∀ (vs:List V3) (ms:List Mv) (cs cs':List Int),vs.length=cs.length→ms.length=cs.length→cntF t len vs ms cs=some cs'→∀ i,i<cs.length→pt (vs.getD i default)=true∧lY (vs.getD i default) (ms.getD i default) len=true
 | v::vs,m::ms,c::cs,cs',h1,h2,h=>by
  simp only[cntF]at h
  split at h
  · next h0 =>
    split at h
    · obtain⟨w,hw,rfl⟩:=Option.map_eq_some_iff.1 h
      simp only[List.length_cons,Nat.add_right_cancel_iff]at h1 h2
      have ih:=Oa t len vs ms cs w h1 h2 hw
      intro i hi
      cases i with
      | zero =>
       unfold mg at h0
       split at h0
       · next h5 =>
         simp only[qBa]at h5
         exact⟨h5.1,h5.2.2.2.2⟩
       · simp at h0
      | succ i=>exact ih i (by simpa using hi)
    · cases h
  · cases h
 | _,_,[],_,_,_,_=>by intro i hi;simp at hi
 | [],_,_::_,_,h,_,_=>by simp at h
 | _::_,[],_::_,_,_,h,_=>by simp at h
section
variable (X:Ext) (hX:Mine X)
include hX
def IC (p:Pg) (j:Int):List Sg × Int:=if dV p then(if 0≤j∧j<p.names.length then(if p.acts=[] then([],9) else(Fj p j.toNat,0)) else([],3)) else([],2)
theorem c24 (hC:jI X) (hA:Y0 X) (p:Pg) (hp:Small p) (j:Int):run tab X 24 [.p (eG p),.p (.int .i64 j)] []=some ([.p (.list true iy (eP (IC p j).1)),.p (.int .i64 (IC p j).2)],[]):=by
 have h10:=c10 X hX hC p hp
 rw[eG]at h10
 refine bn (hX _ rfl) ?_
 rw[eG,e24,h10]
 simp only[Option.bind_some,List.headD_cons,gV,aI,iR,aG,pR,cZ,aW]
 cases hv:dV p with
 | false =>
  have:IC p j=([],2):=by rw[IC,hv];rfl
  rw[this];rfl
 | true =>
  have e0:IC p j=if 0≤j∧j<p.names.length then(if p.acts=[] then([],9) else(Fj p j.toNat,0)) else([],3):=by rw[IC,hv,if_pos rfl]
  simp only[cond_true]
  by_cases h1:0≤j
  · rw[if_neg (by omega)]
    by_cases h2:j<p.names.length
    · rw[if_neg (by omega)]
      by_cases h3:p.acts=[]
      · rw[if_pos (by rw[h3];rfl),e0,if_pos ⟨h1,h2⟩,if_pos h3]
        rfl
      · have:1≤p.acts.length:=by have:=List.length_pos_iff.2 h3;omega
        have h47:=hA.c47 p hp hv
        rw[eG]at h47
        have hl:(Ef p).length=p.names.length:=by simp[Ef,allL]
        have hg:(Ef p).getD j.toNat .nil=.list true iy (eP (Fj p j.toNat)):=by
         rw[Ef,allL,qLb]
         have:j.toNat<p.names.length:=by omega
         simp[this]
        have hc:((PV.list true iy (eP (Fj p j.toNat))).cell 0).toList=eP (Fj p j.toNat):=rfl
        rw[if_neg (by omega),h47]
        simp only[Option.bind_some,List.headD_cons,aV,hl,Nat.zero_add,hg,hc,dh,aG]
        rw[if_pos (by omega),if_pos (by omega),e0,if_pos ⟨h1,h2⟩,if_neg h3]
    · rw[if_pos (by omega),e0,if_neg (by omega)]
      rfl
  · rw[if_pos (by omega),e0,if_neg (by omega)]
    rfl
end
end Go.Skm.Prg
