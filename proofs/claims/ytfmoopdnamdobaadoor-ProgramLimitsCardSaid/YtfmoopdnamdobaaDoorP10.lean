/-
  The paths of a valid program, in the document; paths that are the same; condition: a valid program of moderate size.
-/
import Derived.Test.YtfmoopdnamdobaaDoorP9
namespace Go.Skm.Prg
open Go Go.Skm
def trailR (i:Nat):Int→List V3→List Ac→List Sg
 | _,_,[]=>[]
 | t,fr,a::r=>pathS (fr.getD i default) (a.mvs.getD i default) t a.len++trailR i (t+a.len) (a.mvs.map Mv.to) r
def pathP (p:Pg) (i:Nat):List Sg:=trailR i 0 p.homes p.acts
def allL (l:List (List Sg)):List PV:=l.map fun s=>.list true kSg (eP s)
def allP (p:Pg):List PV:=allL ((List.range p.names.length).map (pathP p))
structure AllOk (X:Ext):Prop where
 c47:∀ p,Small p→validP p=true→run tab X 47 [.p (eG p)] []=some ([.fresh false [.slice true kSg] (allP p)],[])
theorem trail_len (i:Nat):∀ (zs:List Ac) (t:Int) (fr:List V3),(trailR i t fr zs).length≤5*zs.length
 | [],_,_=>by simp[trailR]
 | a::r,t,fr=>by
  have h1:=path_len (fr.getD i default) (a.mvs.getD i default) t a.len
  have h2:=trail_len i r (t+a.len) (a.mvs.map Mv.to)
  simp only[trailR,List.length_append,List.length_cons];omega
theorem cnt_valid (t len:Int):∀ (vs:List V3) (ms:List Mv) (cs cs':List Int),vs.length=cs.length→ms.length=cs.length→cntF t len vs ms cs=some cs'→∀ i,i<cs.length→pt (vs.getD i default)=true∧validM (vs.getD i default) (ms.getD i default) len=true
 | v::vs,m::ms,c::cs,cs',h1,h2,h=>by
  simp only[cntF]at h
  split at h
  · next h0 =>
    split at h
    · obtain⟨w,hw,rfl⟩:=Option.map_eq_some_iff.1 h
      simp only[List.length_cons,Nat.add_right_cancel_iff]at h1 h2
      have ih:=cnt_valid t len vs ms cs w h1 h2 hw
      intro i hi
      cases i with
      | zero =>
       unfold pathR at h0
       split at h0
       · next h5 =>
         simp only[Bool.and_eq_true]at h5
         exact⟨h5.1,h5.2.2.2.2⟩
       · simp at h0
      | succ i=>exact ih i (by simpa using hi)
    · cases h
  · cases h
 | _,_,[],_,_,_,_=>by intro i hi;simp at hi
 | [],_,_::_,_,h,_,_=>by simp at h
 | _::_,[],_::_,_,_,h,_=>by simp at h
section
variable (X:Ext) (hX:Mine X)
include hX
def pathV (p:Pg) (j:Int):List Sg × Int:=if validP p then(if 0≤j∧j<p.names.length then(if p.acts=[] then([],9) else(pathP p j.toNat,0)) else([],3)) else([],2)
theorem c24 (hC:Clones X) (hA:AllOk X) (p:Pg) (hp:Small p) (j:Int):run tab X 24 [.p (eG p),.p (.int .i64 j)] []=some ([.p (.list true kSg (eP (pathV p j).1)),.p (.int .i64 (pathV p j).2)],[]):=by
 have h10:=c10 X hX hC p hp
 rw[eG]at h10
 refine run_of (hX _ rfl) ?_
 rw[eG,e24,h10]
 simp only[Option.bind_some,List.headD_cons,pv_p,toBool_bool,condO,condD,condE,eN_length,eAs_length]
 cases hv:validP p with
 | false =>
  have:pathV p j=([],2):=by rw[pathV,hv];rfl
  rw[this];rfl
 | true =>
  have e0:pathV p j=if 0≤j∧j<p.names.length then(if p.acts=[] then([],9) else(pathP p j.toNat,0)) else([],3):=by rw[pathV,hv,if_pos rfl]
  simp only[cond_true]
  by_cases h1:0≤j
  · rw[if_neg (by omega)]
    by_cases h2:j<p.names.length
    · rw[if_neg (by omega)]
      by_cases h3:p.acts=[]
      · rw[if_pos (by rw[h3];rfl),e0,if_pos ⟨h1,h2⟩,if_pos h3]
        rfl
      · have:1≤p.acts.length:=by have:=List.length_pos_iff.2 h3;omega
        have h47:=hA.c47 p hp hv
        rw[eG]at h47
        have hl:(allP p).length=p.names.length:=by simp[allP,allL]
        have hg:(allP p).getD j.toNat .nil=.list true kSg (eP (pathP p j.toNat)):=by
         rw[allP,allL,List.getD_eq_getElem?_getD]
         have:j.toNat<p.names.length:=by omega
         simp[this]
        have hc:((PV.list true kSg (eP (pathP p j.toNat))).cell 0).toList=eP (pathP p j.toNat):=rfl
        rw[if_neg (by omega),h47]
        simp only[Option.bind_some,List.headD_cons,freshList_fresh,hl,Nat.zero_add,hg,hc,condA,condD]
        rw[if_pos (by omega),if_pos (by omega),e0,if_pos ⟨h1,h2⟩,if_neg h3]
    · rw[if_pos (by omega),e0,if_neg (by omega)]
      rfl
  · rw[if_pos (by omega),e0,if_neg (by omega)]
    rfl
end
end Go.Skm.Prg
