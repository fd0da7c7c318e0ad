/-
  Rings and spheres, and lines of many points: how many points they have; no condition.
-/
import Derived.Test.YtipkmkmngcjdbaaGreatDoorF21
namespace Go.Skm.Fig
open Go Go.Skm
theorem mem_kC {s:Sh} {i j k:Int} {v:V3}:v∈kC s i j k↔nearB (i*i+j*j+k*k) s.r=true∧v=sPt s i j k:=by
 unfold kC
 split<;>simp_all
theorem mem_kF {s:Sh} {i j:Int} {v:V3}:∀ {n:Nat} {a:Int},v∈kF s i j n a↔∃ k,a≤k∧k<a+n∧nearB (i*i+j*j+k*k) s.r=true∧v=sPt s i j k
 | 0,a=>by
  simp only[kF,List.not_mem_nil,false_iff]
  rintro ⟨k,h1,h2,_⟩;omega
 | n+1,a=>by
  rw[kF,List.mem_append,mem_kC,mem_kF]
  constructor
  · rintro (⟨h1,h2⟩ | ⟨k,h1,h2,h3⟩)
    · exact⟨a,by omega,by omega,h1,h2⟩
    · exact⟨k,by omega,by omega,h3⟩
  · rintro ⟨k,h1,h2,h3,h4⟩
    by_cases h:k=a
    · subst h;exact .inl ⟨h3,h4⟩
    · exact .inr ⟨k,by omega,by omega,h3,h4⟩
theorem mem_jF {s:Sh} {d i:Int} (hd:0≤d) {v:V3}:∀ {n:Nat} {a:Int},v∈jF s d i n a↔∃ j k,a≤j∧j<a+n∧-d≤k∧k≤d∧nearB (i*i+j*j+k*k) s.r=true∧v=sPt s i j k
 | 0,a=>by
  simp only[jF,List.not_mem_nil,false_iff]
  rintro ⟨j,k,h1,h2,_⟩;omega
 | n+1,a=>by
  rw[jF,List.mem_append,mem_kF,mem_jF hd]
  constructor
  · rintro (⟨k,h1,h2,h3⟩ | ⟨j,k,h1,h2,h3⟩)
    · exact⟨a,k,by omega,by omega,by omega,by omega,h3⟩
    · exact⟨j,k,by omega,by omega,h3⟩
  · rintro ⟨j,k,h1,h2,h3,h4,h5⟩
    by_cases h:j=a
    · subst h;exact .inl ⟨k,by omega,by omega,h5⟩
    · exact .inr ⟨j,k,by omega,by omega,h3,h4,h5⟩
theorem mem_iF {s:Sh} {d R:Int} (hd:0≤d) (hR:0≤R) {v:V3}:∀ {n:Nat} {a:Int},v∈iF s d R n a↔∃ i j k,a≤i∧i<a+n∧-R≤j∧j≤R∧-d≤k∧k≤d∧nearB (i*i+j*j+k*k) s.r=true∧v=sPt s i j k
 | 0,a=>by
  simp only[iF,List.not_mem_nil,false_iff]
  rintro ⟨i,j,k,h1,h2,_⟩;omega
 | n+1,a=>by
  rw[iF,List.mem_append,mem_jF hd,mem_iF hd hR]
  constructor
  · rintro (⟨j,k,h1,h2,h3⟩ | ⟨i,j,k,h1,h2,h3⟩)
    · exact⟨a,j,k,by omega,by omega,by omega,by omega,h3⟩
    · exact⟨i,j,k,by omega,by omega,h3⟩
  · rintro ⟨i,j,k,h1,h2,h3,h4,h5⟩
    by_cases h:i=a
    · subst h;exact .inl ⟨j,k,by omega,by omega,h5⟩
    · exact .inr ⟨i,j,k,by omega,by omega,h3,h4,h5⟩
theorem mem_shell {s:Sh} (hs:Rou s) {v:V3}:v∈shellP s↔∃ i j k,-s.r≤i∧i≤s.r∧-s.r≤j∧j≤s.r∧-(dR s)≤k∧k≤dR s∧nearB (i*i+j*j+k*k) s.r=true∧v=sPt s i j k:=by
 have hr:=hs.r
 have hd:0≤dR s:=by unfold dR;split<;>omega
 unfold shellP shellF
 rw[mem_iF hd (by omega)]
 constructor
 · rintro ⟨i,j,k,h1,h2,h3⟩;exact⟨i,j,k,by omega,by omega,h3⟩
 · rintro ⟨i,j,k,h1,h2,h3⟩;exact⟨i,j,k,by omega,by omega,h3⟩
def nk (r i j:Int):Nat→Int→Nat
 | 0,_=>0
 | n+1,k=>(bif nearB (i*i+j*j+k*k) r then 1 else 0)+nk r i j n (k+1)
def nj (r d i:Int):Nat→Int→Nat
 | 0,_=>0
 | n+1,j=>nk r i j (2*d+1).toNat (-d)+nj r d i n (j+1)
def ni (r d R:Int):Nat→Int→Nat
 | 0,_=>0
 | n+1,i=>nj r d i (2*R+1).toNat (-R)+ni r d R n (i+1)
theorem kF_num (s:Sh) (i j:Int):∀ n a,(kF s i j n a).length=nk s.r i j n a
 | 0,_=>rfl
 | n+1,a=>by
  rw[kF,nk,List.length_append,kF_num s i j n]
  unfold kC
  cases h:nearB (i*i+j*j+a*a) s.r<;>simp
theorem jF_num (s:Sh) (d i:Int):∀ n a,(jF s d i n a).length=nj s.r d i n a
 | 0,_=>rfl
 | n+1,a=>by rw[jF,nj,List.length_append,jF_num s d i n,kF_num]
theorem iF_num (s:Sh) (d R:Int):∀ n a,(iF s d R n a).length=ni s.r d R n a
 | 0,_=>rfl
 | n+1,a=>by rw[iF,ni,List.length_append,iF_num s d R n,jF_num]
theorem ring_all:((List.range 50).all fun r=>Nat.ble (ni ((r:Int)+1) 0 ((r:Int)+1) (2*r+3) (-((r:Int)+1))) 4096)=true:=by decide +kernel
theorem ring_few {s:Sh} (hs:Rou s) (h4:s.k=4):(shellP s).length≤4096:=by
 have hr:=hs.r
 have hd:dR s=0:=by unfold dR;rw[if_neg (by omega)]
 have h:=List.all_eq_true.1 ring_all (s.r-1).toNat (List.mem_range.2 (by omega))
 have h:=Nat.le_of_ble_eq_true h
 have e1:(((s.r-1).toNat:Nat):Int)+1=s.r:=by omega
 rw[e1]at h
 unfold shellP shellF
 rw[iF_num,hd,show (2*s.r+1).toNat=2*(s.r-1).toNat+3 by omega]
 exact h
theorem kF_nodup {s:Sh} (h1:s.s=1) (h2:s.p=0) (i j:Int):∀ n a,(kF s i j n a).Nodup
 | 0,_=>List.nodup_nil
 | n+1,a=>by
  rw[kF,List.nodup_append]
  refine⟨?_,kF_nodup h1 h2 i j n _,?_⟩
  · unfold kC;split<;>simp
  · intro u hu v hv e
    rw[mem_kC]at hu
    rw[mem_kF]at hv
    obtain⟨_,rfl⟩:=hu
    obtain⟨k,h3,_,_,rfl⟩:=hv
    simp only[sPt,h1,h2,show ¬ ((0:Int)=1) by decide,show ¬ ((0:Int)=2) by decide,if_false,V3.mk.injEq]at e
    omega
theorem jF_nodup {s:Sh} (h1:s.s=1) (h2:s.p=0) (d i:Int) (hd:0≤d):∀ n a,(jF s d i n a).Nodup
 | 0,_=>List.nodup_nil
 | n+1,a=>by
  rw[jF,List.nodup_append]
  refine⟨kF_nodup h1 h2 _ _ _ _,jF_nodup h1 h2 d i hd n _,?_⟩
  intro u hu v hv e
  rw[mem_kF]at hu
  rw[mem_jF hd]at hv
  obtain⟨k',_,_,_,rfl⟩:=hu
  obtain⟨j,k,h3,_,_,_,_,rfl⟩:=hv
  simp only[sPt,h1,h2,show ¬ ((0:Int)=1) by decide,show ¬ ((0:Int)=2) by decide,if_false,V3.mk.injEq]at e
  omega
theorem iF_nodup {s:Sh} (h1:s.s=1) (h2:s.p=0) (d R:Int) (hd:0≤d) (hR:0≤R):∀ n a,(iF s d R n a).Nodup
 | 0,_=>List.nodup_nil
 | n+1,a=>by
  rw[iF,List.nodup_append]
  refine⟨jF_nodup h1 h2 _ _ hd _ _,iF_nodup h1 h2 d R hd hR n _,?_⟩
  intro u hu v hv e
  rw[mem_jF hd]at hu
  rw[mem_iF hd hR]at hv
  obtain⟨j',k',_,_,_,_,_,rfl⟩:=hu
  obtain⟨i,j,k,h3,_,_,_,_,_,_,rfl⟩:=hv
  simp only[sPt,h1,h2,show ¬ ((0:Int)=1) by decide,show ¬ ((0:Int)=2) by decide,if_false,V3.mk.injEq]at e
  omega
theorem sph_many:Nat.ble 4097 (ni 50 50 50 20 (-50))=true:=by decide +kernel
def sphK (x:Int):Sh:=⟨5,[⟨x,0,0⟩],0,50,1,0⟩
theorem sphK_shape {x:Int} (h:-1048576≤x∧x≤1048576):Shape (sphK x):=by
 refine⟨by simp[sphK],?_,?_⟩
 · rw[allP_iff]
   intro v hv
   simp only[sphK,List.mem_cons,List.not_mem_nil,or_false]at hv
   rw[hv]
   exact pnt_iff.2 ⟨h,by simp,by simp⟩
 · simp[sphK]
theorem figB_one {s:Sh} (h:Shape s):figB [s]=true:=by
 unfold figB
 simp[shp_iff.2 h]
theorem ptsF_one (s:Sh):ptsF [s]=ptsS s:=by unfold ptsF;simp
theorem sph_full:ptsR [sphK 0]=([],7):=by
 have hs:=sphK_shape (x:=0) (by omega)
 have hr:Rou (sphK 0):=shape_rou hs (by decide) (by decide)
 unfold ptsR
 rw[if_pos (figB_one hs),ptsF_one]
 have e:ptsS (sphK 0)=shellP (sphK 0):=rfl
 rw[e]
 unfold ptsE
 rw[if_pos ?_,if_pos ?_]
 · have h1 : (iF (sphK 0) 50 50 20 (-50)).length ≤ (sdL (shellP (sphK 0))).length := by
     refine List.Nodup.length_le_of_subset (iF_nodup rfl rfl 50 50 (by decide) (by decide) 20 (-50)) ?_
     intro v hv
     rw[sdL_mem,mem_shell hr]
     rw[mem_iF (by decide) (by decide)]at hv
     obtain⟨i,j,k,h1,h2,h3,h4,h5,h6,h7⟩:=hv
     exact⟨i,j,k,by show -50≤i;omega,by show i≤50;omega,h3,h4,h5,h6,h7⟩
   rw[iF_num]at h1
   have h2:=Nat.le_of_ble_eq_true sph_many
   have h1:ni 50 50 50 20 (-50)≤(sdL (shellP (sphK 0))).length:=h1
   omega
 · intro v hv
   rw[mem_shell hr]at hv
   obtain⟨i,j,k,h1,h2,h3,h4,h5,h6,h7,rfl⟩:=hv
   have h1:-50≤i:=h1
   have h2:i≤50:=h2
   have h3:-50≤j:=h3
   have h4:j≤50:=h4
   have h5:-50≤k:=h5
   have h6:k≤50:=h6
   have e:sPt (sphK 0) i j k=⟨0+i*1,0+j*1,0+k*1⟩:=rfl
   rw[e]
   exact pnt_iff.2 ⟨by constructor<;>simp only<;>omega,by constructor<;>simp only<;>omega,by constructor<;>simp only<;>omega⟩
theorem sph_far:ptsR [sphK 1048527]=([],3):=by
 have hs:=sphK_shape (x:=1048527) (by omega)
 have hr:Rou (sphK 1048527):=shape_rou hs (by decide) (by decide)
 unfold ptsR
 rw[if_pos (figB_one hs),ptsF_one]
 have e:ptsS (sphK 1048527)=shellP (sphK 1048527):=rfl
 rw[e]
 unfold ptsE
 rw[if_neg ?_]
 intro h
 have:=h (sPt (sphK 1048527) 50 0 0) ((mem_shell hr).2 ⟨50,0,0,by decide,by decide,by decide,by decide,by decide,by decide,by decide,rfl⟩)
 revert this
 decide
theorem ring_ok {s:Sh} (h:Shape s) (h4:s.k=4) (hv:∀ v∈shellP s,pnt v=true):(ptsR [s]).2=0:=by
 have hr:Rou s:=shape_rou h (by omega) (by omega)
 unfold ptsR
 rw[if_pos (figB_one h),ptsF_one]
 have e:ptsS s=shellP s:=by unfold ptsS;rw[if_neg (by omega),if_neg (by omega)]
 rw[e]
 unfold ptsE
 rw[if_pos hv,if_neg ?_]
 have h1:=sdL_len (shellP s)
 have h2:=ring_few hr h4
 omega
end Go.Skm.Fig
