/-
  Rings and spheres, and lines of many points: how many points they have; no condition.
-/
import Derived.Test.YtipkmkmngcjdbaaGreatDoorF21
namespace Go.Skm.Fig
open Go Go.Skm
theorem mem_kC {s:Sh} {i j k:Int} {v:V3}:v∈kC s i j k↔nearB (i*i+j*j+k*k) s.r=true∧v=sPt s i j k:=by
 unfold kC
 split<;>simp_all
theorem mem_kF {s:Sh} {i j:Int} {v:V3}:∀ {n:Nat} {a:Int},v∈kF s i j n a↔∃ k,a≤k∧k<a+n∧nearB (i*i+j*j+k*k) s.r=true∧v=sPt s i j k
 | 0,a=>by
  simp only[kF,List.not_mem_nil,false_iff]
  rintro ⟨k,h1,h2,_⟩;omega
 | n+1,a=>by
  rw[kF,List.mem_append,mem_kC,mem_kF]
  constructor
  · rintro (⟨h1,h2⟩ | ⟨k,h1,h2,h3⟩)
    · exact⟨a,by omega,by omega,h1,h2⟩
    · exact⟨k,by omega,by omega,h3⟩
  · rintro ⟨k,h1,h2,h3,h4⟩
    by_cases h:k=a
    · subst h;exact .inl ⟨h3,h4⟩
    · exact .inr ⟨k,by omega,by omega,h3,h4⟩
theorem mem_jF {s:Sh} {d i:Int} (hd:0≤d) {v:V3}:∀ {n:Nat} {a:Int},v∈jF s d i n a↔∃ j k,a≤j∧j<a+n∧-d≤k∧k≤d∧nearB (i*i+j*j+k*k) s.r=true∧v=sPt s i j k
 | 0,a=>by
  simp only[jF,List.not_mem_nil,false_iff]
  rintro ⟨j,k,h1,h2,_⟩;omega
 | n+1,a=>by
  rw[jF,List.mem_append,mem_kF,mem_jF hd]
  constructor
  · rintro (⟨k,h1,h2,h3⟩ | ⟨j,k,h1,h2,h3⟩)
    · exact⟨a,k,by omega,by omega,by omega,by omega,h3⟩
    · exact⟨j,k,by omega,by omega,h3⟩
  · rintro ⟨j,k,h1,h2,h3,h4,h5⟩
    by_cases h:j=a
    · subst h;exact .inl ⟨k,by omega,by omega,h5⟩
    · exact .inr ⟨j,k,by omega,by omega,h3,h4,h5⟩
theorem mem_iF {s:Sh} {d R:Int} (hd:0≤d) (hR:0≤R) {v:V3}:∀ {n:Nat} {a:Int},v∈iF s d R n a↔∃ i j k,a≤i∧i<a+n∧-R≤j∧j≤R∧-d≤k∧k≤d∧nearB (i*i+j*j+k*k) s.r=true∧v=sPt s i j k
 | 0,a=>by
  simp only[iF,List.not_mem_nil,false_iff]
  rintro ⟨i,j,k,h1,h2,_⟩;omega
 | n+1,a=>by
  rw[iF,List.mem_append,mem_jF hd,mem_iF hd hR]
  constructor
  · rintro (⟨j,k,h1,h2,h3⟩ | ⟨i,j,k,h1,h2,h3⟩)
    · exact⟨a,j,k,by omega,by omega,by omega,by omega,h3⟩
    · exact⟨i,j,k,by omega,by omega,h3⟩
  · rintro ⟨i,j,k,h1,h2,h3,h4,h5⟩
    by_cases h:i=a
    · subst h;exact .inl ⟨j,k,by omega,by omega,h5⟩
    · exact .inr ⟨i,j,k,by omega,by omega,h3,h4,h5⟩
theorem mem_shell {s:Sh} (hs:Rou s) {v:V3}:v∈shellP s↔∃ i j k,-s.r≤i∧i≤s.r∧-s.r≤j∧j≤s.r∧-(dR s)≤k∧k≤dR s∧nearB (i*i+j*j+k*k) s.r=true∧v=sPt s i j k:=by
 have hr:=hs.r
 have hd:0≤dR s:=by unfold dR;split<;>omega
 unfold shellP shellF
 rw[mem_iF hd (by omega)]
 constructor
 · rintro ⟨i,j,k,h1,h2,h3⟩;exact⟨i,j,k,by omega,by omega,h3⟩
 · rintro ⟨i,j,k,h1,h2,h3⟩;exact⟨i,j,k,by omega,by omega,h3⟩
theorem figB_one {s:Sh} (h:Shape s):figB [s]=true:=by
 unfold figB
 simp[shp_iff.2 h]
theorem ptsF_one (s:Sh):ptsF [s]=ptsS s:=by unfold ptsF;simp
end Go.Skm.Fig
