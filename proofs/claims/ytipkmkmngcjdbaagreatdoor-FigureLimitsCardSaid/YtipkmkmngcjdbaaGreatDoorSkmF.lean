/-
  A machine that runs this program's functions on pure values, and the proof that what it returns is true of the program; no condition beside the hypotheses of each.
-/
import Derived.Test.YtipkmkmngcjdbaaGreatDoorSkmE
namespace Go.Skm
theorem wrap_eq {x:Int} (h1:-9223372036854775808≤x) (h2:x≤9223372036854775807):IntKind.i64.wrap x=x:=by
 have:∀ y:Int,y=x%2 ^ 64→(if(true&&decide (y ≥ 2 ^ (64-1)))=true then y-2 ^ 64 else y)=x:=by
  intro y hy
  by_cases h:y ≥ 2 ^ (64-1)
  · rw[if_pos (by simpa using h)];omega
  · rw[if_neg (by simpa using h)];omega
 exact this _ rfl
theorem condD {α:Type} (p:Prop) [Decidable p] (a b:α):cond (decide p) a b=if p then a else b:=by
 by_cases h:p<;>simp[h]
theorem condE {α:Type} (x y:Int) (a b:α):cond (x==y) a b=if x=y then a else b:=by
 by_cases h:x=y
 · simp[h]
 · have:(x==y)=false:=by simpa using h
   simp[h,this]
theorem condN {α:Type} (x y:Int) (a b:α):cond (x != y) a b=if x=y then b else a:=by
 by_cases h:x=y
 · simp[h]
 · have:(x != y)=true:=by simpa using h
   simp[h,this]
theorem condA {α:Type} (p q:Bool) (a b:α):cond (p&&q) a b=cond p (cond q a b) b:=by cases p<;>rfl
theorem condO {α:Type} (p:Bool) (a b:α):cond (!p) a b=cond p b a:=by cases p<;>rfl
@[simp] theorem toInt_int (k:IntKind) (n:Int):(PV.int k n).toInt=n:=rfl
@[simp] theorem toBool_bool (b:Bool):(PV.bool b).toBool=b:=rfl
@[simp] theorem toStr_str (s:ByteArray):(PV.str s).toStr=s:=rfl
@[simp] theorem toList_list (a:Bool) (ks:List Kd) (xs:List PV):(PV.list a ks xs).toList=xs:=rfl
@[simp] theorem pv_p (v:PV):(AV.p v).pv=v:=rfl
@[simp] theorem freshList_fresh (a:Bool) (ks:List Kd) (xs:List PV):(AV.fresh a ks xs).freshList=xs:=rfl
@[simp] theorem sOff_slice (s z o l:Nat):(AV.slice s z o l).sOff=o:=rfl
@[simp] theorem sLen_slice (s z o l:Nat):(AV.slice s z o l).sLen=l:=rfl
@[simp] theorem xs_arr (a:Bool) (ks:List Kd) (xs:List PV):(Blk.arr a ks xs).xs=xs:=rfl
@[simp] theorem cell_agg (cs:List PV) (j:Nat):(PV.agg cs).cell j=cs.getD j .nil:=rfl
@[simp] theorem cell_list (a:Bool) (ks:List Kd) (xs:List PV) (j:Nat):(PV.list a ks xs).cell j=.list a ks xs:=rfl
@[simp] theorem cell_int (k:IntKind) (n:Int) (j:Nat):(PV.int k n).cell j=.int k n:=rfl
structure V3 where
 x:Int
 y:Int
 z:Int
 deriving DecidableEq
namespace V3
theorem ext' {a b:V3} (h1:a.x=b.x) (h2:a.y=b.y) (h3:a.z=b.z):a=b:=by
 cases a;cases b;simp at h1 h2 h3;simp[h1,h2,h3]
instance:Inhabited V3:=⟨⟨0,0,0⟩⟩
end V3
abbrev kV:List Kd:=[.int .i64,.int .i64,.int .i64]
def encV (v:V3):PV:=.agg [.int .i64 v.x,.int .i64 v.y,.int .i64 v.z]
def encL (l:List V3):List PV:=l.map encV
def encI (l:List Int):List PV:=l.map fun n=>.int .i64 n
theorem encV_mk (a b c:Int):PV.agg [.int .i64 a,.int .i64 b,.int .i64 c]=encV ⟨a,b,c⟩:=rfl
@[simp] theorem encL_length (l:List V3):(encL l).length=l.length:=by simp[encL]
@[simp] theorem encI_length (l:List Int):(encI l).length=l.length:=by simp[encI]
@[simp] theorem encL_nil:encL []=[]:=rfl
theorem encL_cons (v:V3) (l:List V3):encL (v::l)=encV v::encL l:=rfl
theorem encL_get (l:List V3) (i:Nat):(encL l)[i]?=(l[i]?).map encV:=by simp[encL]
theorem encL_getD (l:List V3) {i:Nat} (h:i<l.length):(encL l).getD i .nil=encV (l.getD i default):=by
 rw[List.getD_eq_getElem?_getD,List.getD_eq_getElem?_getD,encL_get];simp[h]
@[simp] theorem encL_x (l:List V3) (i:Nat):(((encL l).getD i .nil).cell 0).toInt=(l.getD i default).x:=by
 by_cases h:i<l.length
 · rw[encL_getD l h];rfl
 · have h1:(encL l).getD i .nil=.nil:=by rw[List.getD_eq_getElem?_getD,encL_get];simp[h]
   have h2:l.getD i default=default:=by rw[List.getD_eq_getElem?_getD];simp[h]
   rw[h1,h2];rfl
@[simp] theorem encL_y (l:List V3) (i:Nat):(((encL l).getD i .nil).cell 1).toInt=(l.getD i default).y:=by
 by_cases h:i<l.length
 · rw[encL_getD l h];rfl
 · have h1:(encL l).getD i .nil=.nil:=by rw[List.getD_eq_getElem?_getD,encL_get];simp[h]
   have h2:l.getD i default=default:=by rw[List.getD_eq_getElem?_getD];simp[h]
   rw[h1,h2];rfl
@[simp] theorem encL_z (l:List V3) (i:Nat):(((encL l).getD i .nil).cell 2).toInt=(l.getD i default).z:=by
 by_cases h:i<l.length
 · rw[encL_getD l h];rfl
 · have h1:(encL l).getD i .nil=.nil:=by rw[List.getD_eq_getElem?_getD,encL_get];simp[h]
   have h2:l.getD i default=default:=by rw[List.getD_eq_getElem?_getD];simp[h]
   rw[h1,h2];rfl
theorem encL_drop (l:List V3) (n:Nat):(encL l).drop n=encL (l.drop n):=by simp[encL]
theorem encL_take (l:List V3) (n:Nat):(encL l).take n=encL (l.take n):=by simp[encL]
theorem encL_append (l m:List V3):encL l++encL m=encL (l++m):=by simp[encL]
theorem encL_set (l:List V3) (i:Nat) (v:V3):(encL l).set i (encV v)=encL (l.set i v):=by simp[encL,List.map_set]
theorem encL_one (v:V3):[encV v]=encL [v]:=rfl
section
variable {P:Program} {w:World} {M:Nat→Prop}
end
end Go.Skm
