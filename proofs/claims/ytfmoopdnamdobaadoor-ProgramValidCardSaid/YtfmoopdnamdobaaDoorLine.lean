import Derived.Test.YtfmoopdnamdobaaDoorTab
import Derived.Test.YtfmoopdnamdobaaDoorLays
import Derived.Test.YtfmoopdnamdobaaDoorSkmI
import Derived.Test.YtfmoopdnamdobaaDoorSkmG
import Derived.Lib.AppendIntMem
import Derived.WalkKit
import Derived.BigCall
import Derived.Maps.AppendAt
namespace Go.Skm.Prg
open Go Go.Skm Go.Proofs Go.Shelf Go.RowKit Go.Sort
theorem aa1:(Tryd.prog.info? 9).map (fun i=>(i.zero,i.size,i.bytes))=some (some (.string ByteArray.empty),1,16):=by kernel_rfl
def yT (x:ByteArray):List UInt8:=x.data.toList
def WAt (w:World) (B:Nat) (v:Value) (g1 o1:Nat) (cur:List Value):Prop :=
 (v=.slice (some ⟨g1,o1,none⟩) cur.length cur.length∧g1<B∧∀ j u,cur[j]?=some u→w.cell? ⟨g1,o1+j,none⟩=some u)∨w.ownsRow B 9 1 v cur.length cur
theorem WAt.kept {w w':World} {B:Nat} {v:Value} {g1 o1:Nat} {cur:List Value} (h:WAt w B v g1 o1 cur) (_hB:B≤w.heap.size) (hg:w.grownBy w' none):WAt w' B v g1 o1 cur:=by
 rcases h with ⟨h1,h2,h3⟩ | h
 · exact .inl ⟨h1,h2,fun j u hj=>hg.cell (h3 j u hj) (by simp)⟩
 · refine .inr (h.kept hg ?_)
   cases v.ownBlock with
   | none=>exact .inl rfl
   | some k=>exact .inr (by simp)
theorem WAt.shape {w:World} {B:Nat} {v:Value} {g1 o1:Nat} {cur:List Value} (h:WAt w B v g1 o1 cur):∃ ao cv,v=.slice ao cur.length cv:=by
 rcases h with ⟨h1,_,_⟩ | h
 · exact⟨_,_,h1⟩
 · rcases h.2 with ⟨h1,h2⟩ | ⟨g,cap,c,h1,_⟩
   · rw[h2];exact⟨_,_,h1⟩
   · exact⟨_,_,h1⟩
theorem P5 (w:World) (k:Nat) (os:Array Obj):w.grownBy (grow (w.drewN k) os) none :=
 have h:=Lib.below_grow w.heap.size w (Nat.le_refl _) k os
 ⟨h.os,h.tape,h.output,h.size,fun j hj _=>Lib.heap_grow_old w k os j hj⟩
theorem Y5 {w : World} {B : Nat} {v : Value} {g1 o1 : Nat} {cur : List Value} (ty : TypeId) (h : WAt w B v g1 o1 cur) (hB : B ≤ w.heap.size) (b1 : Nat) (y : ByteArray) (hy : w.cell? ⟨b1,0,none⟩ = some (.string y)) (hc : cur.length ≤ 4294967296) (hc0 : 0 < cur.length) :
    ∃ v' w' row,(Builtin.append_ #[23,23] ty #[v,.slice (some ⟨b1,0,none⟩) 1 1]).run Tryd.prog w=.ok v' w'∧w'.ownsRow B 9 1 v' (cur.length+1) (cur++[.string y])∧w.grownBy w' row∧∀ k,row=some k→B≤k:=by
  obtain⟨i0,hi,hz0,hz1,hz2⟩:=info_parts aa1
  have hmx:maxLen=9223372036854775807:=by decide
  have hn:∀ j u,([Value.string y]:List Value)[j]?=some u→w.cell? ((⟨b1,0,none⟩:Addr).add j)=some u:=fun j u hj=>by
   match j,hj with
   | 0,hj=>cases hj;exact hy
   | j+1,hj=>simp at hj
  rcases h with ⟨rfl,h2,h3⟩ | h
  · have hr:=run_append_grow (P:=Tryd.prog) w 23 ty 9 i0 _ Tryd.underlying23 hi hz0 ⟨g1,o1,none⟩ cur.length cur.length cur (by rw[hz1,Nat.mul_one]) (fun j u hj=>by rw[Addr.add_lit];exact h3 j u hj) ⟨b1,0,none⟩ 1 1 [.string y] (by rw[hz1];rfl) hn (by omega) (by omega) (growslice_fits (by omega) (by rw[hz2];omega))
    have hge:=grownCap_ge w (cur.length+1) cur.length 9
    have hcm:grownCap w (cur.length+1) cur.length 9≤maxLen:=grownCap_le_maxLen w (cur.length+1) cur.length 9 (by omega)
    refine⟨_,_,none,hr,⟨by simp,.inr ⟨w.heap.size,_,_,rfl,hB,heap_alloc_new w.drew _,hge,hcm,?_,?_⟩⟩,⟨rfl,rfl,rfl,by simp,fun k hk _=>(World.grownBy_alloc w.drew _ none).block k hk (by simp)⟩,fun k hk=>by cases hk⟩
    · simp only[Array.size_append,List.size_toArray,size_zeroCells,List.length_singleton]
      show cur.length+1+_*1=_
      omega
    · simp only[Array.toList_append]
      rw[Nat.mul_one]
      have:(cur++[Value.string y]).length=cur.length+1:=by simp
      rw[← this]
      exact List.take_left
  · obtain⟨v',w',k1,k2,k3,_⟩:=run_append_own (P:=Tryd.prog) w B 23 ty 9 i0 _ 1 16 Tryd.underlying23 hi hz0 hz1 hz2 rfl (by decide) v cur.length cur h ⟨b1,0,none⟩ 1 1 [.string y] rfl hn (fun u hu=>by simp at hu;subst hu;rfl) (by omega) (by omega) hB
    exact⟨v',w',v.ownBlock,k1,k2,k3,fun k hk=>(h.lt k hk).1⟩
theorem RP {ops : Array Oper} {rest : List Oper} {o : Oper} {a : Act} {w : World} {Q : Exit → Act → World → Prop} (hgd : o.guard = none) (s x : Operand)
    (ho:o.op=.call { callee:=.builtin .append,args:=#[s,x],argTypes:=#[23,23] }) {B:Nat} {v:Value} {g1 o1:Nat} {cur:List Value} (hs:a.eval s=v) (h:WAt w B v g1 o1 cur) (hB:B≤w.heap.size) (b1:Nat) (y:ByteArray) (hx:a.eval x=.slice (some ⟨b1,0,none⟩) 1 1) (hy:w.cell? ⟨b1,0,none⟩=some (.string y)) (hc:cur.length≤4294967296) (hc0:0<cur.length)
    (hk:∀ v' w' row,w'.ownsRow B 9 1 v' (cur.length+1) (cur++[.string y])→w.grownBy w' row→(∀ k,row=some k→B≤k)→wpList Tryd.prog ops Q rest (a.put o.dst v') w'):wpList Tryd.prog ops Q (o::rest) a w:=by
  refine wpList_plain hgd fun K hK=>?_
  obtain⟨v',w',row,hr,h2,h3,h4⟩:=Y5 o.type h hB b1 y hy hc hc0
  unfold Oper.wp execOp
  simp only[ho,resolve,invoke,builtin,Sem.run_bind,Sem.run_pure,qRa,List.map_toArray,List.map_cons,List.map_nil,hs,hx,hr]
  exact hK _ _ (hk v' w' row h2 h3 h4)
def nI (yn:List Int) (k:Nat):Int:=yn.getD k 0
theorem Y6 {yn:List Int} {k:Nat} (h:k<yn.length):nI yn k=yn[k]:=by rw[nI,qLb,qLd h];rfl
def lK (xb:List ByteArray) (yn:List Int) (k:Nat):List ByteArray:=xb++(yn.take k).map fun n=>⟨(Lib.itoa n).toArray⟩
theorem Xk (xb:List ByteArray) (yn:List Int) {k:Nat} (h:k<yn.length):lK xb yn (k+1)=lK xb yn k++[⟨(Lib.itoa yn[k]).toArray⟩]:=by
 rw[lK,lK,List.take_succ_eq_append_getElem h,List.map_append,List.append_assoc];rfl
theorem RQ (xb:List ByteArray) (yn:List Int) {k:Nat} (h:k≤yn.length):(lK xb yn k).length=xb.length+k:=by
 rw[lK,List.length_append,List.length_map,List.length_take];omega
theorem VX:∀ l:List (List UInt8),l.length≤(Dz l).length+1
 | []=>by simp
 | [x]=>by simp
 | x::y::r=>by
  have:=VX (y::r)
  simp only[Dz,List.length_append,List.length_cons]at this ⊢;omega
theorem RS:∀ l:List (List UInt8),Lib.join l [32]=Dz l
 | []=>rfl
 | [x]=>by rw[Lib.join_cons];simp[Lib.joinTail,Dz]
 | x::y::r=>by
  have:=RS (y::r)
  rw[Lib.join_cons]at this ⊢
  rw[Dz,← this]
  simp[Lib.joinTail]
theorem Y7 {e:TypeId} {w w':World} {t:TypeId} {b:Nat} {q:Option (Nat × Nat)} {cs:List Value} {C:Array Value} {fr:Nat × Nat} (h:Am e w t b q cs C fr) (hk:∀ k,k<w.heap.size→w'.heap[k]?=w.heap[k]?):Am e w' t b q cs C fr :=
 { h with
   hw:=(hk b (qAa.1 h.hw).1).trans h.hw
   h1:=Et h.h1 fun g _o hg=>hk g (Y8 h.h1 hg) }
theorem Y9 {N:Prop} {e:TypeId} {w w' w'':World} {t:TypeId} {b:Nat} {q:Option (Nat × Nat)} {cs:List Value} {fr:Nat × Nat} (h:xA N e w' t b q cs fr w'') (hb:Below w.heap.size w w'):xA False e w t b q cs fr w'' where
 keep k hk h1 h2:=(h.keep k (Nat.lt_of_lt_of_le hk hb.size) h1 h2).trans (hb.block k hk)
 size:=Nat.le_trans hb.size h.size
 os:=h.os.trans hb.os
 tape:=h.tape.trans hb.tape
 output:=h.output.trans hb.output
 drawn h:=h.elim
 put:=by
  obtain⟨v',q',h1,h2,h3⟩:=h.put
  exact⟨v',q',h1,h2,fun g o hg=>⟨(h3 g o hg).1,(h3 g o hg).2.imp id fun h=>Nat.le_trans hb.size h⟩⟩
theorem aa3:liesAt Tryd.prog Tryd.prog.depth 112 (2 / Tryd.prog.cellsOf 112) 0 (Tryd.lays156_ren.t 72) 1=true:=by kernel_rfl
theorem aa4:liesAt Tryd.prog Tryd.prog.depth 114 (2 / Tryd.prog.cellsOf 114) 0 (Tryd.lays156_ren.t 72) 1=true:=by kernel_rfl
theorem lays166:Lays.n166 Tryd.prog Tryd.lays156_ren:={ Tryd.lays156 with }
theorem ac3 {G:Bool→World→Prop}:KF Tryd.prog G 77 [112,114] 5 .aa5:=aa6 lays166 Tryd.Builder_Extra_156 [112,114] fun t ht=>by
 simp only[List.mem_cons,List.not_mem_nil,or_false]at ht
 rcases ht with rfl | rfl
 · exact aa3
 · exact aa4
theorem aa7 {w W : World} {t : TypeId} {b : Nat} {q : Option (Nat × Nat)} {cs : List Value} {C : Array Value} {fr : Nat × Nat} (hB : Am 5 w t b q cs C fr) (hbw : Below w.heap.size w W) (ht : t = 112 ∨ t = 114) (L : List UInt8) (hm : cs.length + L.length ≤ 2147483648) :
    Calls Tryd.prog 77 #[.pointer (some ⟨b,0,none⟩),.string ⟨L.toArray⟩] W fun r w'=>r=.returned (.tuple #[.int .i64 (⟨L.toArray⟩:ByteArray).size,.nilIface])∧xA False 5 w t b q (cs++sU L) fr w':=by
  have hb3:=Y7 hB (w':=W) fun k hk=>hbw.block k hk
  have hm':cs.length+(⟨L.toArray⟩:ByteArray).size≤2147483648:=by
   show cs.length+L.toArray.size≤_
   rw[List.size_toArray];exact hm
  have h:=ac3 (G:=fun _ _=>True) t (by rcases ht with rfl | rfl<;>simp) W b q cs C fr ⟨L.toArray⟩ hb3 hm'
  refine h.mono fun r w' h=>⟨h.1,?_⟩
  have h2:=Y9 h.2 hbw
  exact h2
set_option maxHeartbeats 2000000 in
set_option maxRecDepth 100000 in
theorem Xl (w : World) (b : Nat) (q : Option (Nat × Nat)) (cs : List Value) (C : Array Value) (fr : Nat × Nat) (t : TypeId) (xb : List ByteArray) (yn : List Int) (g1 o1 g2 o2 : Nat) (hB : Am 5 w t b q cs C fr) (ht : t = 112 ∨ t = 114)
    (hxs:∀ j u,(xb.map Value.string)[j]?=some u→w.cell? ⟨g1,o1+j,none⟩=some u) (hys:∀ j n,yn[j]?=some n→w.cell? ⟨g2,o2+j,none⟩=some (.int .i64 n)∧-9223372036854775808≤n∧n≤9223372036854775807)
    (hx0:0<xb.length) (hy0:0<yn.length) (hg1:g1<w.heap.size) (hg2:g2<w.heap.size)
    (hm : cs.length + (Dz ((lK xb yn yn.length).map yT) ++ [10]).length ≤ 2147483648) (hG : Lib.TabIs Tryd.prog w "internal/strconv.uint64pow10" .u64 Lib.pow10Tab) :
    Calls Tryd.prog 68 #[.pointer (some ⟨b,0,none⟩),.slice (some ⟨g1,o1,none⟩) xb.length xb.length,.slice (some ⟨g2,o2,none⟩) yn.length yn.length] w fun r w' =>
     r=.returned (.tuple #[])∧xA False 5 w t b q (cs++sU (Dz ((lK xb yn yn.length).map yT)++[10])) fr w':=by
  have hlen:(lK xb yn yn.length).length≤4294967296:=by
   have h1:=VX ((lK xb yn yn.length).map yT)
   rw[List.length_map]at h1
   rw[List.length_append]at hm
   omega
  rw[RQ xb yn (Nat.le_refl _)]at hlen
  have HT : Hid (Lib.TabBelow Tryd.prog w.heap.size w "internal/strconv.uint64pow10" .u64 Lib.pow10Tab) := Lib.tabBelow_of_tabIs hG
  have HY:Hid (∀ j n,yn[j]?=some n→w.cell? ⟨g2,o2+j,none⟩=some (.int .i64 n)∧-9223372036854775808≤n∧n≤9223372036854775807):=hys
  have HM:Hid (cs.length+(Dz ((lK xb yn yn.length).map yT)++[10]).length≤2147483648):=hm
  have HW0:Hid (WAt w w.heap.size (.slice (some ⟨g1,o1,none⟩) xb.length xb.length) g1 o1 ((lK xb yn 0).map Value.string)):=.inl ⟨by simp[lK],hg1,by simpa [lK] using hxs⟩
  have hbs:b<w.heap.size:=(qAa.1 hB.hw).1
  have HB:Hid (Am 5 w t b q cs C fr):=hB
  clear hys hm hG hxs hB
  go_enter Tryd.func68,Tryd.ntmps68
  go_wp2
  go_loopw [1,10] (fun v i wr=>∃ k:Nat,k≤yn.length∧i=.int .i64 k∧WAt wr w.heap.size v g1 o1 ((lK xb yn k).map Value.string)∧Below w.heap.size w wr)
   (fun _ i _=>yn.length-(intOf i).toNat)
  case atStart=>exact⟨0,Nat.zero_le _,rfl,HW0.out,Below.refl _ _⟩
  case round =>
   obtain⟨k,hk,rfl,hW,hbl⟩:=hrel
   have hsz:=hbl.size
   have hwl:=RQ xb yn hk
   obtain⟨ao,cv,hv⟩:=hW.shape
   rw[List.length_map,hwl]at hv
   subst hv
   have hcell:k<yn.length→wr.cell? ⟨g2,o2+k,none⟩=some (.int .i64 (nI yn k)):=fun h=>by
    have h1:=(HY.out k yn[k] (qLd h)).1
    rw[hbl.cell (p:=⟨g2,o2+k,none⟩) hg2]
    rw[h1,Y6 h]
   have hrange:k<yn.length→-9223372036854775808≤nI yn k∧nI yn k≤9223372036854775807:=fun h=>by
    have h1:=(HY.out k yn[k] (qLd h)).2
    rw[Y6 h];exact h1
   go_wp2_with (go_at_fn 76)
   · have hlt:k<yn.length:=by assumption
     refine(Any.strconv_Itoa Tryd.laysM171 _ (hrange hlt).1 (hrange hlt).2 _ (HT.out _ hbl)).mono ?_
     rintro e w1 ⟨rfl,kk,os,hw1⟩
     have hg1':wr.grownBy w1 none:=hw1▸P5 wr kk os
     have hW1:=hW.kept hsz hg1'
     have hs1:=hg1'.size
     have ajJ:Below w.heap.size w w1:=hbl.grown hg1' hsz (fun k e=>by cases e)
     clear hw1 hcell
     go_wp2_with (first
      | (at_builtin; go_loud (refine RP rfl _ _ rfl rfl (hW1.kept (by omega) (World.grownBy_alloc _ _ none)) (by simp; omega) w1.heap.size ⟨(Lib.itoa (nI yn k)).toArray⟩ rfl (Go.cell_one_new _ _ _ 0 _ rfl) (by simp; omega) (by simp; omega) ?_)
         intro v' w2 row hown hgr hrow))
     have hs1':w.heap.size≤(w1.alloc (Obj.cells #[Value.string ⟨(Lib.itoa (nI yn k)).toArray⟩] 9)).heap.size:=by simp;omega
     refine⟨⟨k+1,by omega,by simp,.inr ?_,(ajJ.alloc (by omega) _).grown hgr hs1' hrow⟩,by simp[intOf];omega⟩
     rw[Xk xb yn hlt,List.map_append,List.length_append,← Y6 hlt]
     exact hown
   · have hkm : k = yn.length := by
       rcases Nat.lt_or_ge k yn.length with h | h
       · exfalso;simp_all
       · omega
     subst hkm
     obtain⟨bk,o,rfl,hbk,hcells,hcap⟩:∃ bk o,ao=some ⟨bk,o,none⟩∧bk<wr.heap.size∧(∀ (j:Nat) x,(lK xb yn yn.length)[j]?=some x→wr.cell? ⟨bk,o+j,none⟩=some (.string x))∧(lK xb yn yn.length).length≤cv:=by
      have hl:(lK xb yn yn.length).length=xb.length+yn.length:=hwl
      rcases hW with ⟨h1,h2,h3⟩ | hown
      · simp only[Value.slice.injEq,List.length_map]at h1
        exact⟨g1,o1,h1.1,by omega,fun j x hj=>h3 j (.string x) (by simp[hj]),by omega⟩
      · rcases hown.2 with ⟨h1,h2⟩ | ⟨g,cap,c,h1,h2,h3,h4,_⟩
        · simp only[List.length_map]at h2;omega
        · simp only[Value.slice.injEq,List.length_map]at h1
          refine⟨g,0,h1.1,(qAa.1 h3).1,fun j x hj=>?_,by simp only[List.length_map]at h4;omega⟩
          have hjl:=(qLa.1 hj).1
          rw[h1.1,← hwl,← List.length_map (f:=Value.string)]at hown
          rw[Nat.zero_add,hown.cellAt j (by simp;omega)]
          simp[hj]
     clear hcell hrange
     have aeK : ∀ W : World,W.heap = wr.heap → Calls Tryd.prog 78 #[.slice (some ⟨bk,o,none⟩) (xb.length + yn.length) cv,.string ⟨#[32]⟩] W fun e w' =>
         e=.returned (.string ⟨(Dz ((lK xb yn yn.length).map yT)).toArray⟩)∧Below wr.heap.size W w':=by
       intro W hWh
       have e:Lib.join ((lK xb yn yn.length).map (·.data.toList)) (⟨#[32]⟩:ByteArray).data.toList=Dz ((lK xb yn yn.length).map yT):=RS _
       have h:=HM.out
       rw[List.length_append]at h
       have:=Any.strings_Join Tryd.lays156 Tryd.Builder_Extra_156 bk o cv (lK xb yn yn.length) ⟨#[32]⟩ W (fun j x hj=>by
        have h:=hcells j x hj
        simp only[World.cell?]at h ⊢
        rw[hWh];exact h) (by rw[hWh];exact hbk) (by omega) hcap (by rw[e];omega)
       rw[hwl,e,hWh]at this
       exact this
     have hWs : ∀ W : World,Below wr.heap.size wr.drew W → Calls Tryd.prog 77 #[.pointer (some ⟨b,0,none⟩),.string ⟨(Dz ((lK xb yn yn.length).map yT) ++ [10]).toArray⟩] W fun r w' =>
         r=.returned (.tuple #[.int .i64 (⟨(Dz ((lK xb yn yn.length).map yT)++[10]).toArray⟩:ByteArray).size,.nilIface])∧xA False 5 w t b q (cs++sU (Dz ((lK xb yn yn.length).map yT)++[10])) fr w':=by
       intro W hWb
       have h1:Below w.heap.size w wr.drew:=hbl.grown (row:=none) ⟨rfl,rfl,rfl,Nat.le_refl _,fun _ _ _=>rfl⟩ hsz (fun k e=>by cases e)
       exact aa7 HB.out (h1.trans (hWb.mono hsz)) ht _ HM.out
     have mixed:Tryd.prog.follows .mixedOrders=true:=by kernel_rfl
     clear hcells hcap hW HY HW0
     have hl:(Dz ((lK xb yn yn.length).map yT)).length≤2147483648:=by
      have h:=HM.out
      rw[List.length_append]at h
      omega
     have hadd:∀ W:World,(Op.stringOp .add (⟨(Dz ((lK xb yn yn.length).map yT)).toArray⟩:ByteArray) ⟨#[10]⟩).run Tryd.prog W=.ok (.string ⟨(Dz ((lK xb yn yn.length).map yT)++[10]).toArray⟩) W:=fun W=>by
      have h1:(⟨(Dz ((lK xb yn yn.length).map yT)).toArray⟩:ByteArray).size=(Dz ((lK xb yn yn.length).map yT)).length:=by
       show (Dz ((lK xb yn yn.length).map yT)).toArray.size=_
       rw[List.size_toArray]
      have h2:(⟨#[10]⟩:ByteArray).size=1:=rfl
      rw[run_string_add_sum (P:=Tryd.prog) (w:=W) _ _ (by rw[h1,h2];omega)]
      have h3:(⟨(Dz ((lK xb yn yn.length).map yT)).toArray⟩:ByteArray)++⟨#[10]⟩=⟨(Dz ((lK xb yn yn.length).map yT)++[10]).toArray⟩:=Xm _ [10]
      rw[h3]
     go_region_with (first
      | (go_at_call 78;go_loud (refine(aeK wr.drew rfl).mono ?_);rintro e w3 ⟨rfl,hb3⟩)
      | (go_at_call 77;go_loud (refine(hWs w3 hb3).mono ?_);rintro e w4 ⟨rfl,hput⟩))
     all_goals
      go_end0
      exact⟨rfl,hput⟩
theorem Xn (xs ys:List PV) (_h:∀ x∈xs,∃ s,x=.str s):(lK (xs.map PV.toStr) (ys.map PV.toInt) (ys.map PV.toInt).length).map yT=xs.map (fun x:PV=>x.toStr.toList)++ys.map fun y:PV=>Lib.itoa y.toInt:=by
 rw[lK,List.take_length,List.map_append,List.map_map,List.map_map,List.map_map]
 congr 1
 · exact List.map_congr_left fun x _=>(ByteArray.toList_eq _).symm
theorem aaX:KF Tryd.prog tab.glob 68 [112,114] 5 (.RU rD):=by
 intro t ht w b q cs C fr xs ys g1 o1 g2 o2 hB hxs hys hx0 hy0 hg1 hg2 _ _ _ _ hm s hG
 obtain⟨rfl,hG⟩:=hG
 have ht':t=112∨t=114:=by simpa using ht
 have hstr:∀ x∈xs,∃ s,x=.str s:=fun x hx=>by
  obtain⟨i,hi⟩:=List.mem_iff_getElem?.1 hx
  obtain⟨s,rfl,_⟩:=hxs i x hi
  exact⟨s,rfl⟩
 have hw:=Xn xs ys hstr
 have hL:(rD xs ys)=⟨(Dz ((lK (xs.map PV.toStr) (ys.map PV.toInt) (ys.map PV.toInt).length).map yT)++[10]).toArray⟩:=by rw[hw];rfl
 rw[hL]at hm ⊢
 have hm':cs.length+(Dz ((lK (xs.map PV.toStr) (ys.map PV.toInt) (ys.map PV.toInt).length).map yT)++[10]).length≤2147483648:=by
  rw[← List.size_toArray];exact hm
 have h := Xl w b q cs C fr t (xs.map PV.toStr) (ys.map PV.toInt) g1 o1 g2 o2 hB ht' (fun j u hj => by
     rw[List.getElem?_map,List.getElem?_map]at hj
     cases hx:xs[j]? with
     | none=>rw[hx]at hj;cases hj
     | some x =>
      rw[hx]at hj
      obtain⟨s,rfl,hc⟩:=hxs j x hx
      cases hj
      exact hc) (fun j n hj=>by
     rw[List.getElem?_map]at hj
     cases hy:ys[j]? with
     | none=>rw[hy]at hj;cases hj
     | some y =>
      rw[hy]at hj
      obtain⟨m,⟨rfl,h1,h2⟩,hc⟩:=hys j y hy
      cases hj
      exact⟨hc,h1,h2⟩) (by simpa using hx0) (by simpa using hy0) hg1 hg2 hm' hG
 have e1:(xs.map PV.toStr).length=xs.length:=List.length_map _
 have e2:(ys.map PV.toInt).length=ys.length:=List.length_map _
 generalize (ys.map PV.toInt).length=n2 at h e2 ⊢
 generalize (xs.map PV.toStr).length=n1 at h e1 ⊢
 subst e1 e2
 refine h.mono fun r w' h=>⟨h.1,?_⟩
 have h2:=h.2
 exact { h2 with drawn:=fun h=>absurd h (by decide) }
end Go.Skm.Prg
