/-
  The library's answers are true; condition: the row's variables hold what the row lists, and the world has the form's shape.
-/
import Derived.Test.YtipkmkmngcjdbaaGreatDoorF21
import Derived.Test.YtipkmkmngcjdbaaGreatDoorTabOk
import Derived.Test.YtipkmkmngcjdbaaGreatDoorIter4
import Derived.Test.YtipkmkmngcjdbaaGreatDoorRows
import Derived.Test.YtipkmkmngcjdbaaGreatDoorSkmI
import Derived.Test.YtipkmkmngcjdbaaGreatDoorSkmH
import Derived.Shelf.Vars
import Derived.MakeChecks
set_option maxRecDepth 100000
namespace Go.Skm.Fig
open Go Go.Skm Go.Proofs Go.Shelf Go.RowKit Go.Lib Go.Sort
theorem Nq {β:Type} {f:Nat} {x:β}:∀ {l:List (Nat × β)},bG l f=some x→(f,x)∈l
 | [],h=>by cases h
 | (k,y)::r,h=>by
  simp only[bG]at h
  cases hk:(k==f) with
  | true =>
   rw[hk]at h
   simp only[cond_true,Option.some.injEq]at h
   rw[beq_iff_eq]at hk
   subst h hk
   exact .head _
  | false =>
   rw[hk]at h
   exact .tail _ (Nq h)
theorem Tq:(tab.funcs.filter fun p=>p.2.cfg.zT.is)=[(39,acd),(41,ace)]:=by kernel_rfl
theorem aan:OJ Tryz.prog tab:=by
 intro f fi hf hp
 have hm:(f,fi)∈(tab.funcs.filter fun p=>p.2.cfg.zT.is):=List.mem_filter.2 ⟨Nq hf,hp⟩
 rw[Tq]at hm
 simp only[List.mem_cons,List.not_mem_nil,or_false,Prod.mk.injEq]at hm
 rcases hm with ⟨rfl,rfl⟩ | ⟨rfl,rfl⟩
 · exact⟨⟨_,rfl⟩,aao Tryz.lays166 Tryz.Builder_Extra_166⟩
 · exact⟨⟨_,rfl⟩,acf Tryz.lays169 Tryz.Builder_Extra_169⟩
theorem Vh:bP Tryz.prog tab:=ad4 aan
theorem aap {gl:Option (List (Nat × Obj))}:zA Tryz.prog tab gl fun _=>none:=fun f fi s args bl rs iU _ h=>by cases h
def abq (P:Program) (t:TypeId) (n:Nat):Bool:=match P.info? t with
 | some i=>(match i.zero with
  | some z=>Nat.beq z.cells.size n&&Nat.beq i.size n
  | none=>false)
 | none=>false
theorem Qy {P:Program} {t:TypeId} {n:Nat} (h:abq P t n=true):∃ i z,P.info? t=some i∧i.zero=some z∧i.size=n∧z.cells.size=n:=by
 unfold abq at h
 cases h1:P.info? t with
 | none=>rw[h1]at h;cases h
 | some i =>
  rw[h1]at h
  simp only at h
  cases h2:i.zero with
  | none=>rw[h2]at h;cases h
  | some z =>
   rw[h2]at h
   simp only[Bool.and_eq_true]at h
   exact⟨i,z,rfl,h2,Nat.eq_of_beq_eq_true h.2,Nat.eq_of_beq_eq_true h.1⟩
def Yw:PV→Option V3
 | .agg [.int .i64 x,.int .i64 y,.int .i64 z]=>some ⟨x,y,z⟩
 | _=>none
def qH:SortEnc V3 where
 ks:=kV
 pc v:=[.int .i64 v.x,.int .i64 v.y,.int .i64 v.z]
 dec:=Yw
 len _:=rfl
 flat x c hc:=by
  simp only[List.mem_cons,List.not_mem_nil,or_false]at hc
  rcases hc with rfl | rfl | rfl<;>rfl
 kinds _:=rfl
 enc_dec _:=rfl
 dec_enc p x h:=by
  unfold Yw at h
  split at h
  · cases h;rfl
  · cases h
theorem Vj (l:List V3):qH.encs l=bJ l:=rfl
theorem aaq {l m:List V3} (hn:l.Nodup) (h1:m.Perm l) (h2:m.Pairwise fun a b=>mF b a≠-1):m=X4 l:=by
 refine Yx ?_ fun v=>h1.mem_iff
 have hm:m.Nodup:=h1.nodup_iff.2 hn
 exact(h2.and hm).imp fun {a b} h=>by
  rcases OL a b with e | e | e
  · exact e
  · exact absurd (cmp_eq.1 e) h.2
  · exact absurd (Tt.1 e) h.1
theorem lt_iff {a b:V3}:ltOf mF a b=true↔mF a b=-1:=by
 unfold ltOf
 rw[decide_eq_true_eq]
 rcases OL a b with h | h | h<;>omega
theorem aiQ:SWO (ltOf mF) where
 irrefl x:=by
  cases h:ltOf mF x x
  · rfl
  · rw[lt_iff,Af]at h;omega
 trans x y z h1 h2:=by rw[lt_iff]at *;exact lt_trans h1 h2
 ntrans x y z h1 h2:=by
  cases h:ltOf mF x z
  · rfl
  · rw[lt_iff]at h
    have a1:¬ mF x y=-1:=fun e=>by rw[lt_iff.2 e]at h1;cases h1
    have a2:¬ mF y z=-1:=fun e=>by rw[lt_iff.2 e]at h2;cases h2
    rcases OL x y with e | e | e
    · exact absurd e a1
    · rw[cmp_eq.1 e]at h;exact absurd h a2
    · exact absurd (lt_trans (Tt.1 e) h) a2
theorem ad5:Yy mF:=by
 intro w x y
 have hr:run tab (fun _=>none) 34 [.p (.agg (qH.pc x)),.p (.agg (qH.pc y))] []=some ([.p (.int .i64 (mF x y))],[]):=u35 (fun _=>none) (fun _ _=>rfl) x y
 exact Wv Vh (X:=fun _=>none) aap (g:=34) (fi:=acg) (by kernel_rfl) rfl (t:=3) rfl qH hr w
def Qz:zB:=fun args bl=>match args,bl with
 | [.p (.fn k [.ref [.zX ks _]]),.p (.fn g [])],[]=>match qH.decs ks with
  | some l=>if(k==64&&(g==34&&(decide (l.length≤100000)&&decide l.Nodup)))=true then some ([.fresh true kV (bJ (X4 l))],[]) else none
  | none=>none
 | _,_=>none
theorem Nr {fi : FI} {β : Nat → Option (Nat × Nat)} {t e el : TypeId} {w' : World} {v' : Value} {base : Nat} {h : Nat → Option aI} {l : List V3} (hr : fi.cfg.rets = [.fresh]) (ht : fi.fn.resultTypes = #[t]) (hu : und tab t = some (.slice e)) (hsh : aB tab e = (true,kV))
    (ho:w'.ownsRow base el 3 v' l.length (cells l)):∃ ps,(∀ M:Nat→Prop,qA tab w' M β h fi.cfg.rets fi.fn.resultTypes.toList [.fresh true kV (bJ l)] [v'] ps)∧∀ b o,some (b,o)∈ps→b<w'.heap.size∧base≤b:=by
  by_cases h0:l=[]
  · subst h0
    exact Wx hr ht hu hsh ho
  have e1:(aB tab e).1=true:=by rw[hsh]
  have e2:(aB tab e).2=kV:=by rw[hsh]
  obtain⟨-,⟨-,hz⟩ | ⟨g,cap,cur,rfl,hb,hg,hcap,-,hsz,htk⟩⟩:=ho
  · exact absurd (List.length_eq_zero_iff.1 hz) h0
  · refine⟨[some (g,0)],fun M=>?_,fun b o h=>?_⟩
    · rw[hr,ht]
      refine .cons _ _ _ _ _ _ _ _ _ ?_ (.nil _) (fun b o o' _ h=>by cases h)
      have hopen:Open cur (0,0):=.inl rfl
      have key:=qB.fresh (T:=tab) (w:=w') (M:=M) (β:=β) (h:=h) t e (bJ l) (.slice (some ⟨g,0,none⟩) l.length cap) (some (g,0)) hu
      rw[e1,e2]at key
      refine key ?_ ?_
      · refine .arr true kV (bJ l) g 0 cur el (0,0) rfl hg (by rw[aQ,hsz];show 0+l.length*3≤cap*3;omega) hopen (fun x hx=>?_) fun i x j c hx hc=>?_
        · obtain⟨v,_,rfl⟩:=List.mem_map.1 hx
          rfl
        · rw[nT]at hx
          obtain⟨v,hv,rfl⟩:=Option.map_eq_some_iff.1 hx
          have hi:i<l.length:=(List.getElem?_eq_some_iff.1 hv).1
          have hvi:l[i]=v:=(List.getElem?_eq_some_iff.1 hv).2
          have hj:j<3:=(List.getElem?_eq_some_iff.1 hc).1
          have hcc:=cells_at l i j hj hi
          rw[← htk,List.getElem?_take_of_lt (by omega),Array.getElem?_toList,hvi]at hcc
          have hd:cur.getD (0+i*kV.length+j) undef=((cVal v)[j]?).getD undef:=by
           rw[Array.getD_eq_getD_getElem?,show 0+i*kV.length+j=i*3+j by show 0+i*3+j=_;omega,hcc]
          rw[hd]
          match j,hj,hc with
          | 0,_,hc=>cases hc;exact .int _ _
          | 1,_,hc=>cases hc;exact .int _ _
          | 2,_,hc=>cases hc;exact .int _ _
      · have key2:=AR.slice (w:=w') (M:=M) (β:=fun _=>some (g,0)) (h:=fun _=>some (.arr true kV (bJ l))) 0 0 l.length true kV (bJ l) g 0 cap rfl (by simp) rfl hcap (.mk hg (by rw[hsz];show 0+(0+cap)*3≤_;omega) hopen)
        simpa using key2
    · simp only[List.mem_singleton,Option.some.injEq,Prod.mk.injEq]at h
      obtain⟨rfl,rfl⟩:=h
      exact⟨(Array.getElem?_eq_some_iff.1 hg).1,hb⟩
theorem ach {w:World} {M:Nat→Prop} {v:V3} {c:Value} (h:VR w M (eV v) c):c=qI v:=by
 cases h with
 | agg _ vs hn hl h =>
  have h0:=h 0 _ rfl
  have h1:=h 1 _ rfl
  have h2:=h 2 _ rfl
  have hs:vs.size=3:=hn
  have e0:=fZ h0
  have e1:=fZ h1
  have e2:=fZ h2
  unfold qI
  congr 1
  apply Array.ext
  · simpa using hs
  · intro i hi hi'
    have:i=0∨i=1∨i=2:=by omega
    rcases this with rfl | rfl | rfl
    · have:vs.getD 0 undef=vs[0]:=by simp[Array.getD,hs]
      rw[← this,e0];rfl
    · have:vs.getD 1 undef=vs[1]:=by simp[Array.getD,hs]
      rw[← this,e1];rfl
    · have:vs.getD 2 undef=vs[2]:=by simp[Array.getD,hs]
      rw[← this,e2];rfl
theorem WC {gl:Option (List (Nat × Obj))} (hne:gl≠none):yO Tryz.prog tab gl 32 Qz:=by
 intro fi args bl rs iU hfi h
 have wK:bG tab.funcs 32=some WE:=by kernel_rfl
 have:fi=WE:=by rw[wK]at hfi;exact(Option.some.inj hfi).symm
 subst this
 unfold Qz at h
 split at h
 · next k ks vs g =>
   split at h
   · next l hd =>
     split at h
     · next hc =>
       simp only[Bool.and_eq_true,beq_iff_eq,decide_eq_true_eq]at hc
       obtain⟨rfl,rfl,hn,hnd⟩:=hc
       have hks:=qH.Ns hd
       subst hks
       cases h
       refine⟨⟨_,rfl⟩,by simp,fun w M β aG hgl hpre=>?_⟩
       obtain⟨v,u,rfl,hv,hu⟩:=xQ hpre
       have c1:u=.func (.func 34) #[] #[]:=by
        cases hu with
        | fn _ _ vs hn _ =>
         have:vs=#[]:=Array.eq_empty_of_size_eq_zero (by simpa using hn)
         rw[this]
       subst c1
       obtain⟨Bm,bo,b,hv',hM,hcell,hown⟩:∃ Bm bo b,v=.func (.func 64) #[] #[.pointer (some ⟨Bm,bo,none⟩)]∧M Bm∧w.cell? ⟨Bm,bo,none⟩=some (.map (some b))∧MapKeys w b l:=by
        cases hv with
        | fn _ _ xs hn h =>
         have h0:=h 0 _ rfl
         have hs:xs.size=1:=hn
         generalize hx:xs.getD 0 undef=x at h0
         have hxs:xs=#[x]:=by
          apply Array.ext
          · simpa using hs
          · intro i hi hi'
            have:i=0:=by simp at hi';exact hi'
            subst this
            have:xs.getD 0 undef=xs[0]:=by simp[Array.getD,hs]
            rw[← this,hx];rfl
         cases h0 with
         | ref _ Bm bo f hM hl hc hv2 =>
          have q1:=hc 0 _ rfl
          have q2:=hv2 0 _ rfl
          generalize f 0=y at q1 q2
          cases q2 with
          | zX _ _ b E k hMb hw hwf hlen hk hvv =>
           refine⟨Bm,bo,b,by rw[hxs],hM,q1,E,k,hw,?_,hwf.2.1,hwf.2.2⟩
           have hsz:E.size=l.length:=by rw[hwf.1];exact qH.QA l
           apply List.ext_getElem
           · simp[hsz]
           · intro i h1 h2
             have hi:i<l.length:=by simpa using h2
             have hiE:i<E.size:=by omega
             have hkk:=hk i (eV l[i]) E[i] (by rw[Vj,nT,List.getElem?_eq_getElem hi];rfl) (Array.getElem?_eq_getElem hiE)
             have:=ach hkk
             simp only[List.getElem_map,Array.getElem_toList]
             exact this
       subst hv'
       refine Calls.mono (Yz aiQ ad5 Bm bo b l hn w (hpre.fJ Bm hM) hcell hown) fun e w' hp=>?_
       obtain⟨v,m,rfl,hperm,hsort,hrow,hb⟩:=hp
       have hm:m=X4 l:=aaq hnd hperm (hsort.imp fun {a b} h e=>by rw[lt_iff.2 e]at h;cases h)
       subst hm
       obtain⟨ps,p1,p2⟩:=Nr (fi:=WE) (β:=β) (h:=look (dN 0 [])) (t:=26) (e:=43) rfl (by kernel_rfl) (by kernel_rfl) (by kernel_rfl) hrow
       exact⟨[v],ps,M,rfl,nC hpre hb (fun e=>absurd e hne) p1 p2⟩
     · cases h
   · cases h
 · cases h
def Jy:zB:=fun args bl=>match args,bl with
 | [.p (.list true ks xs)],[]=>match qH.decs xs with
  | some l=>if(Kd.wL ks kV&&decide (l.length≤100000))=true then some ([.fresh true kV (bJ l)],[]) else none
  | none=>none
 | _,_=>none
theorem Tv {gl:Option (List (Nat × Obj))} (hne:gl≠none):yO Tryz.prog tab gl 48 Jy:=by
 intro fi args bl rs iU hfi h
 have wK:bG tab.funcs 48=some Tz:=by kernel_rfl
 have:fi=Tz:=by rw[wK]at hfi;exact(Option.some.inj hfi).symm
 subst this
 unfold Jy at h
 split at h
 · next ks xs =>
   split at h
   · next l hd =>
     split at h
     · next hc =>
       simp only[Bool.and_eq_true,decide_eq_true_eq]at hc
       obtain⟨hk,hn⟩:=hc
       have hk:=Kd.jY _ _ hk
       subst hk
       have hks:=qH.Ns hd
       rw[Vj]at hks
       subst hks
       cases h
       refine⟨⟨_,rfl⟩,by simp,fun w M β aG hgl hpre=>?_⟩
       obtain⟨v,rfl,hv⟩:=F5 hpre
       obtain⟨i0,z,k1,k2,k3,k4⟩:=Qy (P:=Tryz.prog) (t:=Tryz.lX.t 23) (n:=3) (by kernel_rfl)
       have k5:i0.bytes=24:=by
        have:(Tryz.prog.info? (Tryz.lX.t 23)).map (·.bytes)=some 24:=by kernel_rfl
        rw[k1]at this
        exact Option.some.inj this
       have fin:∀ (v':Value) (w':World),w'.ownsRow w.heap.size (Tryz.lX.t 23) 3 v' l.length (cells l)→Below w.heap.size w w'→∃ cs ps M',Ending.returned v'=.returned (rP cs)∧rQ gl tab Tz w M β [] [.fresh true kV (bJ l)] [] w' M' cs ps:=by
        intro v' w' ho hb
        obtain⟨ps,p1,p2⟩:=Nr (fi:=Tz) (β:=β) (h:=look (dN 0 [])) (t:=26) (e:=43) rfl (by kernel_rfl) (by kernel_rfl) (by kernel_rfl) ho
        exact⟨[v'],ps,M,rfl,nC hpre hb (fun e=>absurd e hne) p1 p2⟩
       generalize hys:bJ l=ys at hv
       cases hv with
       | list _ _ _ b o cap g hM hcap hcc TA hsh =>
        subst hys
        rw[aQ]at hcap ⊢
        refine(AnyE.slices_Clone Tryz.laysClone i0 z 3 i0.bytes k1 k2 k3 rfl k4 (by decide) (fun w=>Tryz.sizeOf43 w) b o l.length cap (cells l) w (kM l) (by show l.length≤maxLen;exact Nat.le_trans hn (by decide)) (by rw[k5];omega) (fun j u hj=>?_) (fun u hu=>?_)).mono fun e w' ⟨v',he,ho,_,hb⟩=>?_
        · have hjl:j<l.length*3:=by rw[← kM];exact(List.getElem?_eq_some_iff.1 hj).1
          have hi:j / 3<l.length:=by omega
          have hm:j%3<3:=by omega
          have h1:=cells_at l (j / 3) (j%3) hm hi
          rw[show j / 3*3+j%3=j by omega]at h1
          rw[h1]at hj
          have hx:(bJ l)[j / 3]?=some (eV l[j / 3]):=by rw[nT,List.getElem?_eq_getElem hi];rfl
          have hr:j%3=0∨j%3=1∨j%3=2:=by omega
          have hpos:∀ r,j%3=r→o+j / 3*kV.length+r=o+j:=fun r hr=>by show o+j / 3*3+r=_;omega
          rcases hr with hr | hr | hr<;>rw[hr]at hj
          · have a1:=hcc _ _ 0 _ hx rfl
            have a2:=fZ (TA _ _ 0 _ hx rfl)
            rw[hpos 0 hr,a2]at a1
            rw[a1];exact hj
          · have a1:=hcc _ _ 1 _ hx rfl
            have a2:=fZ (TA _ _ 1 _ hx rfl)
            rw[hpos 1 hr,a2]at a1
            rw[a1];exact hj
          · have a1:=hcc _ _ 2 _ hx rfl
            have a2:=fZ (TA _ _ 2 _ hx rfl)
            rw[hpos 2 hr,a2]at a1
            rw[a1];exact hj
        · obtain⟨x,hx,hu⟩:=List.mem_flatMap.1 hu
          exact Jz x u hu
        · subst he
          exact fin _ _ ho hb
       | kD _ _ base cap =>
        have hl0:l=[]:=by cases l with | nil=>rfl | cons _ _=>cases hys
        subst hl0
        cases base with
        | none =>
         refine(AnyE.slices_Clone_nil Tryz.laysClone 0 cap w).mono fun e w' ⟨he,hw⟩=>?_
         subst hw
         subst he
         exact fin _ _ ⟨rfl,.inl ⟨rfl,rfl⟩⟩ (Below.refl _ _)
        | some a =>
         refine(JA Tryz.laysClone i0 z 3 i0.bytes k1 k2 k3 rfl k4 (by decide) (fun w=>Tryz.sizeOf43 w) a cap w).mono fun e w' ⟨v',he,ho,hb⟩=>?_
         subst he
         exact fin _ _ ho hb
     · cases h
   · cases h
 · cases h
def QB:Ext:=WG [(32,Qz),(43,aar),(48,Jy),(75,Vk),(76,Vl),(79,OM),(81,Vm),(82,OO)]
theorem QC {f n:Nat} (hn:(f==n)=false):(n==f)=false:=by
 rw[beq_eq_false_iff_ne]at hn ⊢
 exact fun e=>hn e.symm
theorem Vo:Mine QB:=by
 intro f h
 simp only[ad6,Bool.or_eq_false_iff]at h
 obtain⟨h1,h2,h3,h4,h5,h6,h7,h8,h9⟩:=h
 unfold QB WG
 simp only[bG,QC h1,QC h2,QC h3,QC h5,QC h6,QC h7,QC h8,QC h9,cond_false]
theorem YA (c:UInt8):∀ l:List UInt8,(Lib.cut l [c])=qC c l
 | []=>rfl
 | x::l=>by
  have ih:=YA c l
  have hp:([c]:List UInt8).isPrefixOf (x::l)=(c==x):=by simp[List.isPrefixOf]
  unfold Lib.cut at ih ⊢
  rw[Lib.index,hp]
  by_cases h:x=c
  · subst h
    simp[qC]
  · have h1:(c==x)=false:=by simp;exact fun e=>h e.symm
    have h2:(x==c)=false:=by simpa using h
    rw[h1]
    simp only[qC,h2,cond_false,Bool.false_eq_true,if_false]
    rcases Lib.index_spec l [c] with ⟨e,_⟩ | ⟨i,e,_⟩
    · rw[e]at ih ⊢
      simp at ih ⊢
      rw[← ih]
      simp
    · rw[e]at ih ⊢
      have hb:((i:Int)==-1)=false:=by rw[beq_eq_false_iff_ne];omega
      rw[hb]
      rw[if_pos (by omega)]at ih
      simp only[Bool.false_eq_true,if_false]
      rw[if_pos (by omega),← ih]
      simp only[Int.toNat_natCast,List.length_cons,List.length_nil]
      rw[show ((i:Int)+1).toNat=i+1 by omega,List.take_succ_cons,show i+1+(0+1)=(i+(0+1))+1 by omega,List.drop_succ_cons]
theorem G9:∀ r:List (List UInt8),Lib.joinTail [32] r=spW r
 | []=>rfl
 | w::r=>by
  have:=G9 r
  unfold Lib.joinTail at this ⊢
  rw[List.map_cons,List.flatten_cons,this,spW]
  rfl
theorem join_eq:∀ l:List (List UInt8),Lib.join l [32]=rU 32 l
 | []=>rfl
 | w::r=>by rw[Lib.join_cons,QD,G9]
theorem YB:Texts QB:=by
 refine⟨fun n h0 h1=>vZ (fi:=aas) (by kernel_rfl) rfl ?_,fun l hl=>vZ (fi:=aat) (by kernel_rfl) rfl ?_,fun l hl=>vZ (fi:=aau) (by kernel_rfl) rfl ?_,fun l hl=>vZ (fi:=aav) (by kernel_rfl) rfl ?_,fun l h1 h2=>vZ (fi:=aaw) (by kernel_rfl) rfl ?_,fun l hl=>vZ (fi:=aax) (by kernel_rfl) rfl ?_⟩
 · unfold Vk
   simp only
   rw[if_pos ⟨h0,h1⟩]
 · unfold OM
   show (if(ba l).size<4294967281 then _ else none)=_
   rw[if_pos (by rw[yP];omega)]
   rfl
 · unfold Vm
   show (if(ba l).size≤281474976710656 then _ else none)=_
   rw[if_pos (by rw[yP];omega)]
   rfl
 · unfold aar
   show (if(ba l).size<4294967281 then _ else none)=_
   rw[if_pos (by rw[yP];omega),show (ba l).data.toList=l from rfl,show (⟨#[10]⟩:ByteArray).data.toList=[10] from rfl,YA]
 · have e1 : strsOf (eW l) = some (l.map ba) := by
     have:=JB (l.map ba)
     rw[List.map_map]at this
     exact this
   have e2:(l.map ba).map (fun x:ByteArray=>x.data.toList)=l:=by
    rw[List.map_map]
    exact(List.map_congr_left fun x _=>aay x).trans (List.map_id _)
   unfold Vl
   simp only
   rw[e1]
   simp only
   rw[e2]
   show (if _∧_∧(Lib.join l [32]).length≤100000000 then some ([AV.p (PV.str (ba (Lib.join l [32])))],[]) else none)=_
   rw[join_eq]
   rw[if_pos ⟨rfl,by rw[List.length_map];omega,h2⟩]
 · unfold OO
   show (if(ba TB).size<4294967281 then _ else none)=_
   rw[if_pos (by decide)]
   rfl
theorem aaz:OQ QB:=fun l hl hn=>by
 refine⟨X4 l,vZ (fi:=WE) (s:=Qz) (by kernel_rfl) rfl ?_,OT l,fun v=>I5 v l⟩
 unfold Qz
 simp only
 rw[show qH.decs (bJ l)=some l from qH.Nu l]
 simp only
 rw[if_pos (by simp[hn];omega)]
theorem WH:EC QB:=fun l hl=>vZ (fi:=Tz) (s:=Jy) (by kernel_rfl) rfl (by
 unfold Jy
 simp only
 rw[show qH.decs (bJ l)=some l from qH.Nu l]
 simp only
 rw[if_pos (by simp[hl];rfl)])
theorem YC:Known QB:=known QB Vo YB WH aaz
open Go.Proofs.YtipkmkmngcjdbaaGreatDoor
def He : List (String × DataW Unit) := [("math/bits.deBruijn32tab", Rows.laid_math_bits_deBruijn32tab), ("math/bits.deBruijn64tab", Rows.laid_math_bits_deBruijn64tab), ("internal/strconv.uint64pow10", Rows.laid_internal_strconv_uint64pow10),
 ("unicode/utf8.acceptRanges", Rows.laid_unicode_utf8_acceptRanges), ("strconv.ErrRange", Rows.laid_strconv_ErrRange), ("strconv.ErrSyntax", Rows.laid_strconv_ErrSyntax), ("unicode/utf8.first", Rows.laid_unicode_utf8_first)]
theorem TD:Rows.laid_internal_strconv_uint64pow10 (H:=Unit)=Lib.tabData .u64 Lib.pow10Tab:=by kernel_rfl
def gls:List Nat:=[0,1,2,3]
theorem YD : Tryz.prog.globalNamed "strconv.ErrSyntax" = some 1 := by kernel_rfl
theorem aaA : Tryz.prog.globalNamed "strconv.ErrRange" = some 2 := by kernel_rfl
theorem Vp : Tryz.prog.globalNamed "internal/strconv.uint64pow10" = some 3 := by kernel_rfl
theorem aci {W:World} (hL:laidMetH Tryz.prog He W) (hS:W.ShapedOpen Tryz.prog):zA Tryz.prog tab (some (TF W gls)) QB:=by
 rw[MakeChecks.laidMetH_plain _ _ _ (by kernel_rfl)]at hL
 have hP : Lib.TabIs Tryz.prog W "internal/strconv.uint64pow10" .u64 Lib.pow10Tab := by
  have h : laidMet Tryz.prog (("internal/strconv.uint64pow10", Rows.laid_internal_strconv_uint64pow10) :: He.drop 3) W := BG 2 hL
  rw[TD]at h
  exact Lib.tabIs_of_head Vp (t:=182) (e:=144) (n:=20) (by kernel_rfl) (by kernel_rfl) (by kernel_rfl) (by kernel_rfl) (by kernel_rfl) h
 obtain⟨u1,v1,hR⟩:∃ u v,W.cell? ⟨2,0,none⟩=some (.iface u v):=by
  have h : laidMet Tryz.prog (("strconv.ErrRange", Rows.laid_strconv_ErrRange) :: He.drop 5) W := BG 4 hL
  exact JC h aaA (ti:=74) (by kernel_rfl) Tryz.underlying74
 obtain⟨u0,v0,hY⟩:∃ u v,W.cell? ⟨1,0,none⟩=some (.iface u v):=by
  have h : laidMet Tryz.prog (("strconv.ErrSyntax", Rows.laid_strconv_ErrSyntax) :: He.drop 6) W := BG 5 hL
  exact JC h YD (ti:=74) (by kernel_rfl) Tryz.underlying74
 obtain⟨m,hM⟩:=Tryz.laysM146.s1_3 W hS
 have hne:some (TF W gls)≠none:=by simp
 have hm:∀ w:World,(∀ p∈(some (TF W gls)).getD [],w.heap[p.1]?=some p.2)→∃ m,w.cell? ⟨0,0,none⟩=some (.int .i64 m):=fun w hw=>⟨m,F6 hw (g:=0) (by decide) hM⟩
 refine mJ (WC hne) (mJ (YE hne (fi:=aav) Tryz.YF rfl (by kernel_rfl) rfl rfl (t:=9) (u:=9) (v:=4) rfl (by kernel_rfl) (by kernel_rfl) (by kernel_rfl) hm)
  (mJ (Tv hne) (mJ (WI hne (fi:=aas) Tryz.laysM171 rfl (by kernel_rfl) rfl rfl (t:=9) rfl (by kernel_rfl) fun w hw=>?_)
  (mJ (TG hne (fi:=aaw) Tryz.lays156 Tryz.Builder_Extra_156 rfl (by kernel_rfl) rfl rfl (t:=9) rfl (by kernel_rfl))
  (mJ (QE hne (fi:=aat) Tryz.laysM146 rfl (by kernel_rfl) rfl rfl rfl (t:=83) rfl (by kernel_rfl) hm)
  (mJ (WJ hne (fi:=aau) Tryz.laysC172 rfl (by kernel_rfl) rfl rfl (t:=3) (u:=74) rfl (by kernel_rfl) (by kernel_rfl) (fun w hw=>?_) fun w hw=>?_)
  (mJ (TJ hne (fi:=aax) Tryz.laysM143 rfl (by kernel_rfl) rfl rfl (t:=3) rfl (by kernel_rfl) hm) WL)))))))
 · exact YG hw (g:=3) (by decide) Vp hP
 · exact⟨_,F6 hw (g:=1) (by decide) hY,.inr ⟨_,_,rfl⟩⟩
 · exact⟨_,F6 hw (g:=2) (by decide) hR,.inr ⟨_,_,rfl⟩⟩
end Go.Skm.Fig
