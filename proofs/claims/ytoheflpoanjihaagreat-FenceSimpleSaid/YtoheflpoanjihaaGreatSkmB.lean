import Derived.Test.YtoheflpoanjihaaGreatSkmA
import Derived.Laws.BytesArg
namespace Go.Skm
section
variable {P:Program} {T:Tab} {w:World} {M:Nat→Prop} {β:Nat→Option (Nat × Nat)} {h:Nat→Option cu}
def QU (w:World) (M:Nat→Prop) (β:Nat→Option (Nat × Nat)) (h:Nat→Option cu):Option AV→Option Value→Prop
 | none,none=>True
 | some v,some c=>AR w M β h v c
 | _,_=>False
theorem wR {d:Int} {v:AV} {c:Value} {n:Int} (hv:AR w M β h v c) (hb:bound d (some v)=some n):∃ k,c=.int k n:=by
 unfold bound at hb;split at hb
 · cases ‹some v=none›
 · rename_i k m e;cases e;cases hb;exact⟨k,hv.Au⟩
 · cases hb
theorem Jw (b : Bool) {len cap : Nat} {lo hi : Option AV} {clo chi : Option Value} {l u : Int} (h1 : QU w M β h lo clo) (h2 : QU w M β h hi chi)
    (e1:bound 0 lo=some l) (e2:bound len hi=some u) (q1:0≤l) (q2:l≤u) (q3:u≤(len:Int)) (q4:len≤cap) :
    (Instr.sliceBounds b len cap clo chi none).run P w=.ok (l.toNat,u.toNat,cap) w:=by
  cases hi with
  | none =>
   cases chi with
   | some c=>exact h2.elim
   | none =>
    simp[bound]at e2;subst e2;cases lo with
    | none =>
     cases clo with
     | some c=>exact h1.elim
     | none=>simp[bound]at e1;subst e1;simp[Instr.sliceBounds]
    | some v =>
     cases clo with
     | none=>exact h1.elim
     | some c =>obtain⟨k,rfl⟩:=wR h1 e1;simp only[Instr.sliceBounds,Sem.run_bind,Sem.run_pure,qRa,run_sliceBound w k l len _ q1 (by omega)];simp
  | some v =>
   cases chi with
   | none=>exact h2.elim
   | some c =>
    obtain⟨k,rfl⟩:=wR h2 e2;cases lo with
    | none =>
     cases clo with
     | some c=>exact h1.elim
     | none =>simp[bound]at e1;subst e1;simp only[Instr.sliceBounds,Sem.run_bind,Sem.run_pure,qRa,run_sliceBound w k u cap _ q2 (by omega)];simp
    | some v =>
     cases clo with
     | none=>exact h1.elim
     | some c =>obtain⟨k',rfl⟩:=wR h1 e1;simp only[Instr.sliceBounds,Sem.run_bind,Sem.run_pure,qRa,run_sliceBound w k u cap _ (by omega) (by omega),run_sliceBound w k' l u.toNat _ q1 (by omega)]
theorem X6 {len cap : Nat} {lo hi : Option AV} {mx : AV} {clo chi : Option Value} {V5 : Value} {l u m : Int} (h1 : QU w M β h lo clo) (h2 : QU w M β h hi chi) (h3 : AR w M β h mx V5)
    (e1:bound 0 lo=some l) (e2:bound len hi=some u) (hs:hi.isSome=true) (e3:bound len (some mx)=some m) (q1:0≤l) (q2:l≤u) (q3:u≤m) (q4:m≤(len:Int)) (q5:len≤cap) :
    (Instr.sliceBounds true len cap clo chi (some V5)).run P w=.ok (l.toNat,u.toNat,m.toNat) w:=by
  obtain⟨k,rfl⟩:=wR h3 e3;cases hi with
  | none=>cases hs
  | some v =>
   cases chi with
   | none=>exact h2.elim
   | some c =>
    obtain⟨k2,rfl⟩:=wR h2 e2;cases lo with
    | none =>
     cases clo with
     | some c=>exact h1.elim
     | none =>simp[bound]at e1;subst e1;simp only[Instr.sliceBounds,Sem.run_bind,Sem.run_pure,qRa,run_sliceBound w k m cap _ (by omega) (by omega),run_sliceBound w k2 u m.toNat _ q2 (by omega)];simp
    | some v =>
     cases clo with
     | none=>exact h1.elim
     | some c =>obtain⟨k',rfl⟩:=wR h1 e1;simp only[Instr.sliceBounds,Sem.run_bind,Sem.run_pure,qRa,run_sliceBound w k m cap _ (by omega) (by omega),run_sliceBound w k2 u m.toNat _ (by omega) (by omega),run_sliceBound w k' l u.toNat _ q1 (by omega)]
theorem QV {_a:Bool} {_ks:List Kd} {xs:List PV} {l u:Nat} (h1:l≤u) (h2:u≤xs.length):((xs.drop l).take (u-l)).length=u-l:=by simp;omega
theorem zB {xs:List PV} {l n i:Nat} {x:PV} (h:((xs.drop l).take n)[i]?=some x):xs[l+i]?=some x:=by
 rw[List.getElem?_take]at h;split at h
 · rwa[List.getElem?_drop]at h
 · cases h
theorem VR.sub {a : Bool} {ks : List Kd} {xs : List PV} {b o _cap cap' : Nat} {f : Nat → Nat → Value} {l u : Nat} (hM : M b)
    (hc:∀ (i:Nat) (x:PV) (j:Nat) (c:PV),xs[i]?=some x→x.cells[j]?=some c→w.cell? ⟨b,o+i*ks.length+j,none⟩=some (f i j))
    (hv:∀ (i:Nat) (x:PV) (j:Nat) (c:PV),xs[i]?=some x→x.cells[j]?=some c→VR w M c (f i j)) (hs:∀ x∈xs,bZ a ks x=true)
    (h1:l≤u) (h2:u≤xs.length) (hcap:u-l≤cap'):VR w M (.list a ks ((xs.drop l).take (u-l))) (.slice (some ⟨b,o+l*ks.length,none⟩) (u-l) cap'):=by
  have:=VR.list (w:=w) (M:=M) a ks ((xs.drop l).take (u-l)) b (o+l*ks.length) cap' (fun i j=>f (l+i) j) hM (by rw[QV (_a:=a) (_ks:=ks) h1 h2];exact hcap)
   (fun i x j c hx hj=>by have:=hc (l+i) x j c (zB hx) hj;rw[Nat.add_mul]at this;rw[← this];congr 2;omega)
   (fun i x j c hx hj=>hv (l+i) x j c (zB hx) hj) (fun x hx=>hs x (List.mem_of_mem_drop (List.mem_of_mem_take hx)))
  rwa[QV (_a:=a) (_ks:=ks) h1 h2]at this
theorem VR.aoq {a : Bool} {ks : List Kd} {xs : List PV} {b o : Nat} {f : Nat → Nat → Value} {l u : Nat} (hM : M b)
    (hc:∀ (i:Nat) (x:PV) (j:Nat) (c:PV),xs[i]?=some x→x.cells[j]?=some c→w.cell? ⟨b,o+i*ks.length+j,none⟩=some (f i j))
    (hv:∀ (i:Nat) (x:PV) (j:Nat) (c:PV),xs[i]?=some x→x.cells[j]?=some c→VR w M c (f i j)) (hs:∀ x∈xs,bZ a ks x=true)
    (h1:l≤u) (h2:u≤xs.length):VR w M (.full a ks ((xs.drop l).take (u-l))) (.slice (some ⟨b,o+l*ks.length,none⟩) (u-l) (u-l)):=by
  have:=VR.full (w:=w) (M:=M) a ks ((xs.drop l).take (u-l)) b (o+l*ks.length) (fun i j=>f (l+i) j) hM
   (fun i x j c hx hj=>by have:=hc (l+i) x j c (zB hx) hj;rw[Nat.add_mul]at this;rw[← this];congr 2;omega)
   (fun i x j c hx hj=>hv (l+i) x j c (zB hx) hj) (fun x hx=>hs x (List.mem_of_mem_drop (List.mem_of_mem_take hx)))
  rwa[QV (_a:=a) (_ks:=ks) h1 h2]at this
theorem acz (ok : dZ P T) {t : TypeId} {x : AV} {c : Value} {lo hi mx : Option AV} {clo chi V5 : Option Value} (hx : AR w M β h x c) (hlo : QU w M β h lo clo) (hhi : QU w M β h hi chi)
    (hmx:QU w M β h mx V5) (hmh:mx.isSome=true→hi.isSome=true):aH P w M β h (MO T t x lo hi mx) (Instr.sliceAt t c clo chi V5):=by
  unfold MO;split
  · rename_i hu;have hu:=ok.und hu;split
    · rename_i s;rw[hx.QJ];have:V5=none:=by cases V5 with | none=>rfl | some v=>exact hmx.elim
      subst this;split
      · rename_i l u e1 e2;refine aH.chk fun hb=>aH.ret (.str _) ?_;simp only[qBa,qDa]at hb;have:=Jw (P:=P) false (len:=s.size) (cap:=s.size) hlo hhi e1 e2 hb.1 hb.2.1 hb.2.2 (Nat.le_refl _);simp[Instr.sliceAt,Instr.slice,dV hu,this]
      · exact aH.fail
    · exact aH.fail
  · rename_i e hu;have hu:=ok.und hu;split
    · exact aH.fail
    · rename_i n hn;obtain⟨j,g1,g2⟩:=ok.size hn
      have go : ∀ (base : Option Addr) (len cap l u m : Nat),(Instr.sliceBounds true len cap clo chi V5).run P w = .ok (l,u,m) w →
          (Instr.sliceAt t (.slice base len cap) clo chi V5).run P w=.ok (.slice (if m=l then base else base.map (·.add (l*n))) (u-l) (m-l)) w:=by
        intro base len cap l u m hb;simp[Instr.sliceAt,Instr.slice,dV hu,hb,iF g1,g2]
      have bnd : ∀ (len cap : Nat) (l u m : Int),bound 0 lo = some l → bound len hi = some u → bound len mx = some m → 0 ≤ l → l ≤ u → u ≤ m → m ≤ (len : Int) → len ≤ cap →
          ∃ m':Nat,(Instr.sliceBounds true len cap clo chi V5).run P w=.ok (l.toNat,u.toNat,m') w∧((mx=none∧m'=cap)∨(mx.isSome=true∧m'=m.toNat)):=by
        intro len cap l u m e1 e2 e3 q1 q2 q3 q4 q5;cases mx with
        | none =>
         have:V5=none:=by cases V5 with | none=>rfl | some v=>exact hmx.elim
         subst this;simp[bound]at e3;exact⟨cap,Jw true hlo hhi e1 e2 q1 q2 (by omega) q5,.inl ⟨rfl,rfl⟩⟩
        | some v =>
         cases V5 with
         | none=>exact hmx.elim
         | some c=>exact⟨m.toNat,X6 hlo hhi hmx e1 e2 (hmh rfl) e3 q1 q2 q3 q4 q5,.inr ⟨rfl,rfl⟩⟩
      split
      · rename_i s z off len;split
        · rename_i l u m e1 e2 e3;refine aH.chk fun hz=>aH.chk fun hb=>?_;simp only[beq_iff_eq]at hz;subst hz;simp only[qBa,qDa]at hb;obtain⟨q1,q2,q3,q4⟩:=hb;cases hx with
          | slice _ _ _ a ks xs b o cap p1 p2 p3 p4 p5 =>
           obtain⟨m',k1,k2⟩:=bnd len cap l u m e1 e2 e3 q1 q2 q3 q4 p4;have hm':u.toNat≤m'∧m'≤cap:=by rcases k2 with ⟨_,rfl⟩ | ⟨_,rfl⟩<;>omega
           have e4:(u-l).toNat=u.toNat-l.toNat:=by omega
           rw[e4];refine aH.ret ?_ (go _ _ _ _ _ _ k1);by_cases hml:m'=l.toNat
           · rw[if_pos hml,show u.toNat-l.toNat=0 from by omega,show m'-l.toNat=0 from by omega];exact .sliceE s _ a ks xs _ p1 (by omega)
           · rw[if_neg hml];simp only[Option.map_some,addr_add];have:=AR.slice (w:=w) (M:=M) (β:=β) (h:=h) s (off+l.toNat) (u.toNat-l.toNat) a ks xs b o (m'-l.toNat) p1 (by omega) p3 (by omega) (p5.mono (by refine Nat.add_le_add_left (Nat.mul_le_mul_right _ ?_) _;omega));rw[Nat.add_mul,← Nat.add_assoc]at this;exact this
          | sliceE _ _ a ks xs base p1 p2 =>
           obtain⟨m',k1,k2⟩:=bnd 0 0 l u m e1 e2 e3 q1 q2 q3 q4 (Nat.le_refl _);have hm':u.toNat≤m'∧m'≤0:=by rcases k2 with ⟨_,rfl⟩ | ⟨_,rfl⟩<;>omega
           have e4:(u-l).toNat=0:=by omega
           rw[e4];have e5:m'=l.toNat:=by omega
           refine aH.ret (AR.sliceE s (off+l.toNat) a ks xs base p1 (by omega)) ?_;have:=go base 0 0 _ _ _ k1;rw[if_pos e5,show u.toNat-l.toNat=0 from by omega,show m'-l.toNat=0 from by omega]at this;exact this
        · exact aH.fail
      · rename_i s off len;split
        · rename_i l u m e1 e2 e3;refine aH.chk fun hz=>aH.chk fun hb=>?_;simp only[beq_iff_eq]at hz;subst hz;simp only[qBa,qDa]at hb;obtain⟨q1,q2,q3,q4⟩:=hb;cases hx with
          | bslice _ _ _ cs b o cap p1 p2 p3 p4 =>
           obtain⟨m',k1,k2⟩:=bnd len cap l u m e1 e2 e3 q1 q2 q3 q4 p4;have hm':u.toNat≤m'∧m'≤cap:=by rcases k2 with ⟨_,rfl⟩ | ⟨_,rfl⟩<;>omega
           have e4:(u-l).toNat=u.toNat-l.toNat:=by omega
           rw[e4];refine aH.ret ?_ (go _ _ _ _ _ _ k1);by_cases hml:m'=l.toNat
           · rw[if_pos hml,show u.toNat-l.toNat=0 from by omega,show m'-l.toNat=0 from by omega];exact .bsliceE s _ cs _ p1 (by omega)
           · rw[if_neg hml];simp only[Option.map_some,addr_add,Nat.mul_one];have:=AR.bslice (w:=w) (M:=M) (β:=β) (h:=h) s (off+l.toNat) (u.toNat-l.toNat) cs b o (m'-l.toNat) p1 (by omega) p3 (by omega);rw[← Nat.add_assoc]at this;exact this
          | bsliceE _ _ cs base p1 p2 =>
           obtain⟨m',k1,k2⟩:=bnd 0 0 l u m e1 e2 e3 q1 q2 q3 q4 (Nat.le_refl _);have hm':u.toNat≤m'∧m'≤0:=by rcases k2 with ⟨_,rfl⟩ | ⟨_,rfl⟩<;>omega
           have e4:(u-l).toNat=0:=by omega
           rw[e4];have e5:m'=l.toNat:=by omega
           refine aH.ret (AR.bsliceE s (off+l.toNat) cs base p1 (by omega)) ?_;have:=go base 0 0 _ _ _ k1;rw[if_pos e5,show u.toNat-l.toNat=0 from by omega,show m'-l.toNat=0 from by omega]at this;exact this
        · exact aH.fail
      · rename_i a ks xs;split
        · rename_i l u m e1 e2 e3;refine aH.chk fun hz=>aH.chk fun hb=>?_;simp only[beq_iff_eq]at hz;subst hz;simp only[qBa,qDa]at hb;obtain⟨q1,q2,q3,q4⟩:=hb;have e4:(u-l).toNat=u.toNat-l.toNat:=by omega
          rw[e4];cases hx with
          | p _ _ hx =>
          have lst : ∃ c',AR w M β h (.p (.list a ks ((xs.drop l.toNat).take (u.toNat - l.toNat)))) c' ∧ (Instr.sliceAt t c clo chi V5).run P w = .ok c' w ∧
              (mx.isSome=true→u=m→AR w M β h (.p (.full a ks ((xs.drop l.toNat).take (u.toNat-l.toNat)))) c'):=by
            cases hx with
            | list _ _ _ b o cap f p1 p2 p3 p4 p5 =>
             obtain⟨m',k1,k2⟩:=bnd xs.length cap l u m e1 e2 e3 q1 q2 q3 q4 p2;have hm':u.toNat≤m'∧m'≤cap:=by rcases k2 with ⟨_,rfl⟩ | ⟨_,rfl⟩<;>omega
             refine⟨_,?_,go _ _ _ _ _ _ k1,?_⟩
             · by_cases hml:m'=l.toNat
               · have e0:u.toNat-l.toNat=0:=by omega
                 rw[if_pos hml,e0];simp only[List.take_zero];exact .p _ _ (.vZ a ks _ _)
               · rw[if_neg hml];simp only[Option.map_some,addr_add];exact .p _ _ (VR.sub (_cap:=cap) p1 p3 p4 p5 (by omega) (by omega) (by omega))
             · intro hs hum;have e6:m'=u.toNat:=by
                rcases k2 with ⟨h0,_⟩ | ⟨_,h0⟩
                · rw[h0]at hs;cases hs
                · omega
               by_cases hml:m'=l.toNat
               · have e0:u.toNat-l.toNat=0:=by omega
                 rw[if_pos hml,e0,show m'-l.toNat=0 from by omega];simp only[List.take_zero];exact .p _ _ (.NR a ks _)
               · rw[if_neg hml,e6];simp only[Option.map_some,addr_add];exact .p _ _ (VR.aoq p1 p3 p4 p5 (by omega) (by omega))
            | vZ _ _ base cap =>
             obtain⟨m',k1,k2⟩:=bnd 0 cap l u m e1 e2 e3 q1 q2 q3 q4 (Nat.zero_le _);have z:l=0∧u=0∧m=0:=by simp at q4;omega
             obtain⟨rfl,rfl,rfl⟩:=z;refine⟨_,?_,go _ _ _ _ _ _ k1,?_⟩
             · simpa using AR.p _ _ (.vZ a ks _ _)
             · intro hs _;rcases k2 with ⟨h0,_⟩ | ⟨_,h0⟩
               · rw[h0]at hs;cases hs
               · subst h0;simpa using AR.p _ _ (.NR a ks _)
          obtain⟨c',r1,r2,r3⟩:=lst;split
          · exact aH.ret r1 r2
          · rename_i v;exact aH.ite (fun hum=>aH.ret (r3 rfl (by simpa using hum)) r2) (fun _=>aH.ret r1 r2)
        · exact aH.fail
      · split
        · rename_i l u m e1 e2 e3;refine aH.chk fun hb=>?_;simp only[qBa,qDa]at hb;obtain⟨rfl,rfl,rfl⟩:=hb;cases hx with
          | p _ _ hx=>cases hx with
          | nil =>
           obtain⟨m',k1,k2⟩:=bnd 0 0 0 0 0 e1 e2 e3 (by omega) (by omega) (by omega) (by omega) (by omega);have hm':m'=0:=by rcases k2 with ⟨_,rfl⟩ | ⟨_,rfl⟩<;>rfl
           subst hm';refine aH.ret (.p _ _ .nil) ?_;have:=go none 0 0 _ _ _ k1;simpa using this
        · exact aH.fail
      · exact aH.fail
  · exact aH.fail
end
end Go.Skm
namespace Go.Skm
section
variable {P:Program} {T:Tab} {w:World} {M:Nat→Prop} {β:Nat→Option (Nat × Nat)} {h:Nat→Option cu}
theorem V6 (ok : dZ P T) {h' : Nat → Option cu} (hsub : ∀ s b,h' s = some b → h s = some b) {t e : TypeId} {n : Nat} {x : AV} {c : Value} {lo hi mx : Option AV} {clo chi V5 : Option Value}
    (hu:und T t=some (.array n e)) (hx:AR w M β h x c) (hlo:QU w M β h lo clo) (hhi:QU w M β h hi chi) (hmx:QU w M β h mx V5) :
    aH P w M β h (EG T h' n e x lo hi mx) (Instr.sliceAt t c clo chi V5):=by
  have hu:=ok.und hu;unfold EG;split
  · rename_i s off hn;obtain⟨j,g1,g2⟩:=ok.size hn;have:V5=none:=by cases V5 with | none=>rfl | some v=>exact hmx.elim
    subst this;split
    · rename_i cs hs;have hs:=hsub _ _ hs;split
      · rename_i l u e1 e2;refine aH.chk fun hz=>aH.chk fun hb=>?_;have hz:=Nat.le_of_ble_eq_true hz;simp only[qBa,qDa]at hb;obtain⟨q1,q2,q3⟩:=hb;have e4:(u-l).toNat=u.toNat-l.toNat:=by omega
        rw[e4];have k1:=Jw (P:=P) false (len:=n) (cap:=n) hlo hhi e1 e2 q1 q2 q3 (Nat.le_refl _);cases hx with
        | ptrB _ _ cs' b o p1 p2 =>
         rw[hs]at p1;cases p1;refine aH.ret (c:=.slice (if n=l.toNat then some ⟨b,o+off,none⟩ else some ((⟨b,o+off,none⟩:Addr).add (l.toNat*1))) (u.toNat-l.toNat) (n-l.toNat)) ?_ ?_
         · by_cases hml:n=l.toNat
           · rw[if_pos hml,show u.toNat-l.toNat=0 from by omega,show n-l.toNat=0 from by omega];exact .bsliceE s _ cs _ hs (by omega)
           · rw[if_neg hml,addr_add,Nat.mul_one];have:=AR.bslice (w:=w) (M:=M) (β:=β) (h:=h) s (off+l.toNat) (u.toNat-l.toNat) cs b o (n-l.toNat) hs (by omega) p2 (by omega);rw[← Nat.add_assoc]at this;exact this
         · have:(Instr.sureAddr (.pointer (some ⟨b,o+off,none⟩))).run P w=.ok ⟨b,o+off,none⟩ w:=rfl;simp only[Instr.sliceAt,Sem.run_bind,dV hu,qRa,this,k1,iF g1,g2,Sem.run_pure];by_cases hml:n=l.toNat<;>simp[hml]
        | ptrA _ _ _ a ks xs b o p1 p2 p3=>rw[hs]at p1;cases p1
      · exact aH.fail
    · exact aH.fail
  · exact aH.fail
theorem acA (ok:dZ P T) {t:TypeId} {x i:AV} {c d:Value} (hx:AR w M β h x c) (hi:AR w M β h i d):aH P w M β h (MN T t x i) (Instr.index t c d):=by
 unfold MN;split
 · rename_i k n;rw[hi.Au];split
   · rename_i s hu;have hu:=ok.und hu;rw[hx.QJ];refine aH.chk fun hb=>?_;simp only[qBa,qDa]at hb;have hlt:n.toNat<s.size:=by omega
     refine aH.ret (.int _ _) ?_;have h1:(if 0≤n then s[n.toNat]? else none)=some s[n.toNat]:=by rw[if_pos hb.1];exact getElem?_pos s n.toNat hlt
     have h2:s.data.getD n.toNat 0=s[n.toNat]:=by have:n.toNat<s.data.size:=hlt;unfold Array.getD;rw[dif_pos this];rfl
     simp only[Instr.index,asIntOf,Sem.run_bind,Sem.run_pure,qRa,dV hu,h1,h2]
   · rename_i m e cs hu;have hu:=ok.und hu;split
     · rename_i kd hsh hsz;refine aH.chk fun h1=>aH.chk fun hb=>?_;simp only[qBa,qDa]at hb h1;obtain⟨⟨a1,a2⟩,a3⟩:=h1;have a2:=Nat.eq_of_beq_eq_true a2;cases hx with
       | p _ _ hx=>cases hx with
       | agg _ vs hn hl hc =>
        have hlt:n.toNat<cs.length:=by omega
        have hget:cs[n.toNat]?=some (cs.getD n.toNat .nil):=by simp[hlt]
        have hk:kindOk kd (cs.getD n.toNat .nil)=true:=(List.all_eq_true.1 a1) _ (qLe hget);refine aH.ret (.p _ _ (EK hk (hc _ _ hget))) ?_;obtain⟨j,q1,q2⟩:=ok.size hsz;obtain⟨dd,hdd⟩:=ok.acv hsz;have hag:Bc P e=false:=by rw[← ok.agg hsz];simpa using a3
        have ajz:vs[n.toNat]?=some (vs.getD n.toNat undef):=getD_some (by omega);simp only[Instr.index,asIntOf,Sem.run_bind,Sem.run_pure,qRa,dV hu];rw[if_pos ⟨hb.1,hb.2⟩];simp only[Sem.run_bind,iF q1,q2,qRa,Nat.mul_one,part,oD hdd,hag,Bool.false_eq_true,if_false,ajz,Sem.run_pure]
     · rename_i m' hsz _;refine aH.chk fun h1=>aH.chk fun hb=>?_;simp only[qBa,qDa]at hb h1;cases hx with
       | p _ _ hx=>cases hx with
       | agg _ vs hn hl hc =>
        refine EM (fun j hj=>?_) _ _;have hjm:j<m:=by omega
        obtain⟨v,hv⟩:=Option.isSome_iff_exists.1 ((List.all_eq_true.1 h1.2) j (by simp[hjm]));obtain⟨q1,q2,q3⟩:=ok.size hsz;obtain⟨c,g1,g2⟩:=QM (w:=w) (M:=M) (β:=β) (h:=h) ok hsz hv (by simpa using hn) (fun c hc'=>by
         obtain⟨y,hy,rfl⟩:=List.mem_map.1 hc';exact hl y hy) (fun i c hi=>by
         rw[List.getElem?_map]at hi;cases hp:cs[i]? with
         | none=>rw[hp]at hi;cases hi
         | some y =>rw[hp]at hi;simp only[Option.map_some,qOa]at hi;subst hi;exact .p _ _ (hc i y hp)) (ok.acv hsz)
        rw[hv];refine aH.ret g1 ?_;simp only[Instr.index,asIntOf,Sem.run_bind,Sem.run_pure,qRa,dV hu];rw[if_pos ⟨hb.1,hb.2⟩];simp only[Sem.run_bind,iF q2,q3,qRa];rw[show n.toNat=j by omega];exact g2
     · exact aH.fail
   · exact aH.fail
 · exact aH.fail
theorem vC {b o n:Nat} {f:Nat→Value} (hc:∀ j,j<n→w.cell? ⟨b,o+j,none⟩=some (f j)):(loadCells ⟨b,o,none⟩ n).run P w=.ok (Array.ofFn fun (i:Fin n)=>f i) w:=by
 have:=run_loadCells w (P:=P) ⟨b,o,none⟩ n f (fun j hj=>by rw[addr_add];exact hc j hj);rw[this];congr 1;apply Array.ext
 · simp
 · intro i h1 h2;simp
theorem yw:∀ (ks:List Kd) (x:PV) (o j:Nat),(jB ks x o)[j]?=(ks[j]?).map fun k=>eta k (x.cell (o+j))
 | [],x,o,j=>by simp[jB]
 | k::ks,x,o,0=>by simp[jB]
 | k::ks,x,o,j+1=>by simp[jB,yw ks x (o+1) j,Nat.add_assoc,Nat.add_comm 1 j]
theorem Uj (ok : dZ P T) {t : TypeId} {n : Nat} {a : Bool} {ks : List Kd} {x v : PV} {off b o : Nat} {f : Nat → Value} (hn : vG T t = some n) (hv : VN T t n a ks x off = some v) (hx : bZ a ks x = true)
    (hc:∀ (j:Nat) (c:PV),x.cells[j]?=some c→w.cell? ⟨b,o+j,none⟩=some (f j)) (hr:∀ (j:Nat) (c:PV),x.cells[j]?=some c→VR w M c (f j)) :
    ∃ c,VR w M v c∧(loadVar t ⟨b,o+off,none⟩).run P w=.ok c w:=by
  obtain⟨i,hi,hsz⟩:=ok.size hn;obtain⟨d,hd⟩:=ok.acv hn;unfold VN at hv;cases h1:Nat.ble (off+n) ks.length with
  | false=>rw[h1]at hv;cases hv
  | true =>
   have h1':=Nat.le_of_ble_eq_true h1;rw[h1,ok.agg hn]at hv;simp only[cond_true]at hv;cases h2:Bc P t with
   | true =>
    rw[h2]at hv;simp only[cond_true]at hv;cases a with
    | false=>cases hv
    | true =>
     simp only[cond_true,qOa]at hv;subst hv;have hlen:(jB ((ks.drop off).take n) x off).length=n:=by
      have:∀ (l:List Kd) (y:PV) (o:Nat),(jB l y o).length=l.length:=by
       intro l;induction l with
       | nil=>intros;rfl
       | cons k r ih=>intro y o;simp[jB,ih]
      rw[this];simp;omega
     have cell:∀ j,j<n→∃ k c,ks[off+j]?=some k∧x.cells[off+j]?=some c∧kindOk k c=true∧x.cell (off+j)=c:=by
      intro j hj;have hk:ks[off+j]?=some (ks[off+j]'(by omega)):=by simp
      obtain⟨c,g1,g2,g3⟩:=rM hx hk;exact⟨_,c,hk,g1,g2,g3⟩
     refine⟨.agg (Array.ofFn fun (i:Fin n)=>f (off+i)),.agg _ _ (by simp[hlen]) ?_ ?_,?_⟩
     · intro c hc';obtain⟨j,hj⟩:=List.mem_iff_getElem?.1 hc';rw[yw]at hj;have hjn:j<n:=by
        have:(((ks.drop off).take n)[j]?).isSome:=by
         cases h:((ks.drop off).take n)[j]? with
         | none=>rw[h]at hj;simp at hj
         | some _=>rfl
        have:=(qLa.1 (Option.isSome_iff_exists.1 this).choose_spec).1;simp at this;omega
       obtain⟨k,c0,g1,g2,g3,g4⟩:=cell j hjn;rw[List.getElem?_take,if_pos hjn,List.getElem?_drop,g1]at hj;simp only[Option.map_some,qOa]at hj;rw[← hj,g4];exact QH g3
     · intro j c hj;rw[yw]at hj;have hjn:j<n:=by
        have:(((ks.drop off).take n)[j]?).isSome:=by
         cases h:((ks.drop off).take n)[j]? with
         | none=>rw[h]at hj;simp at hj
         | some _=>rfl
        have:=(qLa.1 (Option.isSome_iff_exists.1 this).choose_spec).1;simp at this;omega
       obtain⟨k,c0,g1,g2,g3,g4⟩:=cell j hjn;rw[List.getElem?_take,if_pos hjn,List.getElem?_drop,g1]at hj;simp only[Option.map_some,qOa]at hj;rw[← hj,g4];have:(Array.ofFn fun (i:Fin n)=>f (off+i)).getD j undef=f (off+j):=by simp[hjn]
       rw[this];exact EK g3 (hr _ _ g2)
     · have := vC (P := P) (w := w) (b := b) (o := o + off) (n := n) (f := fun j => f (off + j)) (fun j hj => by obtain⟨k,c0,g1,g2,g3,g4⟩:=cell j hj;rw[Nat.add_assoc];exact hc _ _ g2);simp only[loadVar,Sem.run_bind,oD hd,h2,qRa,if_true,iF hi,hsz,this,Sem.run_pure]
   | false =>
    rw[h2]at hv;simp only[cond_false]at hv;cases h3:Nat.beq n 1 with
    | false=>rw[h3]at hv;cases hv
    | true =>
     have h3:=Nat.eq_of_beq_eq_true h3;subst h3;cases hk:ks[off]? with
     | none=>simp at hk;omega
     | some k =>
      have:(ks.drop off).head?=some k:=by rw[List.head?_drop];exact hk
      rw[this]at hv;simp only[show Nat.beq 1 1=true from rfl,cond_true,qOa]at hv;subst hv;obtain⟨c,g1,g2,g3⟩:=rM hx hk;refine⟨f off,by rw[g3];exact EK g2 (hr _ _ g1),?_⟩;simp only[loadVar,Sem.run_bind,oD hd,h2,qRa,Bool.false_eq_true,if_false];simp[hc _ _ g1]
end
end Go.Skm
namespace Go.Skm
section
variable {P:Program} {T:Tab} {w:World} {M:Nat→Prop} {β:Nat→Option (Nat × Nat)} {h:Nat→Option cu}
theorem zC {b i:Nat} {C:Array Value} {e:TypeId} {fr:Nat × Nat} (hw:w.heap[b]?=some (.cells C e fr)) (hi:i<C.size):w.cell? ⟨b,i,none⟩=some (C.getD i undef):=by simp only[World.cell?,hw];simpa using getD_some hi
theorem X7 (ok : dZ P T) {h' : Nat → Option cu} (hsub : ∀ s b,h' s = some b → h s = some b) (hh : ∀ s b,h s = some b → BR w M β h s b) {t : TypeId} {x : AV} {c : Value}
    (hx:AR w M β h x c):aH P w M β h (Gh T h' t x) (Instr.loadAt t c):=by
  unfold Gh;split
  · exact aH.fail
  · rename_i n hn;obtain⟨i,hi,hsz⟩:=ok.size hn;obtain⟨d,hd⟩:=ok.acv hn;have at_:∀ (a:Addr) (v:Value),(loadVar t a).run P w=.ok v w→(Instr.loadAt t (.pointer (some a))).run P w=.ok v w:=by intro a v h1;simp[Instr.loadAt,Instr.sureAddr,h1]
    split
    · rename_i s idx off;split
      · rename_i cs hs;have hs:=hsub _ _ hs;cases hx with
        | ptrA _ _ _ a ks xs b o p1 p2 p3=>rw[hs]at p1;cases p1
        | ptrB _ _ cs' b o p1 p2 =>
         split
         · rename_i v hv;obtain⟨r1,r2⟩:=Jv ok hn hv;cases hh s _ hs with
           | box _ b' o' C e fr g1 g2 g3 g4 g5 g6 =>
            rw[p2]at g1;cases g1;have cell:∀ j,j<cs.length→w.cell? ⟨b,o+j,none⟩=some (C.getD (o+j) undef):=fun j hj=>zC g2 (by omega);rcases r2 with ⟨r2,rfl⟩ | ⟨r2,rfl,rfl⟩
            · refine aH.ret (c:=.agg (Array.ofFn fun (i:Fin n)=>C.getD (o+off+i) undef)) (AR.EZ ?_ ?_ ?_) (at_ _ _ ?_)
              · simp;omega
              · intro c hc;exact g5 c (List.mem_of_mem_drop (List.mem_of_mem_take hc))
              · intro j c hj;have hjn:j<n:=by have:=(qLa.1 hj).1;simp at this;omega
                rw[List.getElem?_take,if_pos hjn,List.getElem?_drop]at hj;have e1:(Array.ofFn fun (i:Fin n)=>C.getD (o+off+i) undef).getD j undef=C.getD (o+(off+j)) undef:=by rw[← Nat.add_assoc];unfold Array.getD;rw[dif_pos (by simpa using hjn)];simp
                rw[e1];exact g6 _ _ hj
              · have := vC (P := P) (w := w) (b := b) (o := o + off) (n := n) (f := fun j => C.getD (o + off + j) undef) (fun j hj => by have:=cell (off+j) (by omega);rw[← Nat.add_assoc]at this;exact this);simp only[loadVar,Sem.run_bind,oD hd,r2,qRa,if_true,iF hi,hsz,this,Sem.run_pure]
            · have hoff:off<cs.length:=by omega
              refine aH.ret (g6 off _ (by simp[hoff])) (at_ _ _ ?_);simp only[loadVar,Sem.run_bind,oD hd,r2,qRa,Bool.false_eq_true,if_false];simp only[run_load,cell off hoff]
         · exact aH.fail
      · rename_i a ks xs hs;have hs:=hsub _ _ hs;cases hx with
        | ptrB _ _ cs' b o p1 p2=>rw[hs]at p1;cases p1
        | ptrA _ _ _ a' ks' xs' b o p1 p2 p3 =>
         rw[hs]at p1;cases p1;split
         · rename_i v hv;have hget:xs[idx]?=some (xs.getD idx .nil):=by simp[p2]
           cases hh s _ hs with
           | jS=>simp at p2
           | arr _ _ _ b' o' C e fr g1 g2 g3 g4 g5 g6 =>
            rw[p3]at g1;cases g1;have hshape:=g5 _ (qLe hget);have hlen:=eP hshape
            obtain⟨c,k1,k2⟩:=Uj (P:=P) (w:=w) (M:=M) ok (b:=b) (o:=o+idx*ks.length) (f:=fun j=>C.getD (o+idx*ks.length+j) undef) hn hv hshape
             (fun j c hj=>by
               have hj':j<ks.length:=by have:=(qLa.1 hj).1;omega
               have:(idx+1)*ks.length≤xs.length*ks.length:=Nat.mul_le_mul_right _ p2;rw[Nat.add_mul]at this;exact zC g2 (by omega))
             (fun j c hj=>g6 _ _ _ _ hget hj)
            exact aH.ret (.p _ _ k1) (at_ _ _ k2)
         · exact aH.fail
      · exact aH.fail
    · rename_i a ks x off;split
      · rename_i v hv;cases hx with
        | pq _ _ _ _ b o f q1 q2 q3 q4 =>obtain⟨c,k1,k2⟩:=Uj (P:=P) (w:=w) (M:=M) ok hn hv q2 q3 q4;exact aH.ret (.p _ _ k1) (at_ _ _ k2)
      · exact aH.fail
    · rename_i cs;split
      · rename_i v hv;obtain⟨r1,r2⟩:=Jv ok hn hv;simp only[List.length_map,Nat.zero_add]at r1;cases hx with
        | p _ _ hx=>cases hx with
        | ref _ b o f q1 q2 q3 q4 _ =>
         have cell:∀ j,j<cs.length→w.cell? ⟨b,o+j,none⟩=some (f j):=fun j hj=>q3 j _ (qLd hj);rcases r2 with ⟨r2,rfl⟩ | ⟨r2,rfl,rfl⟩
         · refine aH.ret (c:=.agg (Array.ofFn fun (i:Fin n)=>f i)) (AR.EZ ?_ ?_ ?_) (at_ _ _ ?_)
           · simp;omega
           · intro c hc;have:=List.mem_of_mem_drop (List.mem_of_mem_take hc);obtain⟨y,hy,rfl⟩:=List.mem_map.1 this;exact q2 y hy
           · intro j c hj;have hjn:j<n:=by have:=(qLa.1 hj).1;simp at this;omega
             rw[List.getElem?_take,if_pos hjn,List.getElem?_drop,Nat.zero_add,List.getElem?_map]at hj;have e1:(Array.ofFn fun (i:Fin n)=>f i).getD j undef=f j:=by unfold Array.getD;rw[dif_pos (by simpa using hjn)];simp
             rw[e1];cases hy:cs[j]? with
             | none=>rw[hy]at hj;simp at hj
             | some y=>rw[hy]at hj;simp at hj;subst hj;exact .p _ _ (q4 j y hy)
           · have:=vC (P:=P) (w:=w) (b:=b) (o:=o) (n:=n) (f:=f) (fun j hj=>cell j (by omega));simp only[loadVar,Sem.run_bind,oD hd,r2,qRa,if_true,iF hi,hsz,this,Sem.run_pure]
         · have h0:0<cs.length:=by omega
           have hg:cs[0]?=some cs[0]:=qLd h0;have e1:(cs.map AV.p).getD 0 .undef=.p cs[0]:=by simp[List.getD,hg]
           refine aH.ret (c:=f 0) (by rw[e1];exact .p _ _ (q4 0 _ hg)) (at_ _ _ ?_);have:=cell 0 h0;simp only[Nat.add_zero]at this;simp only[loadVar,Sem.run_bind,oD hd,r2,qRa,Bool.false_eq_true,if_false];simp only[run_load,this]
      · exact aH.fail
    · exact aH.fail
theorem af2 (ok : dZ P T) {t : TypeId} {x : AV} {c : Value} {ts : Array TypeId} {ty : TypeId} (ht : ts[0]? = some t) (hx : AR w M β h x c) :
    aH P w M β h (VP T t x) (Builtin.len_ ts ty #[c]):=by
  unfold VP;split
  · rename_i s hu;rw[hx.QJ];exact aH.ret (.int _ _) (by simp[Builtin.len_,ht,dV (ok.und hu),goInt])
  · rename_i e s z off len hu;have hu:=ok.und hu;cases hx with
    | slice=>exact aH.ret (.int _ _) (by simp[Builtin.len_,ht,dV hu,goInt])
    | sliceE=>exact aH.ret (.int _ _) (by simp[Builtin.len_,ht,dV hu,goInt])
  · rename_i e s off len hu;have hu:=ok.und hu;cases hx with
    | bslice=>exact aH.ret (.int _ _) (by simp[Builtin.len_,ht,dV hu,goInt])
    | bsliceE=>exact aH.ret (.int _ _) (by simp[Builtin.len_,ht,dV hu,goInt])
  · rename_i e a ks xs hu;have hu:=ok.und hu;cases hx with
    | p _ _ hx=>cases hx with
    | list=>exact aH.ret (.int _ _) (by simp[Builtin.len_,ht,dV hu,goInt])
    | vZ=>exact aH.ret (.int _ _) (by simp[Builtin.len_,ht,dV hu,goInt])
  · rename_i e a ks xs hu;have hu:=ok.und hu;cases hx with
    | p _ _ hx=>cases hx with
    | full=>exact aH.ret (.int _ _) (by simp[Builtin.len_,ht,dV hu,goInt])
    | NR=>exact aH.ret (.int _ _) (by simp[Builtin.len_,ht,dV hu,goInt])
  · rename_i e hu;have hu:=ok.und hu;cases hx with
    | p _ _ hx=>cases hx with
    | nil=>exact aH.ret (.int _ _) (by simp[Builtin.len_,ht,dV hu,goInt])
  · rename_i n e hu;have hu:=ok.und hu;refine aH.ret (.int _ _) ?_;cases c<;>simp[Builtin.len_,ht,dV hu,goInt]
  · exact aH.fail
def mX (w:World) (M:Nat→Prop) (β:Nat→Option (Nat × Nat)) (h:Nat→Option cu) (xs:List AV) (cs:List Value):Prop :=
 xs.length=cs.length∧∀ (i:Nat) (x:AV) (c:Value),xs[i]?=some x→cs[i]?=some c→AR w M β h x c
theorem mX.cons {x:AV} {xs:List AV} {c:Value} {cs:List Value} (hl:mX w M β h (x::xs) (c::cs)):AR w M β h x c∧mX w M β h xs cs :=
 ⟨hl.2 0 x c rfl rfl,by simpa using hl.1,fun i y d h1 h2=>hl.2 (i+1) y d (by simpa using h1) (by simpa using h2)⟩
theorem X8 {g : Value → Value → Sem Value} {f : Int → Int → Int} {j : IntKind} (hg : ∀ x y,(g (.int j x) (.int j y)).run P w = .ok (.int j (f x y)) w) :
    ∀ (xs:List AV) (cs:List Value) (x y:Int),mX w M β h xs cs→XY f j x xs=some y→(cs.foldlM g (.int j x)).run P w=.ok (.int j y) w
  | [],[],x,y,_,hf=>by simp[XY]at hf;subst hf;simp
  | [],c::cs,x,y,hl,hf=>by have:=hl.1;simp at this
  | v::r,[],x,y,hl,hf=>by have:=hl.1;simp at this
  | v::r,c::cs,x,y,hl,hf=>by
   obtain⟨h1,h2⟩:=hl.cons;unfold XY at hf;split at hf
   · cases ‹v::r=[]›
   · rename_i i z r' e;cases e;cases hij:(i==j) with
     | false=>rw[hij]at hf;cases hf
     | true =>
      rw[hij]at hf;simp only[cond_true]at hf;have:i=j:=by simpa using hij
      subst this;rw[h1.Au];simp only[List.foldlM_cons,Sem.run_bind,hg,qRa];exact X8 hg r cs _ y h2 hf
   · cases hf
theorem QW {f : Int → Int → Int} {g : Value → Value → Sem Value} {s0 : Sem Value} {xs : List AV} {cs : Array Value} (hl : mX w M β h xs cs.toList) (hg : ∀ j x y,(g (.int j x) (.int j y)).run P w = .ok (.int j (f x y)) w) :
    aH P w M β h (EI f xs) (match cs.toList with
     | []=>s0
     | x::rest=>rest.foldlM g x):=by
  unfold EI;split
  · rename_i j x r;cases hc:cs.toList with
    | nil=>rw[hc]at hl;have:=hl.1;simp at this
    | cons c r' =>
     rw[hc]at hl;obtain⟨h1,h2⟩:=hl.cons;rw[h1.Au];split
     · rename_i y hy;exact aH.ret (.int _ _) (X8 (hg j) r r' x y h2 hy)
     · exact aH.fail
  · exact aH.fail
end
end Go.Skm
namespace Go.Skm
section
variable {P:Program} {T:Tab} {w:World} {M:Nat→Prop} {β:Nat→Option (Nat × Nat)} {h:Nat→Option cu}
def dR (M:Nat→Prop) (β:Nat→Option (Nat × Nat)) (ss:List Nat) (b:Nat):Prop:=M b∨∃ s o,s∈ss∧β s=some (b,o)
theorem VR.plus {v:PV} {c:Value} (hv:VR w M v c) (ss:List Nat):VR w (dR M β ss) v c:=hv.mono fun _ hb=>⟨.inl hb,rfl⟩
theorem VR.more {v:PV} {c:Value} {ss tt:List Nat} (hst:∀ s∈ss,s∈tt) (hv:VR w (dR M β ss) v c):VR w (dR M β tt) v c :=
 hv.mono fun _ hb=>⟨hb.imp id fun ⟨s,o,h1,h2⟩=>⟨s,o,hst s h1,h2⟩,rfl⟩
theorem aes {s b o : Nat} {a : Bool} {ks : List Kd} {xs : List PV} {off len cap : Nat} {ss : List Nat} (hb : BR w M β h s (.arr a ks xs)) (tX : β s = some (b,o)) (hs : s ∈ ss) (hl : off + len ≤ xs.length) (hc : len ≤ cap) :
    VR w (dR M β ss) (.list a ks ((xs.drop off).take len)) (.slice (some ⟨b,o+off*ks.length,none⟩) len cap):=by
  cases hb with
  | jS =>
   have h0:len=0:=by simp at hl;omega
   subst h0;simpa using VR.vZ a ks (some ⟨b,o+off*ks.length,none⟩) cap
  | arr _ _ _ b' o' C e fr g1 g2 g3 g4 g5 g6 =>
   rw[tX]at g1;cases g1
   have key:=VR.sub (w:=w) (M:=dR M β ss) (a:=a) (ks:=ks) (xs:=xs) (b:=b) (o:=o) (_cap:=cap) (cap':=cap) (f:=fun i j=>C.getD (o+i*ks.length+j) undef) (l:=off) (u:=off+len)
    (.inr ⟨s,o,hs,tX⟩)
    (fun i x j c hx hj=>by
      have hi:=(qLa.1 hx).1;have hj':j<ks.length:=by have:=eP (g5 x (qLe hx));have:=(qLa.1 hj).1;omega
      have:(i+1)*ks.length≤xs.length*ks.length:=Nat.mul_le_mul_right _ hi;rw[Nat.add_mul]at this;exact zC g2 (by omega))
    (fun i x j c hx hj=>(g6 i x j c hx hj).plus ss) g5 (by omega) hl (by omega)
   rw[show off+len-off=len from by omega]at key;exact key
theorem QX {cs:List AV} {kd:Kd} {vs:List PV} (hb:KE cs=some (kd,vs)):cs=vs.map .p∧∀ v∈vs,kindOk kd v=true:=by
 unfold KE at hb;split at hb
 · rename_i v r hp;cases ha:(v::r).all (kindOk (VJ v)) with
   | false=>rw[ha]at hb;cases hb
   | true =>rw[ha]at hb;simp only[cond_true,qOa,Prod.mk.injEq]at hb;obtain⟨rfl,rfl⟩:=hb;exact⟨yu hp,fun x hx=>(List.all_eq_true.1 ha) x hx⟩
 · cases hb
theorem aeu {s b o : Nat} {cs : List AV} {kd : Kd} {vs : List PV} {off len cap : Nat} {ss : List Nat} (hb : BR w M β h s (.box cs)) (tX : β s = some (b,o)) (hs : s ∈ ss) (hv : KE cs = some (kd,vs))
    (hl:off+cap≤cs.length) (hc:len≤cap):VR w (dR M β ss) (.list false [kd] ((vs.drop off).take len)) (.slice (some ⟨b,o+off,none⟩) len cap):=by
  obtain⟨e1,e2⟩:=QX hv;subst e1;simp only[List.length_map]at hl;cases hb with
  | box _ b' o' C e fr g1 g2 g3 g4 g5 g6 =>
   rw[tX]at g1;cases g1;simp only[List.length_map]at g3;have leaf:∀ v∈vs,v.cells=[v]:=fun v hv=>by have:=jH (e2 v hv);cases v<;>first | rfl | simp[PV.leaf]at this
   have get:∀ (i:Nat) (x:PV),vs[i]?=some x→VR w M x (C.getD (o+i) undef):=fun i x hx=>by have:=g6 i (.p x) (by simp[hx]);cases this;assumption
   have key:=VR.sub (w:=w) (M:=dR M β ss) (a:=false) (ks:=[kd]) (xs:=vs) (b:=b) (o:=o) (_cap:=cap) (cap':=cap) (f:=fun i j=>C.getD (o+i) undef) (l:=off) (u:=off+len)
    (.inr ⟨s,o,hs,tX⟩)
    (fun i x j c hx hj=>by
      have hi:=(qLa.1 hx).1;rw[leaf x (qLe hx)]at hj;have hj0:j=0:=by have:=(qLa.1 hj).1;simpa using this
      subst hj0;simpa using zC g2 (i:=o+i) (by omega))
    (fun i x j c hx hj=>by
      rw[leaf x (qLe hx)]at hj;have hj0:j=0:=by have:=(qLa.1 hj).1;simpa using this
      subst hj0;simp at hj;subst hj;exact(get i x hx).plus ss)
    (fun x hx=>by simpa [bZ] using e2 x hx) (by omega) (by omega) (by omega)
   rw[show off+len-off=len from by omega]at key;simpa using key
theorem X9 {h' : Nat → Option cu} (hh : ∀ s b,h' s = some b → BR w M β h s b) (hsub : ∀ s b,h' s = some b → h s = some b) {v : AV} {x : PV} {ss : List Nat} {c : Value} (hd : NQ h' v = some (x,ss)) (hv : AR w M β h v c) :
    VR w (dR M β ss) x c∧(v.leaf=true→x.leaf=true)∧∀ s∈ss,(h s).isSome=true:=by
  unfold NQ at hd;split at hd
  · cases hd;cases hv with
    | p _ _ hv=>exact⟨hv.plus [],fun h=>h,fun s hs=>by simp at hs⟩
  · rename_i s z off len;split at hd
    · rename_i a ks xs hs;have hs0:=hs;have hs:=hsub _ _ hs;cases hd;refine⟨?_,fun _=>rfl,fun s' hs'=>by simp at hs';subst hs';rw[hs];rfl⟩;cases hv with
      | slice _ _ _ a' ks' xs' b o cap p1 p2 p3 p4 p5 =>rw[hs]at p1;cases p1;exact aes (hh s _ hs0) p3 (by simp) p2 p4
      | sliceE _ _ a' ks' xs' base p1 p2=>simpa using VR.vZ a ks base 0
    · cases hd
  · rename_i s off len;split at hd
    · rename_i cs hs;have hs0:=hs;have hs:=hsub _ _ hs;split at hd
      · rename_i kd vs hb;cases hd;refine⟨?_,fun _=>rfl,fun s' hs'=>by simp at hs';subst hs';rw[hs];rfl⟩;cases hv with
        | bslice _ _ _ cs' b o cap p1 p2 p3 p4 =>rw[hs]at p1;cases p1;exact aeu (hh s _ hs0) p3 (by simp) hb p2 p4
        | bsliceE _ _ cs' base p1 p2=>simpa using VR.vZ false [kd] base 0
      · cases hd
    · cases hd
  · cases hd
theorem MV {h' : Nat → Option cu} (hh : ∀ s b,h' s = some b → BR w M β h s b) (hsub : ∀ s b,h' s = some b → h s = some b) : ∀ {vs : List AV} {xs : List PV} {ss : List Nat} {f : Nat → Value},Ap h' vs = some (xs,ss) →
    (∀ (i:Nat) (v:AV),vs[i]?=some v→AR w M β h v (f i))→(∀ v∈vs,v.leaf=true) →
    xs.length=vs.length∧(∀ x∈xs,x.leaf=true)∧(∀ (i:Nat) (x:PV),xs[i]?=some x→VR w (dR M β ss) x (f i))∧∀ s∈ss,(h s).isSome=true
  | [],xs,ss,f,hd,_,_=>by simp[Ap]at hd;obtain⟨rfl,rfl⟩:=hd;simp
  | v::r,xs,ss,f,hd,hv,hl=>by
   simp only[Ap]at hd;split at hd
   · rename_i x s1 ys s2 h1 h2;cases hd;obtain⟨a1,a2,a3⟩:=X9 hh hsub h1 (hv 0 v (by simp));obtain⟨b1,b2,b3,b4⟩:=MV hh hsub (f:=fun i=>f (i+1)) h2 (fun i u hu=>hv (i+1) u (by simpa using hu)) (fun u hu=>hl u (by simp[hu]));refine⟨by simp[b1],?_,?_,?_⟩
     · intro y hy;rcases List.mem_cons.1 hy with rfl | hy
       · exact a2 (hl v (by simp))
       · exact b2 y hy
     · intro i y hi;cases i with
       | zero=>simp at hi;subst hi;exact a1.more fun s hs=>by simp[hs]
       | succ i=>simp at hi;exact(b3 i y hi).more fun s hs=>by simp[hs]
     · intro s hs;rcases List.mem_append.1 hs with hs | hs
       · exact a3 s hs
       · exact b4 s hs
   · cases hd
theorem QY {h' : Nat → Option cu} (hh : ∀ s b,h' s = some b → BR w M β h s b) (hsub : ∀ s b,h' s = some b → h s = some b) {v : AV} {x : PV} {ss : List Nat} {c : Value} (hd : KF h' v = some (x,ss)) (hv : AR w M β h v c) :
    VR w (dR M β ss) x c∧(v.leaf=true→x.leaf=true)∧∀ s∈ss,(h s).isSome=true:=by
  unfold KF at hd;split at hd
  · rename_i s;split at hd
    · rename_i cs hs;have hs0:=hs;have hs:=hsub _ _ hs;split at hd
      · rename_i vs ss' h1;cases hd;cases hv with
        | ptrA _ _ _ a ks xs b o p1 p2 p3=>rw[hs]at p1;cases p1
        | ptrB _ _ cs' b o p1 p2 =>
         cases hh s _ hs0 with
         | box _ b' o' C e fr g1 g2 g3 g4 g5 g6 =>
          rw[p2]at g1;cases g1;obtain⟨b1,b2,b3,b4⟩:=MV hh hsub (f:=fun i=>C.getD (o+i) undef) h1 g6 g5;refine⟨?_,fun _=>rfl,?_⟩
          · simp only[Nat.add_zero];refine .ref vs b o (fun i=>C.getD (o+i) undef) (.inr ⟨s,o,by simp,p2⟩) b2 ?_ (fun j c hj=>(b3 j c hj).more fun s hs=>by simp[hs]) (Room.mk g2 (by omega) g4);intro j c hj;have:=(qLa.1 hj).1;exact zC g2 (by omega)
          · intro s' hs';rcases List.mem_cons.1 hs' with rfl | hs'
            · rw[hs];rfl
            · exact b4 s' hs'
      · cases hd
    · cases hd
  · exact X9 hh hsub hd hv
theorem Uk {h' : Nat → Option cu} (hh : ∀ s b,h' s = some b → BR w M β h s b) (hsub : ∀ s b,h' s = some b → h s = some b) : ∀ {vs : List AV} {xs : List PV} {ss : List Nat} {f : Nat → Value},Gf h' vs = some (xs,ss) →
    (∀ (i:Nat) (v:AV),vs[i]?=some v→AR w M β h v (f i)) →
    xs.length=vs.length∧(∀ (i:Nat) (x:PV),xs[i]?=some x→VR w (dR M β ss) x (f i))∧∀ s∈ss,(h s).isSome=true
  | [],xs,ss,f,hd,_=>by simp[Gf]at hd;obtain⟨rfl,rfl⟩:=hd;simp
  | v::r,xs,ss,f,hd,hv=>by
   simp only[Gf]at hd;split at hd
   · rename_i x s1 ys s2 h1 h2;cases hd;obtain⟨a1,a2,a3⟩:=QY hh hsub h1 (hv 0 v (by simp));obtain⟨b1,b3,b4⟩:=Uk hh hsub (f:=fun i=>f (i+1)) h2 (fun i u hu=>hv (i+1) u (by simpa using hu));refine⟨by simp[b1],?_,?_⟩
     · intro i y hi;cases i with
       | zero=>simp at hi;subst hi;exact a1.more fun s hs=>by simp[hs]
       | succ i=>simp at hi;exact(b3 i y hi).more fun s hs=>by simp[hs]
     · intro s hs;rcases List.mem_append.1 hs with hs | hs
       · exact a3 s hs
       · exact b4 s hs
   · cases hd
theorem Ii {h' : Nat → Option cu} (hh : ∀ s b,h' s = some b → BR w M β h s b) (hsub : ∀ s b,h' s = some b → h s = some b) {v : AV} {x : PV} {ss : List Nat} {c : Value} (hd : deep h' v = some (x,ss)) (hv : AR w M β h v c) :
    VR w (dR M β ss) x c∧∀ s∈ss,(h s).isSome=true:=by
  unfold deep at hd;split at hd
  · rename_i cs;split at hd
    · rename_i vs ss' h1;cases hd;cases hv with
      | agg _ us hn hl hc =>obtain⟨b1,b2,b3,b4⟩:=MV hh hsub (f:=fun i=>us.getD i undef) h1 hc hl;exact⟨.agg vs us (by omega) b2 b3,b4⟩
    · cases hd
  · rename_i f cs;split at hd
    · rename_i vs ss' h1;cases hd;cases hv with
      | fn _ _ us hn hc =>obtain⟨b1,b3,b4⟩:=Uk hh hsub (f:=fun i=>us.getD i undef) h1 hc;exact⟨.fn f vs us (by omega) b3,b4⟩
    · cases hd
  · obtain⟨a1,_,a3⟩:=QY hh hsub hd hv;exact⟨a1,a3⟩
theorem Gn {h' : Nat → Option cu} (hh : ∀ s b,h' s = some b → BR w M β h s b) (hsub : ∀ s b,h' s = some b → h s = some b) : ∀ {vs : List AV} {xs : List PV} {ss : List Nat} {cs : List Value},Gg h' vs = some (xs,ss) →
    mX w M β h vs cs→xs.length=cs.length∧(∀ (i:Nat) (x:PV) (c:Value),xs[i]?=some x→cs[i]?=some c→VR w (dR M β ss) x c)∧∀ s∈ss,(h s).isSome=true
  | [],xs,ss,cs,hd,hl=>by
   simp[Gg]at hd;obtain⟨rfl,rfl⟩:=hd;have:cs=[]:=by have:=hl.1;simpa using this.symm
   subst this;simp
  | v::r,xs,ss,[],hd,hl=>by have:=hl.1;simp at this
  | v::r,xs,ss,c::cs,hd,hl=>by
   simp only[Gg]at hd;split at hd
   · rename_i x s1 ys s2 h1 h2;cases hd;obtain⟨l1,l2⟩:=hl.cons;obtain⟨a1,a3⟩:=Ii hh hsub h1 l1;obtain⟨b1,b3,b4⟩:=Gn hh hsub h2 l2;refine⟨by simp[b1],?_,?_⟩
     · intro i y d hi hj;cases i with
       | zero=>simp at hi hj;subst hi;subst hj;exact a1.more fun s hs=>by simp[hs]
       | succ i=>simp at hi hj;exact(b3 i y d hi hj).more fun s hs=>by simp[hs]
     · intro s hs;rcases List.mem_append.1 hs with hs | hs
       · exact a3 s hs
       · exact b4 s hs
   · cases hd
end
end Go.Skm
namespace Go.Skm
def iU (w:World) (b:Nat) (C:Array Value) (e:TypeId) (fr:Nat × Nat):World:={ w with heap:=w.heap.setIfInBounds b (.cells C e fr) }
def jk (C:Array Value) (k:Nat) (vs:List Value):Array Value:=(patch C.toList k vs).toArray
theorem iC {C:Array Value} {k:Nat} {vs:List Value} (h:k+vs.length≤C.size):(jk C k vs).size=C.size:=by simp only[jk,List.size_toArray];rw[jW _ _ _ (by simpa using h)];simp
theorem uo {C : Array Value} {k : Nat} {vs : List Value} (h : k + vs.length ≤ C.size) (i : Nat) :
    (jk C k vs).getD i undef=if k≤i∧i<k+vs.length then vs.getD (i-k) undef else C.getD i undef:=by
  have:=uQ C.toList k vs (by simpa using h) i;simp only[jk,qAb,List.getElem?_toArray,this];split<;>simp[List.getD]
theorem Ya {w:World} {b:Nat} {C:Array Value} {e:TypeId} {fr:Nat × Nat} (hw:w.heap[b]?=some (.cells C e fr)):iU w b C e fr=w:=by
 unfold iU;have:w.heap.setIfInBounds b (.cells C e fr)=w.heap:=by
  apply Array.ext
  · simp
  · intro i h1 h2;by_cases hb:b=i
    · subst hb;simp;have:=(qAa.1 hw).2;exact this.symm
    · rw[Array.getElem_setIfInBounds_ne (by simpa using h1) hb]
 rw[this]
theorem Bv {w:World} {b:Nat} {C C':Array Value} {e:TypeId} {fr:Nat × Nat} (hw:w.heap[b]?=some (.cells C e fr)):(iU w b C' e fr).heap[b]?=some (.cells C' e fr):=by have:=(qAa.1 hw).1;simp[iU,this]
theorem Ti {w:World} {b:Nat} {C C':Array Value} {e:TypeId} {fr:Nat × Nat}:iU (iU w b C e fr) b C' e fr=iU w b C' e fr:=by simp[iU]
theorem setCell_eq {w:World} {b i:Nat} {C:Array Value} {e:TypeId} {fr:Nat × Nat} {v:Value} (hw:w.heap[b]?=some (.cells C e fr)):w.setCell ⟨b,i,none⟩ v=iU w b (C.setIfInBounds i v) e fr:=by
 unfold World.setCell iU;congr 1;have hb:=(qAa.1 hw).1;apply Array.ext
 · simp
 · intro j h1 h2;by_cases hj:b=j
   · subst hj;have:=(qAa.1 hw).2;simp[Array.getElem_modify,this]
   · rw[Array.getElem_setIfInBounds_ne (by simpa using h1) hj];simp[Array.getElem_modify,hj]
theorem acB {C:Array Value} {k:Nat} {v:Value} {vs:List Value} (h:k+(v::vs).length≤C.size):jk (C.setIfInBounds k v) (k+1) vs=jk C k (v::vs):=by
 simp only[List.length_cons]at h;have h1:k+1+vs.length≤(C.setIfInBounds k v).size:=by simp;omega
 have h2:k+(v::vs).length≤C.size:=by simp;omega
 apply Array.ext
 · rw[iC h1,iC h2];simp
 · intro i g1 g2;have e1:=uo h1 i;have e2:=uo h2 i;rw[Array.getD,dif_pos g1]at e1;rw[Array.getD,dif_pos g2]at e2;have f1:(jk (C.setIfInBounds k v) (k+1) vs)[i]=_:=e1;have f2:(jk C k (v::vs))[i]=_:=e2;rw[f1,f2];rw[iC h2]at g2;by_cases hk:k=i
   · subst hk;rw[if_neg (by omega),if_pos (by simp)];simp[g2]
   · by_cases hr:k+1≤i∧i<k+1+vs.length
     · rw[if_pos hr,if_pos (by simp;omega)];have:i-k=(i-(k+1))+1:=by omega
       rw[this];simp
     · rw[if_neg hr,if_neg (by simp;omega)];simp[qAe hk]
theorem qK {P : Program} {b o : Nat} {e : TypeId} {fr : Nat × Nat} : ∀ (vs : List Value) (i : Nat) (w : World) (C : Array Value),w.heap[b]? = some (.cells C e fr) → Open C fr → o + i + vs.length ≤ C.size →
    (∀ v∈vs,v.oneCell'=true)→(storeCells ⟨b,o,none⟩ vs i).run P w=.ok () (iU w b (jk C (o+i) vs) e fr)
  | [],i,w,C,hw,_,hl,_=>by
   have:jk C (o+i) []=C:=by simp[jk,patch]
   rw[this,Ya hw];rfl
  | v::r,i,w,C,hw,ho,hl,h1=>by
   simp only[List.length_cons]at hl;have hcell:w.cell? ⟨b,o+i,none⟩=some (C.getD (o+i) undef):=zC hw (by omega);have hfr:w.frozen? ⟨b,o+i,none⟩=false:=by simp only[World.frozen?,hw];have:=ho.at (o+i) (by omega);simp only[Bool.and_eq_false_iff,decide_eq_false_iff_not];omega
   have hb:=(qAa.1 hw).1;simp only[storeCells,Sem.run_bind,addr_add,run_store P w _ v .plain (h1 v (by simp)),hcell,hfr,Bool.false_eq_true,if_false,qRa,setCell_eq hw];rw[qK r (i+1) _ (C.setIfInBounds (o+i) v) (Bv hw) (ho.size (by simp)) (by simp;omega) (fun u hu=>h1 u (by simp[hu])),Ti];congr 2;rw[← Nat.add_assoc];exact acB (by simp;omega)
section
variable {w0:Base} {Pr M0 M:Nat→Prop} {β:Nat→Option (Nat × Nat)} {st:St} {a:Act} {w:World}
theorem pF:∀ {ss:List Nat},jq ss=true→∀ s∈ss,s<ah
 | [],_,s,hs=>by simp at hs
 | x::r,h,s,hs=>by
  simp only[jq,qBa]at h;rcases List.mem_cons.1 hs with rfl | hs
  · exact(Nat.blt_eq▸h.1:_)
  · exact pF h.2 s hs
theorem Rel.freeze (r:Rel w0 Pr M0 M β st a w) (ds ss:List Nat) (hf:jq ss=true) (hl:∀ s∈ss,(look st.heap s).isSome=true):Rel w0 Pr M0 (dR M β ss) β (st.strike (ds++ss)) a w:=by
 refine r.strike (ds++ss) (fun b hb=>.inl hb) fun b hb=>?_;rcases hb with hb | ⟨s,o,hs,hb⟩
 · exact .inl hb
 · refine .inr ⟨?_,s,o,by simp[hs],hl s hs,hb⟩;rcases(r.own s b o (hl s hs) hb).2.2.2 with h | h
   · exact h
   · have:=pF hf s hs;omega
theorem fQ (ss:List Nat) (x:Nat):look (st.strike ss).heap x=if x∈ss then none else(look st.heap x).map (cu.kill ss):=by
 cases ss with
 | nil =>
  have:∀ b:cu,cu.kill [] b=b:=by
   have kn:∀ v:AV,AV.kill [] v=v:=by
    have:(∀ v:AV,AV.refers [] v=false):=by
     intro v;have key:∀ (v:AV),AV.refers [] v=false:=by intro v;apply AV.rec (motive_1:=fun v=>AV.refers [] v=false) (motive_2:=fun l=>AV.jh [] l=false)<;>intros<;>simp_all [AV.refers,AV.jh,jC]
     exact key v
    intro v;unfold AV.kill;rw[this];rfl
   have kl:∀ cs:List AV,jd [] cs=cs:=by
    intro cs;induction cs with
    | nil=>rfl
    | cons v r ih=>simp[jd,kn,ih]
   intro b;cases b with
   | box cs=>simp[cu.kill,kl]
   | arr=>rfl
   | log=>rfl
  simp only[St.strike,List.not_mem_nil,if_false];cases look st.heap x with
  | none=>rfl
  | some b=>simp[this]
 | cons s0 sr=>simp only[St.strike,vJ,iY]
theorem AR.struck {M':Nat→Prop} {v:AV} {c:Value} (h:AR w M β (look st.heap) v c) (ss:List Nat) (hM:∀ b,M b→M' b) (hr:∀ s∈ss,AV.refers [s] v=false):AR w M' β (look (st.strike ss).heap) v c:=by refine h.mono (fun b hb=>⟨hM b hb,rfl⟩) fun s blk hrs hl=>⟨blk.kill ss,?_,cu.zO _ _,rfl,fun _ _ _ _ h=>h⟩;rw[fQ,if_neg (fun hm=>by rw[hr s hm]at hrs;cases hrs),hl];rfl
theorem qL {hp:Heap}:∀ {l:List Nat} {s:Nat},s∈present hp l→s∈l∧(look hp s).isSome=true
 | [],s,h=>by simp[present]at h
 | x::r,s,h=>by
  simp only[present]at h;split at h
  · rename_i b hb;rcases List.mem_cons.1 h with rfl | h
    · exact⟨by simp,by rw[hb];rfl⟩
    · exact⟨by simp[(qL h).1],(qL h).2⟩
  · exact⟨by simp[(qL h).1],(qL h).2⟩
theorem uS {hp:Heap}:∀ {l:List Nat} {s:Nat},s∈l→(look hp s).isSome=true→s∈present hp l
 | [],s,h,_=>by simp at h
 | x::r,s,h,hs=>by
  simp only[present];split
  · rcases List.mem_cons.1 h with rfl | h
    · simp
    · simp[uS h hs]
  · rename_i hb;rcases List.mem_cons.1 h with rfl | h
    · rw[hb]at hs;cases hs
    · exact uS h hs
theorem Rel.fresh (r : Rel w0 Pr M0 M β st a w) {ss : List Nat} (hf : jq ss = true) (hl : ∀ s ∈ ss,(look st.heap s).isSome = true) {d : Nat} {blk : cu} {w' : World} {b o : Nat} {v : AV} {c : Value}
    (hsz:w.heap.size≤w'.heap.size) (hos:w'.os=w.os) (htp:w'.tape=w.tape) (hop:w'.output=w.output) (hold:∀ k,k<w.heap.size→w'.heap[k]?=w.heap[k]?) (hb1:w.heap.size≤b) (hb2:b<w'.heap.size)
    (hB:∀ (β':Nat→Option (Nat × Nat)) (h':Nat→Option cu),β' d=some (b,o)→h' d=some blk →
      (∀ (v:AV) (c:Value),AR w M β (look st.heap) v c→(∀ s∈d::ss,AV.refers [s] v=false)→AR w' (dR M β ss) β' h' v c)→(∀ (v:PV) (c:Value),VR w (dR M β ss) v c→VR w' (dR M β ss) v c) →
      BR w' (dR M β ss) β' h' d blk∧AR w' (dR M β ss) β' h' v c) :
    Rel w0 Pr M0 (dR M β ss) (fun x=>if x=d then some (b,o) else β x) (st.apply (some d) { val:=v,qI:=[(d,blk)],new:=[d],Ed:=ss }) (a.put (some d) c) w':=by
  have r1:=r.freeze (present st.heap [d]) ss hf hl;have hM1:∀ b,dR M β ss b→b<w.heap.size:=r1.gU;have r2:Rel w0 Pr M0 (dR M β ss) β (st.strike (present st.heap [d]++ss)) a w':=r1.world hsz hos htp hop (fun k hk _=>hold k hk) (fun k n _ hk _ hr=>hr.of_block (hold k hk)) (fun _ h=>h) (fun _ h=>.inl h);have habs:look (st.strike (present st.heap [d]++ss)).heap d=none:=by
   rw[fQ];by_cases hm:d∈present st.heap [d]++ss
   · rw[if_pos hm]
   · rw[if_neg hm];cases hd:look st.heap d with
     | none=>rfl
     | some x=>exact absurd (List.mem_append.2 (.inl (uS (by simp) (by rw[hd];rfl)))) hm
  have hval:∀ (v:PV) (c:Value),VR w (dR M β ss) v c→VR w' (dR M β ss) v c:=fun v c h=>h.mono fun k hk=>⟨hk,hold k (hM1 k hk)⟩
  have hkeep : ∀ (v : AV) (c : Value),AR w M β (look st.heap) v c → (∀ s ∈ d::ss,AV.refers [s] v = false) →
      AR w' (dR M β ss) (fun x=>if x=d then some (b,o) else β x) (fun x=>if x=d then some blk else look (st.strike (present st.heap [d]++ss)).heap x) v c:=by
    intro v c h hr;have h1:=h.struck (M':=dR M β ss) (present st.heap [d]++ss) (fun _ h=>.inl h) fun s hs=>by
     rcases List.mem_append.1 hs with hs | hs
     · have:=(qL hs).1;simp at this;subst this;exact hr s (by simp)
     · exact hr s (by simp[hs])
    refine h1.mono (fun k hk=>⟨hk,hold k (hM1 k hk)⟩) fun s x _ hx=>?_;have hne:s≠d:=by rintro rfl;rw[habs]at hx;cases hx
    refine⟨x,by simp only[if_neg hne];exact hx,Like.refl _,by simp only[if_neg hne],fun b1 o1 n hb hr=>hr.of_block (hold b1 ?_)⟩;exact(r1.own s b1 o1 (by rw[hx];rfl) hb).2.1
  obtain⟨hB1,hB2⟩:=hB (fun x=>if x=d then some (b,o) else β x) (fun x=>if x=d then some blk else look (st.strike (present st.heap [d]++ss)).heap x) (by simp) (by simp) hkeep hval;have r3:=r2.lay (s:=d) (blk:=blk) habs (p:=some (b,o)) (fun b' o' e=>by
   cases e;refine⟨fun hm=>?_,hb2,⟨.inl (by have:=r.size;omega),.inl (by have:=r.size;have:=w0.le';omega)⟩,fun s' o' hs' tX=>?_⟩
   · have:=hM1 _ hm;omega
   · have:=(r1.own s' b o' hs' tX).2.1;omega) hB1
  have hlk:look (put (st.strike (present st.heap [d]++ss)).heap d blk)=fun x=>if x=d then some blk else look (st.strike (present st.heap [d]++ss)).heap x:=funext fun x=>dS _ _ _ _
  exact r3.setEnv (some d) (v:=v) (c:=c) (by show AR w' _ _ (look (put (st.strike (present st.heap [d]++ss)).heap d blk)) v c;rw[hlk];exact hB2)
end
end Go.Skm
namespace Go.Skm
def lX (hp hp':Heap):Prop:=∀ s,ah≤s→∀ blk',look hp' s=some blk'→∃ blk,look hp s=some blk∧Like blk blk'
theorem Like.trans {x y z:cu} (h1:Like x y) (h2:Like y z):Like x z:=by
 cases x<;>cases y<;>cases z<;>simp only[Like]at *
 · omega
 · exact⟨h1.1.trans h2.1,h1.2.1.trans h2.2.1,Nat.le_trans h1.2.2 h2.2.2⟩
 · exact h1.trans h2
theorem lX.trans {a b c:Heap} (h1:lX a b) (h2:lX b c):lX a c:=by intro s hs blk h;obtain⟨y,hy,ly⟩:=h2 s hs blk h;obtain⟨x,hx,lx⟩:=h1 s hs y hy;exact⟨x,hx,lx.trans ly⟩
theorem Gp (x:Nat):∀ (l:List (Nat × cu)) (hp:Heap) (b:cu),look (fC hp l) x=some b→look hp x=some b∨(x,b)∈l
 | [],hp,b,h=>.inl h
 | (s,c)::r,hp,b,h=>by
  rcases Gp x r (put hp s c) b h with h | h
  · rw[dS]at h;by_cases hx:x=s
    · rw[if_pos hx]at h;cases h;subst hx;exact .inr (by simp)
    · rw[if_neg hx]at h;exact .inl h
  · exact .inr (by simp[h])
theorem BG (st:St) (ss:List Nat):lX st.heap (st.strike ss).heap:=by
 intro s _ blk h;rw[fQ]at h;split at h
 · cases h
 · cases hl:look st.heap s with
   | none=>rw[hl]at h;cases h
   | some b=>rw[hl]at h;cases h;exact⟨b,rfl,cu.zO _ _⟩
theorem zO (st:St) (ss:List Nat):lX st.heap (st.kill ss).heap:=by
 intro s _ blk h;cases ss with
 | nil=>exact⟨blk,h,Like.refl _⟩
 | cons x r =>
  simp only[St.kill,iY]at h;cases hl:look st.heap s with
  | none=>rw[hl]at h;cases h
  | some b=>rw[hl]at h;cases h;exact⟨b,rfl,cu.zO _ _⟩
def Yb (hp:Heap) (l:List (Nat × cu)):Prop:=∀ k b,(k,b)∈l→k<ah∨∃ b0,look hp k=some b0∧Like b0 b
theorem ku {st:St} {d:Option Nat} {e:Eff} (h:Yb st.heap e.qI):lX st.heap (st.apply d e).heap:=by
 intro s hs blk hb;rcases Gp s _ _ _ hb with hb | hb
 · exact(BG st _).trans (zO _ e.cut) s hs blk hb
 · rcases h s blk hb with h | h
   · omega
   · exact h
theorem KT {hp:Heap}:Yb hp []:=fun _ _ h=>by simp at h
theorem tY {hp:Heap} {s:Nat} {b:cu} (h:s<ah∨∃ b0,look hp s=some b0∧Like b0 b):Yb hp [(s,b)]:=by intro k c hk;simp at hk;obtain⟨rfl,rfl⟩:=hk;exact h
structure dF (P:Program) (w0:Base) (Pr M0:Nat→Prop) (β:Nat→Option (Nat × Nat)) (st:St) (a:Act) (w:World) (d:Option Nat) (D:DT) (sem:Sem Next):Prop where
 sim:∀ (α:Type) (k:Eff→Option α) (r:α),D.run k=some r→∃ e nv c w' M' β',k e=some r∧sem.run P w=.ok nv w'∧(nv=.value c∨(nv=.skip∧c=undef)) ∧
  (jq (e.new++e.Ed)=true→Rel w0 Pr M0 M' β' (st.apply d e) (a.put d c) w'∧(∀ s,ah≤s→β' s=β s)∧lX st.heap (st.apply d e).heap)
theorem lD:∀ {x y:List Nat},jq (x++y)=true→jq x=true∧jq y=true
 | [],y,h=>⟨rfl,h⟩
 | s::x,y,h=>by simp only[List.cons_append,jq,qBa]at h ⊢;exact⟨⟨h.1,(lD h.2).1⟩,(lD h.2).2⟩
section
variable {P:Program} {T:Tab} {w0:Base} {Pr M0 M:Nat→Prop} {β:Nat→Option (Nat × Nat)} {st:St} {a:Act} {w:World} {d:Option Nat}
theorem dF.fail {sem:Sem Next}:dF P w0 Pr M0 β st a w d .fail sem:=⟨fun _ _ _ hk=>by simp[DT.run]at hk⟩
theorem dF.chk {c:Bool} {D:DT} {sem:Sem Next} (h1:c=true→dF P w0 Pr M0 β st a w d D sem):dF P w0 Pr M0 β st a w d (Skm.chk c D) sem :=
 ⟨fun α k r hk=>by obtain⟨h2,h3⟩:=VZ hk;exact(h1 h2).sim α k r h3⟩
theorem dF.ret {e : Eff} {sem : Sem Next} {nv : Next} {c : Value} {w' : World} {M' : Nat → Prop} {β' : Nat → Option (Nat × Nat)} (h1 : sem.run P w = .ok nv w') (h2 : nv = .value c ∨ (nv = .skip ∧ c = undef))
    (h3:jq e.Ed=true→Rel w0 Pr M0 M' β' (st.apply d e) (a.put d c) w') (h4:jq (e.new++e.Ed)=true→∀ s,ah≤s→β' s=β s:=by exact fun _ _ _=>rfl)
    (h5:jq (e.new++e.Ed)=true→Yb st.heap e.qI:=by exact fun hf=>tY (.inl (pF hf _ (by simp)))):dF P w0 Pr M0 β st a w d (.ret e) sem :=
  ⟨fun _ _ _ hk=>⟨e,nv,c,w',M',β',hk,h1,h2,fun hf=>⟨h3 (lD hf).2,h4 hf,ku (h5 hf)⟩⟩⟩
theorem xA {d:Nat} {ss:List Nat} {p:Option (Nat × Nat)} (hf:jq ([d]++ss)=true):∀ s,ah≤s→(if s=d then p else β s)=β s:=by intro s hs;have:=pF hf d (by simp);exact if_neg (by omega)
theorem dF.MW (r:Rel w0 Pr M0 M β st a w) {D:DT} {sem:Sem Value} (h:aH P w M β (look st.heap) D sem):dF P w0 Pr M0 β st a w d D (do pure (.value (← sem))):=by refine⟨fun α k q hk=>?_⟩;obtain⟨v,c,h1,h2,h3⟩:=h.sim α k q hk;exact⟨_,.value c,c,w,M,β,h1,by simp[h3],.inl rfl,fun _=>⟨r.setEnv d h2,fun _ _=>rfl,ku KT⟩⟩
theorem alloc_old {w:World} {o:Obj} {k:Nat} (h:k<w.heap.size):(w.alloc o).heap[k]?=w.heap[k]?:=by show (w.heap.push o)[k]?=_;rw[Array.getElem?_push,if_neg (by omega)]
theorem wS {w:World} {o:Obj}:(w.alloc o).heap[w.heap.size]?=some o:=by show (w.heap.push o)[w.heap.size]?=_;simp
theorem wU (C:Array Value):Open C (0,0):=.inl rfl
theorem Rel.aev (r : Rel w0 Pr M0 M β st a w) {d : Nat} {cs : List AV} {C : Array Value} {e : TypeId} (hn : C.size = cs.length) (hl : ∀ c ∈ cs,c.leaf = true)
    (hc:∀ (j:Nat) (c:AV),cs[j]?=some c→AR w M β (look st.heap) c (C.getD j undef)) (hr:∀ c∈cs,AV.refers [d] c=false) :
    Rel w0 Pr M0 (dR M β []) (fun x=>if x=d then some (w.heap.size,0) else β x) (st.apply (some d) { val:=.ptr d 0 0,qI:=[(d,.box cs)],new:=[d] }) (a.put (some d) (.pointer (some ⟨w.heap.size,0,none⟩))) (w.alloc (.cells C e)):=by
  refine r.fresh (ss:=[]) (b:=w.heap.size) (o:=0) rfl (by simp) (by simp) rfl rfl rfl (fun k hk=>alloc_old hk) (Nat.le_refl _) (by simp) ?_;intro β' h' tX hh hk _;refine⟨.box cs w.heap.size 0 C e (0,0) tX wS (by omega) (wU C) hl fun j c hj=>?_,?_⟩
  · rw[Nat.zero_add];exact hk _ _ (hc j c hj) fun s hs=>by simp at hs;subst hs;exact hr c (qLe hj)
  · have:=AR.ptrB (w:=w.alloc (.cells C e)) (M:=dR M β []) (β:=β') (h:=h') d 0 cs w.heap.size 0 hh tX;simpa using this
theorem Rel.ZM (r : Rel w0 Pr M0 M β st a w) {ss : List Nat} (hf : jq ss = true) (hlive : ∀ s ∈ ss,(look st.heap s).isSome = true) {d : Nat} {sa : Bool} {ks : List Kd} {xs : List PV} {C : Array Value} {e : TypeId} {fr : Nat × Nat} {len cap : Nat}
    (ho:Open C fr) (hs:∀ x∈xs,bZ sa ks x=true) (hlen:len≤xs.length) (hcap:len≤cap) (hC:cap*ks.length≤C.size) (hX:xs.length*ks.length≤C.size)
    (hc:∀ (i:Nat) (x:PV) (j:Nat) (c:PV),xs[i]?=some x→x.cells[j]?=some c→VR w (dR M β ss) c (C.getD (i*ks.length+j) undef)) :
    Rel w0 Pr M0 (dR M β ss) (fun x=>if x=d then some (w.heap.size,0) else β x) (st.apply (some d) { val:=.slice d ks.length 0 len,qI:=[(d,.arr sa ks xs)],new:=[d],Ed:=ss }) (a.put (some d) (.slice (some ⟨w.heap.size,0,none⟩) len cap)) (w.alloc (.cells C e fr)):=by
  refine r.fresh hf hlive (b:=w.heap.size) (o:=0) (by simp) rfl rfl rfl (fun k hk=>alloc_old hk) (Nat.le_refl _) (by simp) ?_;intro β' h' tX hh _ hv;refine⟨.arr sa ks xs w.heap.size 0 C e fr tX wS (by omega) ho hs fun i x j c hx hj=>?_,?_⟩
  · rw[Nat.zero_add];exact hv _ _ (hc i x j c hx hj)
  · have:=AR.slice (w:=w.alloc (.cells C e fr)) (M:=dR M β ss) (β:=β') (h:=h') d 0 len sa ks xs w.heap.size 0 cap hh (by omega) tX hcap (Room.mk wS (by rw[Nat.zero_add,Nat.zero_add];exact hC) ho);simpa using this
theorem Rel.aew (r : Rel w0 Pr M0 M β st a w) {d : Nat} {sa : Bool} {ks : List Kd} (base : Option Addr := none) :
    Rel w0 Pr M0 M (fun x=>if x=d then none else β x) (st.apply (some d) { val:=.slice d ks.length 0 0,qI:=[(d,.arr sa ks [])],new:=[d] }) (a.put (some d) (.slice base 0 0)) w:=by
  have r1:=r.strike (M':=M) (present st.heap [d]) (fun _ h=>h) (fun _ h=>.inl h);have habs:look (st.strike (present st.heap [d])).heap d=none:=by
   rw[fQ];by_cases hm:d∈present st.heap [d]
   · rw[if_pos hm]
   · rw[if_neg hm];cases hd:look st.heap d with
     | none=>rfl
     | some x=>exact absurd (uS (by simp) (by rw[hd];rfl)) hm
  have r2:=r1.lay (s:=d) (blk:=.arr sa ks []) habs (p:=none) (fun _ _ e=>by cases e) (.jS sa ks);have hlk:look (put (st.strike (present st.heap [d])).heap d (.arr sa ks [])) d=some (.arr sa ks []):=by rw[dS];simp
  have r3:=r2.setEnv (some d) (v:=.slice d ks.length 0 0) (c:=.slice base 0 0) (.sliceE d 0 sa ks [] base hlk (by simp))
  have e : st.apply (some d) { val := .slice d ks.length 0 0,qI := [(d,.arr sa ks [])],new := [d] } =
      { env:=Skm.setEnv (st.strike (present st.heap [d])).env (some d) (.slice d ks.length 0 0),heap:=put (st.strike (present st.heap [d])).heap d (.arr sa ks []) }:=by
    simp only[St.apply,List.append_nil];rfl
  rw[e];exact r3
theorem zQ {v:Value} {z:PV} (hv:ofValue v=some z):∃ cs:List PV,z.cells=cs∧v.cells.size=cs.length∧(∀ c∈cs,c.leaf=true)∧∀ (w:World) (M:Nat→Prop) (j:Nat) (c:PV),cs[j]?=some c→VR w M c (v.cells.getD j undef):=by
 refine⟨z.cells,rfl,?_⟩;have hz:∀ (w:World) (M:Nat→Prop),VR w M z v:=fun w M=>Jt hv;have h0:=hz default (fun _=>False);cases z with
 | agg cs =>
  cases h0 with
  | agg _ vs hn hl hc =>
   refine⟨by simpa [PV.cells,Value.cells] using hn,hl,fun w M j c hj=>?_⟩;have:=hz w M;cases this with
   | agg _ _ _ _ hc=>exact hc j c hj
 | _ =>
  have hc1:=h0.Js rfl;refine⟨by rw[hc1];rfl,by simp[PV.cells,PV.leaf],fun w M j c hj=>?_⟩;rw[hc1];cases j with
  | zero=>simp[PV.cells]at hj;subst hj;simpa using hz w M
  | succ j=>simp[PV.cells]at hj
theorem acC (ok:dZ P T) (r:Rel w0 Pr M0 M β st a w) {t:TypeId}:dF P w0 Pr M0 β st a w d (MI T d t) (do pure (.value (← Instr.alloc t true (.tuple #[])))):=by
 unfold MI;split
 · rename_i d z hz;obtain⟨i,v,h1,h2,h3⟩:=ok.zero hz;obtain⟨cs,g1,g2,g3,g4⟩:=zQ h3;have hcells:(AV.p z).cells=cs.map .p:=by rw[← g1];cases z<;>rfl
   have hnr:∀ c∈cs.map AV.p,AV.refers [d] c=false:=by intro c hc;obtain⟨y,_,rfl⟩:=List.mem_map.1 hc;rfl
   have hr := r.aev (d := d) (cs := cs.map .p) (C := v.cells) (e := t) (by simpa using g2) (fun c hc => by
       obtain⟨y,hy,rfl⟩:=List.mem_map.1 hc;exact g3 y hy) (fun j c hj=>by
       rw[List.getElem?_map]at hj;cases hy:cs[j]? with
       | none=>rw[hy]at hj;simp at hj
       | some y=>rw[hy]at hj;simp at hj;subst hj;exact .p _ _ (g4 _ _ j y hy)) hnr
   rw[hcells];exact dF.ret (nv:=.value (.pointer (some ⟨w.heap.size,0,none⟩))) (by simp[Instr.alloc,sS h1 h2,newVar,newRow]) (.inl rfl) (fun _=>hr) (fun hf=>xA hf)
 · exact dF.fail
theorem V7 {s:Nat} {v:AV} (h:AV.refers [s] v=false):∀ c∈v.cells,AV.refers [s] c=false:=by
 have any:∀ (cs:List AV),AV.jh [s] cs=false→∀ c∈cs,AV.refers [s] c=false:=by
  intro cs;induction cs with
  | nil=>intro _ c hc;simp at hc
  | cons x r ih =>
   intro h c hc;simp only[AV.jh,Bool.or_eq_false_iff]at h;rcases List.mem_cons.1 hc with rfl | hc
   · exact h.1
   · exact ih h.2 c hc
 intro c hc;cases v with
 | p v =>
  have:∃ y,c=.p y:=by cases v<;>simp[AV.cells]at hc<;>first | exact⟨_,hc⟩ | (obtain⟨y,_,rfl⟩:=hc;exact⟨y,rfl⟩)
  obtain⟨y,rfl⟩:=this;rfl
 | agg cs=>simp only[AV.cells]at hc;exact any cs (by simpa [AV.refers] using h) c hc
 | _=>simp[AV.cells]at hc;subst hc;exact h
theorem af4 (r:Rel w0 Pr M0 M β st a w) {t:TypeId} {v:AV} {c:Value} (hv:AR w M β (look st.heap) v c):dF P w0 Pr M0 β st a w d (VL d v) (do pure (.value (← Instr.box t c))):=by
 unfold VL;split
 · rename_i d;refine dF.chk fun hk=>?_;simp only[qBa,qBb]at hk;obtain⟨g1,g2⟩:=hv.cells hk.1;have hr:=r.aev (d:=d) (cs:=v.cells) (C:=c.cells) (e:=t) g1 (fun x hx=>by obtain⟨j,hj⟩:=List.mem_iff_getElem?.1 hx;exact(g2 j x hj).2.1) (fun j x hj=>(g2 j x hj).1) (V7 hk.2);exact dF.ret (nv:=.value (.pointer (some ⟨w.heap.size,0,none⟩))) (by simp[Instr.box,newVar,newRow]) (.inl rfl) (fun _=>hr) (fun hf=>xA hf)
 · exact dF.fail
end
end Go.Skm
namespace Go.Skm
section
variable {P:Program} {T:Tab} {w0:Base} {Pr M0 M:Nat→Prop} {β:Nat→Option (Nat × Nat)} {st:St} {a:Act} {w:World} {d:Option Nat}
theorem Aw {v:Value} {z:PV} {sa:Bool} {ks:List Kd} (hv:ofValue v=some z) (hs:bZ sa ks z=true):v.cells.size=ks.length:=by obtain⟨cs,g1,g2,_,_⟩:=zQ hv;rw[g2,← g1];exact eP hs
theorem Yc {n i j:Nat} (hj:j<n):(i*n+j)%n=j:=by rw[Nat.mul_comm,Nat.mul_add_mod,Nat.mod_eq_of_lt hj]
theorem Ij {zs:Array Value} {n k i j:Nat} (hz:zs.size=k) (hi:i<n) (hj:j<k):((Array.range (n*k)).map (zs[·%zs.size]!)).getD (i*k+j) undef=zs.getD j undef:=by
 have hlt:i*k+j<n*k:=by have:(i+1)*k≤n*k:=Nat.mul_le_mul_right _ hi;rw[Nat.add_mul]at this;omega
 have h1:j<zs.size:=by omega
 simp only[qAb,Array.getElem?_map,Array.getElem?_range,hlt,if_true,Option.map_some,Option.getD_some,hz,Yc hj];rw[getElem!_pos zs j h1];simp[h1]
theorem Yd (hh : ∀ s b,look st.heap s = some b → BR w M β (look st.heap) s b) {h' : Nat → Option cu} (hsub : ∀ s b,h' s = some b → look st.heap s = some b) {sa : Bool} {ks : List Kd} :
    ∀ (ps:List (Nat × AV)) (cps:List (Nat × Value)) (xs:List PV) (ss:List Nat) (C:Array Value) (xs':List PV) (ss':List Nat),
    QS w M β (look st.heap) ps cps→C.size=xs.length*ks.length→(∀ x∈xs,bZ sa ks x=true)→(∀ s∈ss,(look st.heap s).isSome=true) →
    (∀ (i:Nat) (x:PV) (j:Nat) (c:PV),xs[i]?=some x→x.cells[j]?=some c→VR w (dR M β ss) c (C.getD (i*ks.length+j) undef)) →
    XW h' sa ks xs ss ps=some (xs',ss') →
    ∃ C',Instr.fill (fun i=>some (i*ks.length,ks.length)) C cps=some C'∧C'.size=xs'.length*ks.length∧xs'.length=xs.length∧(∀ x∈xs',bZ sa ks x=true)∧(∀ s∈ss',(look st.heap s).isSome=true) ∧
     (∀ (i:Nat) (x:PV) (j:Nat) (c:PV),xs'[i]?=some x→x.cells[j]?=some c→VR w (dR M β ss') c (C'.getD (i*ks.length+j) undef))
  | [],cps,xs,ss,C,xs',ss',hp,hC,hs,hl,hc,hf=>by
   have:cps=[]:=by have:=hp.1;simpa using this.symm
   subst this;simp[XW]at hf;obtain⟨rfl,rfl⟩:=hf;exact⟨C,rfl,hC,rfl,hs,hl,hc⟩
  | (n,v)::r,[],xs,ss,C,xs',ss',hp,hC,hs,hl,hc,hf=>by have:=hp.1;simp at this
  | (n,v)::r,(m,c)::cr,xs,ss,C,xs',ss',hp,hC,hs,hl,hc,hf=>by
   have hp0:=hp.2 0 (n,v) (m,c) (by simp) (by simp);simp only at hp0;obtain⟨rfl,hv⟩:=hp0;simp only[XW]at hf;cases hd:deep h' v with
   | none=>rw[hd]at hf;cases hf
   | some p =>
    obtain⟨x,s1⟩:=p;rw[hd]at hf;simp only at hf;cases hb:(bZ sa ks x&&Nat.blt n xs.length) with
    | false=>rw[hb]at hf;cases hf
    | true =>
     rw[hb]at hf;simp only[cond_true]at hf;simp only[qBa]at hb;obtain⟨hb1,hb2⟩:=hb;have hb2:n<xs.length:=(Nat.blt_eq▸hb2:_);obtain⟨d1,d2⟩:=Ii (fun s b h=>hh s b (hsub s b h)) hsub hd hv;have hlen:=eP hb1;have hcs:c.cells.size=ks.length∧∀ (j:Nat) (y:PV),x.cells[j]?=some y→VR w (dR M β s1) y (c.cells.getD j undef):=by
      cases x with
      | agg cs =>
       cases d1 with
       | agg _ vs hn hl2 hc2=>exact⟨by simpa [Value.cells,PV.cells] using hn.trans hlen,fun j y hj=>hc2 j y hj⟩
      | _ =>
       have e:=d1.Js rfl;refine⟨by rw[e];simpa [PV.cells] using hlen,fun j y hj=>?_⟩;rw[e];cases j with
       | zero=>simp[PV.cells]at hj;subst hj;simpa using d1
       | succ j=>simp[PV.cells]at hj
     have hroom:n*ks.length+ks.length≤C.size:=by rw[hC,← Nat.succ_mul];exact Nat.mul_le_mul_right _ hb2
     obtain⟨f1,f2⟩:=foldl_set c.cells.toList (n*ks.length) 0 C (by simp;omega)
     obtain⟨C',k1,k2⟩:=Yd hh hsub r cr (xs.set n x) (ss++s1) ((c.cells.toList.zipIdx 0).foldl (fun cs (cj:Value × Nat)=>cs.setIfInBounds (n*ks.length+cj.2) cj.1) C) xs' ss'
      ⟨by simpa using hp.1,fun i p q h1 h2=>hp.2 (i+1) p q (by simpa using h1) (by simpa using h2)⟩ (by rw[f1];simpa using hC)
      (fun y hy=>by
        rcases List.mem_or_eq_of_mem_set hy with hy | rfl
        · exact hs y hy
        · exact hb1)
      (fun s hs'=>by
        rcases List.mem_append.1 hs' with hs' | hs'
        · exact hl s hs'
        · exact d2 s hs')
      (fun i y j c' hy hj=>by
        rw[f2];simp only[Nat.add_zero,Array.length_toList,Nat.sub_zero,hcs.1];by_cases hin:i=n
        · subst hin;rw[List.getElem?_set_self hb2]at hy;cases hy;have hj':j<ks.length:=by have:=(qLa.1 hj).1;omega
          rw[if_pos (by omega)];have e:i*ks.length+j-i*ks.length=j:=by omega
          rw[e,Array.toArray_toList];exact(hcs.2 j c' hj).more fun s hs=>by simp[hs]
        · rw[List.getElem?_set_ne (fun e=>hin e.symm)]at hy;have hj':j<ks.length:=by have:=(qLa.1 hj).1;have:=eP (hs y (qLe hy));omega
          rw[if_neg ?_]
          · exact(hc i y j c' hy hj).more fun s hs=>by simp[hs]
          · rcases Nat.lt_or_gt_of_ne hin with hlt | hgt
            · have:(i+1)*ks.length≤n*ks.length:=Nat.mul_le_mul_right _ hlt;rw[Nat.add_mul]at this;omega
            · have:(n+1)*ks.length≤i*ks.length:=Nat.mul_le_mul_right _ hgt;rw[Nat.add_mul]at this;omega) hf
     refine⟨C',?_,k2.1,by rw[k2.2.1];simp,k2.2.2⟩;rw[← k1];simp only[Instr.fill];rw[if_neg (by simp;omega)];rw[← Array.foldl_toList];simp[Array.toList_zipIdx]
theorem QZ (ok : dZ P T) (r : Rel w0 Pr M0 M β st a w) {h' : Nat → Option cu} (hsub : ∀ s b,h' s = some b → look st.heap s = some b) {t : TypeId} {len : Nat} {ps : List (Nat × AV)} {cs : Array (Nat × Value)}
    (hp:QS w M β (look st.heap) ps cs.toList):dF P w0 Pr M0 β st a w d (Aq T h' d t len ps) (do pure (.value (← Instr.buildSlice t len cs))):=by
  unfold Aq;split
  · rename_i d e hu;have hu:=ok.und hu;split
    · rename_i z n hz hn;obtain⟨i,v,h1,h2,h3⟩:=ok.zero hz;obtain⟨i',q1,q2⟩:=ok.size hn;rw[h1]at q1;cases q1;refine dF.chk fun hb=>?_;simp only[qBa,beq_iff_eq]at hb;obtain⟨⟨b1,b2⟩,b3⟩:=hb;have b3:=Nat.le_of_ble_eq_true b3;subst b1;split
      · rename_i xs ss hf;have hzc:=Aw h3 b2;obtain⟨zc,z1,z2,z3,z4⟩:=zQ h3
        have hstart : ∀ (i : Nat) (x : PV) (j : Nat) (c : PV),(List.replicate len z)[i]? = some x → x.cells[j]? = some c →
            VR w (dR M β []) c (((Array.range (len*(bY T e).2.length)).map (v.cells[·%v.cells.size]!)).getD (i*(bY T e).2.length+j) undef):=by
          intro i x j c hx hj;have hi:=(qLa.1 hx).1;simp at hi;rw[List.getElem?_replicate,if_pos hi]at hx;cases hx;have hj':=(qLa.1 hj).1;rw[eP b2]at hj';rw[Ij hzc hi hj'];exact z4 _ _ j c (by rw[← z1];exact hj)
        obtain⟨C',k1,k2,k3,k4,k5,k6⟩:=Yd (w:=w) (M:=M) (β:=β) (st:=st) r.heap hsub ps cs.toList (List.replicate len z) [] _ xs ss hp (by simp) (fun x hx=>by simp at hx;rw[hx.2];exact b2) (by simp) hstart hf;simp at k3;have run:(Instr.buildSlice t len cs).run P w=.ok (.slice (some ⟨w.heap.size,0,none⟩) len len) (w.alloc (.cells C' e)):=by
         simp only[Instr.buildSlice,Sem.run_bind,dV hu,qRa,iF h1,q2];rw[if_neg (by omega)];by_cases h0:len*(bY T e).2.length=0
         · rw[if_pos h0];simp only[Sem.run_bind,Sem.run_pure,qRa];have e0:(Array.range (len*(bY T e).2.length)).map ((#[]:Array Value)[·%(#[]:Array Value).size]!)=(Array.range (len*(bY T e).2.length)).map (v.cells[·%v.cells.size]!):=by rw[h0];simp
           rw[e0,k1];simp[newRow]
         · rw[if_neg h0];simp only[Sem.run_bind,sS h1 h2,Sem.run_pure,qRa,k1];simp[newRow]
        refine⟨fun α k q hk=>?_⟩;refine⟨_,.value (.slice (some ⟨w.heap.size,0,none⟩) len len),.slice (some ⟨w.heap.size,0,none⟩) len len,w.alloc (.cells C' e),dR M β ss,fun x=>if x=d then some (w.heap.size,0) else β x,hk,by simp[run],.inl rfl,fun ahF=>⟨?_,xA ahF,ku (tY (.inl (pF ahF _ (by simp))))⟩⟩;have hfz:=(lD ahF).2;have:=r.fresh (d:=d) (blk:=.arr (bY T e).1 (bY T e).2 xs) (v:=.slice d (bY T e).2.length 0 len) (c:=.slice (some ⟨w.heap.size,0,none⟩) len len) (w':=w.alloc (.cells C' e)) (b:=w.heap.size) (o:=0) hfz k5 (by simp) rfl rfl rfl (fun k hk=>alloc_old hk) (Nat.le_refl _) (by simp) ?_
        · exact this
        · intro β' h' tX hh _ hv;refine⟨.arr _ _ xs w.heap.size 0 C' e (0,0) tX wS (by omega) (wU _) k4 fun i x j c hx hj=>?_,?_⟩
          · rw[Nat.zero_add];exact hv _ _ (k6 i x j c hx hj)
          · have:=AR.slice (w:=w.alloc (.cells C' e)) (M:=dR M β ss) (β:=β') (h:=h') d 0 len _ _ xs w.heap.size 0 len hh (by omega) tX (Nat.le_refl _) (Room.mk (fr:=(0,0)) wS (by rw[Nat.zero_add,Nat.zero_add,k2,k3];exact Nat.le_refl _) (wU _));simpa using this
      · exact dF.fail
    · exact dF.fail
  · exact dF.fail
end
end Go.Skm
namespace Go.Skm
section
variable {P:Program} {T:Tab} {w0:Base} {Pr M0 M:Nat→Prop} {β:Nat→Option (Nat × Nat)} {st:St} {a:Act} {w:World} {d:Option Nat}
theorem Tj (ok : dZ P T) (r : Rel w0 Pr M0 M β st a w) {t : TypeId} {x y : AV} {c1 c2 : Value} (hx : AR w M β (look st.heap) x c1) (hy : AR w M β (look st.heap) y c2) :
    dF P w0 Pr M0 β st a w d (CG T d t x y) (do pure (.value (← Instr.makeSlice t c1 c2))):=by
  unfold CG;split
  · rename_i d e k1 l k2 c hu;have hu:=ok.und hu;rw[hx.Au,hy.Au];split
    · rename_i z n Ea hz hn hby
      obtain⟨i,v,h1,h2,h3⟩:=ok.zero hz;obtain⟨i',q1,q2⟩:=ok.size hn;rw[h1]at q1;cases q1;obtain⟨i',q1,q3⟩:=ok.bytes hby
      rw[h1]at q1;cases q1;refine dF.chk fun hb=>dF.chk fun hlc=>?_;simp only[qBa,beq_iff_eq,qDa]at hb hlc;obtain⟨⟨b1,b2⟩,b3⟩:=hb;have b3:=Nat.le_of_ble_eq_true b3;obtain⟨l0,l1,l2⟩:=hlc;subst b1;have hzc:=Aw h3 b2;obtain⟨zc,z1,z2,z3,z4⟩:=zQ h3;have wl:IntKind.i64.wrap l=l:=IntWalk.i64_in _ (by omega);have wc:IntKind.i64.wrap c=c:=IntWalk.i64_in _ (by omega);have big:¬ (2:Int) ^ 48<(i.bytes:Int)*c:=by
       have h1:(i.bytes:Int)*c≤16384*2147483648:=Int.mul_le_mul (by omega) l2 (by omega) (by omega);have h2:(16384:Int)*2147483648<2 ^ 48:=by decide
       omega
      have run:(Instr.makeSlice t (.int k1 l) (.int k2 c)).run P w=.ok (.slice (some ⟨w.heap.size,0,none⟩) l.toNat c.toNat) (w.alloc (.cells ((Array.range (c.toNat*(bY T e).2.length)).map (v.cells[·%v.cells.size]!)) e)):=by
       simp only[Instr.makeSlice,Sem.run_bind,dV hu,qRa,asInt,asIntOf,Sem.run_pure,tC h1,wl,wc];have c1:(decide (c<0)||decide ((i.bytes:Int)*c > 2 ^ 48)||decide (l<0)||decide (l > c))=false:=by simp only[Bool.or_eq_false_iff,decide_eq_false_iff_not];refine⟨⟨⟨by omega,big⟩,by omega⟩,by omega⟩
       rw[if_neg (by simpa using c1)];simp only[Sem.run_bind,run_askRoom,qRa,iF h1,q2];by_cases h0:c.toNat*(bY T e).2.length=0
       · rw[if_pos h0];have e0:(Array.range (c.toNat*(bY T e).2.length)).map ((#[]:Array Value)[·%(#[]:Array Value).size]!)=(Array.range (c.toNat*(bY T e).2.length)).map (v.cells[·%v.cells.size]!):=by rw[h0];simp
         simp only[Sem.run_pure,qRa,newRow,Sem.run_bind,run_newObj,e0];rfl
       · rw[if_neg h0];simp only[Sem.run_bind,sS h1 h2,Sem.run_pure,qRa];simp[newRow]
      have hr:=r.ZM (ss:=[]) rfl (by simp) (d:=d) (sa:=(bY T e).1) (ks:=(bY T e).2) (xs:=List.replicate l.toNat z)
       (C:=(Array.range (c.toNat*(bY T e).2.length)).map (v.cells[·%v.cells.size]!)) (e:=e) (fr:=(0,0)) (len:=l.toNat) (cap:=c.toNat) (wU _)
       (fun x hx=>by simp at hx;rw[hx.2];exact b2) (by simp) (by omega) (by simp) (by simp;exact Nat.mul_le_mul_right _ (by omega))
       (fun i x j c' hx hj=>by
         have hi:i<l.toNat:=by simpa using (qLa.1 hx).1
         rw[List.getElem?_replicate,if_pos hi]at hx;cases hx;have hj':=(qLa.1 hj).1;rw[eP b2]at hj';rw[Ij hzc (by omega) hj'];exact z4 _ _ j c' (by rw[← z1];exact hj))
      exact dF.ret (nv:=.value (.slice (some ⟨w.heap.size,0,none⟩) l.toNat c.toNat)) (by simp[run]) (.inl rfl) (fun _=>hr) (fun hf=>xA hf)
    · exact dF.fail
  · exact dF.fail
theorem acD {b o n k : Nat} {f : Nat → Nat → Value} (hc : ∀ i j,i < n → j < k → w.cell? ⟨b,o + i * k + j,none⟩ = some (f i j)) :
    ∃ C:Array Value,(loadCells ⟨b,o,none⟩ (n*k)).run P w=.ok C w∧C.size=n*k∧∀ i j,i<n→j<k→C.getD (i*k+j) undef=f i j:=by
  refine⟨_,vC (f:=fun q=>f (q / k) (q%k)) ?_,by simp,?_⟩
  · intro q hq;have hk:0<k:=Nat.pos_of_ne_zero fun e=>by subst e;simp at hq
    have h1:q / k<n:=(Nat.div_lt_iff_lt_mul hk).2 hq;have h2:q%k<k:=Nat.mod_lt _ hk;have:=hc (q / k) (q%k) h1 h2;have e:q / k*k+q%k=q:=by rw[Nat.mul_comm];exact Nat.div_add_mod q k
    rw[← this,Nat.add_assoc,e]
  · intro i j hi hj;have hlt:i*k+j<n*k:=by have:(i+1)*k≤n*k:=Nat.mul_le_mul_right _ hi;rw[Nat.add_mul]at this;omega
    unfold Array.getD;rw[dif_pos (by simpa using hlt)];simp only[Array.getInternal_eq_getElem,Array.getElem_ofFn];congr 1
    · rw[Nat.mul_comm,Nat.mul_add_div (by omega)];rw[Nat.div_eq_of_lt hj];rfl
    · exact Yc hj
def V8 (P:Program) (w:World) (M:Nat→Prop) (a:Bool) (ks:List Kd) (m:Nat) (ys:List PV) (c:Value):Prop :=
 (Builtin.lenOf c).run P w=.ok m w∧ys.length=m∧(∀ y∈ys,bZ a ks y=true)∧∀ n,n≤m →
   ∃ C:Array Value,(Builtin.firstCells ks.length n c).run P w=.ok C w∧C.size=n*ks.length∧∀ (i:Nat) (x:PV) (j:Nat) (cc:PV),i<n→ys[i]?=some x→x.cells[j]?=some cc→VR w M cc (C.getD (i*ks.length+j) undef)
theorem Ik {a : Bool} {ks : List Kd} {xs : List PV} (b o cap : Nat) (f : Nat → Nat → Value) (h1 : ∀ (i : Nat) (x : PV) (j : Nat) (c : PV),xs[i]? = some x → x.cells[j]? = some c → w.cell? ⟨b,o + i * ks.length + j,none⟩ = some (f i j))
    (h2:∀ (i:Nat) (x:PV) (j:Nat) (c:PV),xs[i]?=some x→x.cells[j]?=some c→VR w M c (f i j)) (h3:∀ x∈xs,bZ a ks x=true):V8 P w M a ks xs.length xs (.slice (some ⟨b,o,none⟩) xs.length cap):=by
  refine⟨by simp[Builtin.lenOf],rfl,h3,fun n hn=>?_⟩;obtain⟨C,g1,g2,g3⟩:=acD (P:=P) (w:=w) (b:=b) (o:=o) (n:=n) (k:=ks.length) (f:=f) (fun i j hi hj=>by have hx:xs[i]?=some xs[i]:=qLd (by omega);have hl:=eP (h3 _ (qLe hx));exact h1 i _ j _ hx (qLd (by omega)));refine⟨C,by simpa [Builtin.firstCells] using g1,g2,fun i x j cc hi hx hj=>?_⟩;have hl:=eP (h3 _ (qLe hx));have:=(qLa.1 hj).1;rw[g3 i j hi (by omega)];exact h2 i x j cc hx hj
theorem uq {a:Bool} {ks:List Kd} (base:Option Addr) (cap:Nat):V8 P w M a ks 0 [] (.slice base 0 cap):=by
 refine⟨by simp[Builtin.lenOf],rfl,by simp,fun n hn=>?_⟩;have:n=0:=by simpa using hn
 subst this;refine⟨#[],?_,by simp,fun i x j cc hi=>by omega⟩;cases base<;>simp[Builtin.firstCells,loadCells,loadCellsFrom]
theorem MX {v:PV} {c:Value} {a:Bool} {ks:List Kd} {xs:List PV} (hv:v=.list a ks xs∨v=.full a ks xs) (h:VR w M v c):V8 P w M a ks xs.length xs c:=by
 rcases hv with rfl | rfl
 · cases h with
   | list _ _ _ b o cap f q1 q2 q3 q4 q5=>exact Ik b o cap f q3 q4 q5
   | vZ _ _ base cap=>exact uq base cap
 · cases h with
   | full _ _ _ b o f q1 q3 q4 q5=>exact Ik b o _ f q3 q4 q5
   | NR _ _ base=>exact uq base 0
theorem Gq (r : Rel w0 Pr M0 M β st a w) {h' : Nat → Option cu} (hsub : ∀ s b,h' s = some b → look st.heap s = some b) {y : AV} {c : Value} {s2 : Option (Bool × List Kd)} {m : Nat} {ys : List PV}
    (hy:AR w M β (look st.heap) y c) (hs:Uh h' y=some (s2,m,ys)) {sa:Bool} {ks:List Kd} (hsame:ED s2 sa ks=true):V8 P w M sa ks m ys c:=by
  have same:∀ (a':Bool) (ks':List Kd),ED (some (a',ks')) sa ks=true→a'=sa∧ks'=ks:=by intro a' ks' h;simp only[ED,qBa,beq_iff_eq]at h;exact⟨h.1.symm,(Kd.rJ _ _ h.2).symm⟩
  unfold Uh at hs;split at hs
  · rename_i s z off len;split at hs
    · rename_i a' ks' xs hl;have hl:=hsub _ _ hl;cases hs;obtain⟨rfl,rfl⟩:=same _ _ hsame;cases hy with
      | slice _ _ _ a1 ks1 xs1 b o cap p1 p2 p3 p4 p5 =>
       rw[hl]at p1;cases p1;have hlen:((xs.drop off).take m).length=m:=by simp;omega
       cases r.heap s _ hl with
       | jS =>
        have:m=0:=by simp at p2;omega
        subst this;simpa using uq (P:=P) (w:=w) (M:=M) (a:=a') (ks:=ks') (some ⟨b,o+off*ks'.length,none⟩) cap
       | arr _ _ _ b' o' C e fr g1 g2 g3 g4 g5 g6 =>
        rw[p3]at g1;cases g1
        have:=Ik (P:=P) (w:=w) (M:=M) (a:=a') (ks:=ks') (xs:=(xs.drop off).take m) b (o+off*ks'.length) cap (fun i j=>C.getD (o+(off+i)*ks'.length+j) undef)
         (fun i x j c hx hj=>by
           have hx:=zB hx;have hi:=(qLa.1 hx).1;have hj':j<ks'.length:=by have:=eP (g5 x (qLe hx));have:=(qLa.1 hj).1;omega
           have h1:(off+i+1)*ks'.length≤xs.length*ks'.length:=Nat.mul_le_mul_right _ hi;rw[Nat.add_mul]at h1;have h2:o+off*ks'.length+i*ks'.length+j=o+(off+i)*ks'.length+j:=by rw[Nat.add_mul];omega
           rw[h2];exact zC g2 (by omega))
         (fun i x j c hx hj=>g6 _ x j c (zB hx) hj) (fun x hx=>g5 x (List.mem_of_mem_drop (List.mem_of_mem_take hx)))
        rwa[hlen]at this
      | sliceE _ _ a1 ks1 xs1 base p1 p2=>simpa using uq (P:=P) (w:=w) (M:=M) (a:=a') (ks:=ks') base 0
    · cases hs
  · rename_i s off len;split at hs
    · rename_i cs hl;have hl:=hsub _ _ hl;split at hs
      · rename_i kd vs hb;cases hs;obtain⟨rfl,rfl⟩:=same _ _ hsame;obtain⟨e1,e2⟩:=QX hb;subst e1;cases hy with
        | bslice _ _ _ cs1 b o cap p1 p2 p3 p4 =>
         rw[hl]at p1;cases p1;simp only[List.length_map]at p2;have hlen:((vs.drop off).take m).length=m:=by simp;omega
         have leaf:∀ v∈vs,v.cells=[v]:=fun v hv=>by have:=jH (e2 v hv);cases v<;>first | rfl | simp[PV.leaf]at this
         cases r.heap s _ hl with
         | box _ b' o' C e fr g1 g2 g3 g4 g5 g6 =>
          rw[p3]at g1;cases g1;simp only[List.length_map]at g3
          have:=Ik (P:=P) (w:=w) (M:=M) (a:=false) (ks:=[kd]) (xs:=(vs.drop off).take m) b (o+off) cap (fun i j=>C.getD (o+(off+i)) undef)
           (fun i x j c hx hj=>by
             have hx:=zB hx;have hi:=(qLa.1 hx).1;rw[leaf x (qLe hx)]at hj;have hj0:j=0:=by have:=(qLa.1 hj).1;simpa using this
             subst hj0;have:=zC (w:=w) g2 (i:=o+(off+i)) (by omega);rw[← this];congr 2;simp;omega)
           (fun i x j c hx hj=>by
             have hx:=zB hx;rw[leaf x (qLe hx)]at hj;have hj0:j=0:=by have:=(qLa.1 hj).1;simpa using this
             subst hj0;simp at hj;subst hj;have:=g6 (off+i) (.p x) (by simp[hx]);cases this;assumption)
           (fun x hx=>by simpa [bZ] using e2 x (List.mem_of_mem_drop (List.mem_of_mem_take hx)))
          rwa[hlen]at this
        | bsliceE _ _ cs1 base p1 p2=>simpa using uq (P:=P) (w:=w) (M:=M) (a:=false) (ks:=[kd]) base 0
      · cases hs
    · cases hs
  · cases hs;obtain⟨rfl,rfl⟩:=same _ _ hsame;cases hy with
    | p _ _ hy=>exact MX (.inl rfl) hy
  · cases hs;obtain⟨rfl,rfl⟩:=same _ _ hsame;cases hy with
    | p _ _ hy=>exact MX (.inr rfl) hy
  · cases hs;cases hy with
    | p _ _ hy=>cases hy with
    | nil =>exact uq none 0
  · rename_i s;cases hs;obtain⟨rfl,rfl⟩:=same _ _ hsame;rw[hy.QJ];refine⟨by simp[Builtin.lenOf],by simp,?_,?_⟩
    · intro y hy;obtain⟨b,_,rfl⟩:=List.mem_map.1 hy;rfl
    · intro n hn;refine⟨(s.extract 0 n).data.map fun b=>.int .u8 b.toNat,rfl,?_,?_⟩
      · have : (s.extract 0 n).data.size = n := by show (s.extract 0 n).size=n;simp[ByteArray.size_extract];omega
        rw[Array.size_map,this];simp
      · intro i x j cc hi hx hj;rw[List.getElem?_map]at hx;cases hb:s.data.toList[i]? with
        | none=>rw[hb]at hx;simp at hx
        | some q =>
         rw[hb]at hx;simp at hx;subst hx;have hj0:j=0:=by have:=(qLa.1 hj).1;simpa [PV.cells] using this
         subst hj0;simp[PV.cells]at hj;subst hj;have:((s.extract 0 n).data.map fun b=>Value.int .u8 b.toNat).getD (i*1+0) undef=.int .u8 q.toNat:=by
          have h1:(s.extract 0 n).data[i]?=some q:=by rw[ByteArray.data_extract,Array.getElem?_extract];rw[if_pos (by have:s.data.size=s.size:=rfl;omega)];simpa using hb
          rw[qAb,Array.getElem?_map,Nat.mul_one,Nat.add_zero,h1];rfl
         show VR w M _ (((s.extract 0 n).data.map fun b=>Value.int .u8 b.toNat).getD (i*1+0) undef);rw[this];exact .int _ _
  · cases hs
end
end Go.Skm
namespace Go.Skm
section
variable {P:Program} {T:Tab} {w0:Base} {Pr M0 M:Nat→Prop} {β:Nat→Option (Nat × Nat)} {st:St} {a:Act} {w:World} {d:Option Nat}
theorem Rel.drew (r:Rel w0 Pr M0 M β st a w):Rel w0 Pr M0 M β st a w.drew :=
 r.world (Nat.le_refl _) rfl rfl rfl (fun _ _ _=>rfl) (fun _ _ _ _ _ hr=>hr) (fun _ h=>h) (fun _ h=>.inl h)
def Gs:TypeDesc→Bool
 | .int _=>true
 | _=>false
def Gt (P:Program) (w:World) (M:Nat→Prop) (t2:TypeId) (v:Value) (a:Bool) (ks:List Kd) (m:Nat) (ys:List PV) (c:Value):Prop :=
 ys.length=m∧(∀ y∈ys,bZ a ks y=true)∧∃ (zeros:Bool) (dd:TypeDesc) (C:Array Value),P.underlying t2=some dd∧Gs dd=zeros ∧
  C.size=m*ks.length∧(∀ (i:Nat) (x:PV) (j:Nat) (cc:PV),ys[i]?=some x→x.cells[j]?=some cc→VR w M cc (C.getD (i*ks.length+j) undef)) ∧
  (match zeros with
   | true=>∃ k,c=.int k (m:Int)∧(m:Int)≤2147483648∧(m*ks.length=0→C=#[])∧(m*ks.length≠0→C=Builtin.zeroCells v.cells m)
   | false=>(Builtin.lenOf c).run P w=.ok m w∧(Builtin.firstCells ks.length m c).run P w=.ok C w)
def ZN (P:Program) (base:Option Addr) (n:Nat) (C:Array Value) (w w1:World):Prop :=
 match base with
 | some a=>(storeCells (a.add n) C.toList).run P w=.ok () w1
 | none=>w1=w
def aex (P:Program) (v:Value) (ks:List Kd) (m:Nat) (c:Value) (C:Array Value) (zeros:Bool) (w:World):Prop :=
 match zeros with
 | true=>∃ k,c=.int k (m:Int)∧(m:Int)≤2147483648∧(m*ks.length=0→C=#[])∧(m*ks.length≠0→C=Builtin.zeroCells v.cells m)
 | false=>(Builtin.lenOf c).run P w=.ok m w
theorem acF (n:Nat):∀ (r c:Nat),Builtin.growBy n r c≤max c (2*n+192):=by
 intro r;induction r with
 | zero=>intro c;simp[Builtin.growBy];omega
 | succ r ih =>
  intro c;unfold Builtin.growBy;split
  · omega
  · have:=ih (c+(c+768) / 4);omega
theorem Jy (n c:Nat) (h:c<n):Builtin.nextslicecap n c≤2*n+192:=by
 unfold Builtin.nextslicecap;split
 · omega
 · split
   · omega
   · have:=acF n 4 c;omega
theorem Ul {n c b:Nat} (h:c<n) (hn:n≤2147483648) (hb:b≤16384):¬ Builtin.nextslicecap n c*b > 2 ^ 48:=by have h1:=Jy n c h;have q:Builtin.nextslicecap n c*b≤4294967488*16384:=Nat.mul_le_mul (by omega) hb;exact Nat.not_lt.2 (Nat.le_trans q (by decide))
theorem Gt.one {t2 : TypeId} {v : Value} {sa : Bool} {ks : List Kd} {m : Nat} {ys : List PV} {c : Value} (h : Gt P w M t2 v sa ks m ys c) : ∀ (C : Array Value),C.size = m * ks.length →
    (∀ (i:Nat) (x:PV) (j:Nat) (cc:PV),ys[i]?=some x→x.cells[j]?=some cc→VR w M cc (C.getD (i*ks.length+j) undef))→∀ u∈C.toList,u.oneCell'=true:=by
  intro C h1 h2 u hu;obtain⟨q,hq⟩:=List.mem_iff_getElem?.1 hu;have hlt:q<m*ks.length:=by have:=(qLa.1 hq).1;simpa [h1] using this
  have hk:0<ks.length:=Nat.pos_of_ne_zero fun e=>by rw[e]at hlt;simp at hlt
  have g1:q / ks.length<m:=(Nat.div_lt_iff_lt_mul hk).2 hlt;have g2:q%ks.length<ks.length:=Nat.mod_lt _ hk;have hx:ys[q / ks.length]?=some (ys[q / ks.length]'(by rw[h.1];exact g1)):=qLd _;have hs:=h.2.1 _ (qLe hx);have hkd:ks[q%ks.length]?=some ks[q%ks.length]:=qLd g2;obtain⟨cc,p1,p2,_⟩:=rM hs hkd;have:=h2 _ _ _ _ hx p1;have e:q / ks.length*ks.length+q%ks.length=q:=by rw[Nat.mul_comm];exact Nat.div_add_mod q ks.length
  rw[e]at this;have e2:C.getD q undef=u:=by
   have:C[q]?=some u:=by simpa using hq
   simp[this]
  rw[e2]at this;exact this.one (jH p2)
theorem Q5 {ts : Array TypeId} {ty t t2 e : TypeId} {i : TypeInfo} {v : Value} {ks : List Kd} {base : Option Addr} {len cap m : Nat} {c : Value} {dd : TypeDesc} {zeros : Bool} {C : Array Value} {w1 : World} {nv : Value}
    (h0:ts[0]?=some t) (h1:ts[1]?=some t2) (hu:P.underlying t=some (.slice e)) (hi:P.info? e=some i) (hz:i.zero=some v) (hsz:i.size=ks.length) (hby:i.bytes≤16384)
    (hd:P.underlying t2=some dd) (hzz:Gs dd=zeros) (hm:len+m≤2147483648)
    (hn:∀ w,aex P v ks m c C zeros w)
    (hF:∀ w',(w'=w∨w'=w.drew)→zeros=false→(Builtin.firstCells ks.length m c).run P w'=.ok C w')
    (hfit:len+m≤cap→nv=.slice base (len+m) cap∧ZN P base (len*ks.length) C w w1)
    (hgrow:cap<len+m→∀ yO,len+m≤yO→yO=(Question.appendCap (len+m) cap e).cut (w.tape w.drawn (.appendCap (len+m) cap e))→∃ old:Array Value,(Builtin.firstCells ks.length len (.slice base len cap)).run P w.drew=.ok old w.drew ∧
      nv=.slice (some ⟨w.heap.size,0,none⟩) (len+m) yO∧w1=w.drew.alloc (.cells (old++C++Builtin.zeroCells v.cells (yO-(len+m))) e)) :
    (Builtin.append_ ts ty #[.slice base len cap,c]).run P w=.ok nv w1:=by
  have hn:=hn w;unfold Builtin.append_;simp only[h0,h1,show (#[Value.slice base len cap,c]:Array Value)[0]?=some (.slice base len cap) from rfl,show (#[Value.slice base len cap,c]:Array Value)[1]?=some c from rfl];simp only[Sem.run_bind,dV hu,qRa,iF hi,dV hd,Sem.run_pure];cases dd with
  | int k0 =>
   simp only[Gs]at hzz;subst hzz;simp only[aex]at hn;obtain⟨k,rfl,hm2,q1,q2⟩:=hn;have wl:IntKind.i64.wrap (m:Int)=m:=IntWalk.i64_in _ (by omega);have big:¬ (m:Int)*(i.bytes:Int) > 2 ^ 48:=by
    have q1:(m:Int)*(i.bytes:Int)≤2147483648*16384:=Int.mul_le_mul hm2 (by omega) (by omega) (by omega);have q2:(2147483648:Int)*16384<2 ^ 48:=by decide
    omega
   have happ:∀ w',(if m*ks.length=0 then pure #[] else do pure (Builtin.zeroCells (← zeroValue e).cells m):Sem (Array Value)).run P w'=.ok C w':=by
    intro w';by_cases h0:m*ks.length=0
    · rw[if_pos h0,q1 h0];rfl
    · rw[if_neg h0];simp only[Sem.run_bind,sS hi hz,qRa,Sem.run_pure];rw[q2 h0]
   simp only[if_true,asInt,asIntOf,Sem.run_bind,Sem.run_pure,qRa,wl];rw[if_neg (by omega)];simp only[Sem.run_bind,qRa,tC hi];rw[if_neg big];simp only[Sem.run_bind,Sem.run_pure,qRa,Int.toNat_natCast];by_cases Q7:len+m≤cap
   · obtain⟨f1,f2⟩:=hfit Q7;simp only[if_pos Q7,Bool.not_true,Bool.false_eq_true,if_false,hsz,happ,Sem.run_bind,qRa];cases base with
     | none=>simp only[ZN]at f2;subst f2;rw[f1];rfl
     | some ad=>simp only[ZN]at f2;simp only[Sem.run_bind,f2,qRa,Sem.run_pure,f1]
   · have hlt:cap<len+m:=by omega
     have hcap:=Jy (len+m) cap hlt;have g1:¬ (((len+m:Nat):Int) > IntKind.i64.max∧(True∨i.bytes=0)):=by
      have:IntKind.i64.max=9223372036854775807:=by decide
      rw[this];omega
     have g2:¬ Builtin.nextslicecap (len+m) cap*i.bytes > 2 ^ 48:=Ul hlt hm hby
     simp only[if_neg Q7,Sem.run_bind,tC hi,qRa];rw[if_neg g1];simp only[Sem.run_bind,tC hi,qRa];rw[if_neg g2];simp only[Sem.run_bind,Sem.run_pure];rw[run_choose];simp only[Question.forced,Bool.false_eq_true,if_false,qRa,World.drew_eq,tC hi,run_askRoom];have hcut:len+m≤(Question.appendCap (len+m) cap e).cut (w.tape w.drawn (.appendCap (len+m) cap e)):=Nat.le_add_right _ _;generalize hnc:(Question.appendCap (len+m) cap e).cut (w.tape w.drawn (.appendCap (len+m) cap e))=yO at hcut;obtain⟨old,o1,o2,o3⟩:=hgrow hlt yO hcut hnc.symm;rw[hsz];simp only[o1,qRa];simp only[Bool.not_true,Bool.false_eq_true,if_false,happ,sS hi hz,qRa];simp only[newRow,Sem.run_bind,run_newObj,qRa,Sem.run_pure,World.alloc_eq];rw[o2,o3];rfl
  | _ =>
   simp only[Gs]at hzz;subst hzz;simp only[aex]at hn;have happ:∀ w',(w'=w∨w'=w.drew)→(Builtin.firstCells ks.length m c).run P w'=.ok C w':=fun w' hw'=>hF w' hw' rfl;have ajA:=happ w (.inl rfl);have ajB:=happ w.drew (.inr rfl);simp only[Bool.false_eq_true,if_false,Sem.run_bind,hn,qRa];by_cases Q7:len+m≤cap
   · obtain⟨f1,f2⟩:=hfit Q7;simp only[if_pos Q7,Bool.not_false,if_true,hsz,ajA,Sem.run_bind,qRa];cases base with
     | none=>simp only[ZN]at f2;subst f2;rw[f1];rfl
     | some ad=>simp only[ZN]at f2;simp only[Sem.run_bind,f2,qRa,Sem.run_pure,f1]
   · have hlt:cap<len+m:=by omega
     have hcap:=Jy (len+m) cap hlt;have g1:¬ (((len+m:Nat):Int) > IntKind.i64.max∧(False∨i.bytes=0)):=by
      have:IntKind.i64.max=9223372036854775807:=by decide
      rw[this];omega
     have g2:¬ Builtin.nextslicecap (len+m) cap*i.bytes > 2 ^ 48:=Ul hlt hm hby
     simp only[if_neg Q7,Sem.run_bind,tC hi,qRa];rw[if_neg g1];simp only[Sem.run_bind,tC hi,qRa];rw[if_neg g2];simp only[Sem.run_bind,Sem.run_pure];rw[run_choose];simp only[Question.forced,Bool.false_eq_true,if_false,qRa,World.drew_eq,tC hi,run_askRoom];have hcut:len+m≤(Question.appendCap (len+m) cap e).cut (w.tape w.drawn (.appendCap (len+m) cap e)):=Nat.le_add_right _ _;generalize hnc:(Question.appendCap (len+m) cap e).cut (w.tape w.drawn (.appendCap (len+m) cap e))=yO at hcut;obtain⟨old,o1,o2,o3⟩:=hgrow hlt yO hcut hnc.symm;rw[hsz];simp only[o1,qRa];simp only[Bool.not_false,if_true,ajB,sS hi hz,qRa];simp only[newRow,Sem.run_bind,run_newObj,qRa,Sem.run_pure,World.alloc_eq];rw[o2,o3];rfl
end
end Go.Skm
namespace Go.Skm
section
variable {P:Program} {T:Tab} {w0:Base} {Pr M0 M:Nat→Prop} {β:Nat→Option (Nat × Nat)} {st:St} {a:Act} {w:World} {d:Option Nat}
theorem ZO {A B : List PV} {ks : List Kd} {sa : Bool} {CA CB CR : Array Value} (hA : CA.size = A.length * ks.length) (hB : CB.size = B.length * ks.length) (hsB : ∀ x ∈ B,bZ sa ks x = true) (hsA : ∀ x ∈ A,bZ sa ks x = true)
    (cA:∀ (i:Nat) (x:PV) (j:Nat) (cc:PV),A[i]?=some x→x.cells[j]?=some cc→VR w M cc (CA.getD (i*ks.length+j) undef))
    (cB:∀ (i:Nat) (x:PV) (j:Nat) (cc:PV),B[i]?=some x→x.cells[j]?=some cc→VR w M cc (CB.getD (i*ks.length+j) undef)) :
    ∀ (i:Nat) (x:PV) (j:Nat) (cc:PV),(A++B)[i]?=some x→x.cells[j]?=some cc→VR w M cc ((CA++CB++CR).getD (i*ks.length+j) undef):=by
  intro i x j cc hx hj;by_cases hi:i<A.length
  · rw[List.getElem?_append_left hi]at hx;have hj':j<ks.length:=by have:=eP (hsA x (qLe hx));have:=(qLa.1 hj).1;omega
    have hlt:i*ks.length+j<CA.size:=by have:(i+1)*ks.length≤A.length*ks.length:=Nat.mul_le_mul_right _ hi;rw[Nat.add_mul]at this;omega
    have e:(CA++CB++CR).getD (i*ks.length+j) undef=CA.getD (i*ks.length+j) undef:=by simp only[qAb];rw[Array.getElem?_append_left (by simp;omega),Array.getElem?_append_left hlt]
    rw[e];exact cA i x j cc hx hj
  · rw[List.getElem?_append_right (by omega)]at hx;have hi':=(qLa.1 hx).1;have hj':j<ks.length:=by have:=eP (hsB x (qLe hx));have:=(qLa.1 hj).1;omega
    have e0:i*ks.length+j=CA.size+((i-A.length)*ks.length+j):=by
     rw[hA];have:i=A.length+(i-A.length):=by omega
     conv=>lhs;rw[this,Nat.add_mul]
     omega
    have hlt:(i-A.length)*ks.length+j<CB.size:=by have:(i-A.length+1)*ks.length≤B.length*ks.length:=Nat.mul_le_mul_right _ hi';rw[Nat.add_mul]at this;omega
    have e:(CA++CB++CR).getD (i*ks.length+j) undef=CB.getD ((i-A.length)*ks.length+j) undef:=by simp only[qAb];rw[e0,Array.getElem?_append_left (by simp;omega),Array.getElem?_append_right (by omega)];congr 2;omega
    rw[e];exact cB _ x j cc hx hj
theorem Az (zs:Array Value) (n:Nat):(Builtin.zeroCells zs n).size=n*zs.size:=by simp[Builtin.zeroCells]
theorem Gt.both {t2 : TypeId} {v : Value} {sa : Bool} {ks : List Kd} {m : Nat} {ys : List PV} {c : Value} (hB : Gt P w M t2 v sa ks m ys c) (hB' : Gt P w.drew M t2 v sa ks m ys c) :
    ∃ (zeros:Bool) (dd:TypeDesc) (C:Array Value),P.underlying t2=some dd∧Gs dd=zeros∧C.size=m*ks.length ∧
     (∀ (i:Nat) (x:PV) (j:Nat) (cc:PV),ys[i]?=some x→x.cells[j]?=some cc→VR w M cc (C.getD (i*ks.length+j) undef)) ∧
     (∀ w',aex P v ks m c C zeros w')∧∀ w',(w'=w∨w'=w.drew)→zeros=false→(Builtin.firstCells ks.length m c).run P w'=.ok C w':=by
  obtain⟨b1,b2,zeros,dd,CB,b3,b4,b5,b6,b7⟩:=hB;obtain⟨_,_,zeros',dd',CB',b3',b4',b5',b6',b7'⟩:=hB';rw[b3]at b3';cases b3';rw[b4]at b4';subst b4';have hCC:CB=CB':=by
   cases zeros with
   | true =>
    obtain⟨k,rfl,_,q1,q2⟩:=b7;obtain⟨k',_,_,q1',q2'⟩:=b7';by_cases h:m*ks.length=0
    · rw[q1 h,q1' h]
    · rw[q2 h,q2' h]
   | false =>
    have e1:=b7.2;have e2:=b7'.2;have draw:∀ (n:Nat) (c:Value),(∃ C,(Builtin.firstCells ks.length n c).run P w=.ok C w)→∀ C',(Builtin.firstCells ks.length n c).run P w.drew=.ok C' w.drew→(Builtin.firstCells ks.length n c).run P w=.ok C' w:=by
     intro n c ⟨C,hC⟩ C' hC';have loads:∀ (a:Addr) (k i:Nat) (acc:Array Value) (C C':Array Value),(loadCellsFrom a i k acc).run P w=.ok C w→(loadCellsFrom a i k acc).run P w.drew=.ok C' w.drew→C=C':=by
      intro a k;induction k with
      | zero=>intro i acc C C' h h';simp[loadCellsFrom]at h h';rw[← h,← h']
      | succ k ih =>
       intro i acc C C' h h';simp only[loadCellsFrom,Sem.run_bind,run_load]at h h';rw[World.cell?_drew]at h';cases hc:w.cell? (a.add i) with
       | some x =>rw[hc]at h h';simp only[qRa]at h h';exact ih (i+1) (acc.push x) C C' h h'
       | none =>
        rw[hc]at h h';simp only at h h';have ef:w.drew.farLoad P (a.add i) false=w.farLoad P (a.add i) false:=rfl;cases hf:w.farLoad P (a.add i) (Mode.plain==Mode.atomic) with
        | error x=>rw[hf]at h;simp at h
        | ok x =>have hf':w.drew.farLoad P (a.add i) (Mode.plain==Mode.atomic)=.ok x:=hf;rw[hf]at h;rw[hf']at h';obtain⟨x1,x2⟩:=x;simp only[qRa]at h h';exact ih (i+1) (acc.push x1) C C' h h'
     have:C=C':=by
      unfold Builtin.firstCells at hC hC';split at hC
      · exact loads _ _ _ _ _ _ hC hC'
      · simp only[Sem.run_pure,Result.ok.injEq]at hC hC';exact hC.1.symm.trans hC'.1
      · simp only[Sem.run_pure,Result.ok.injEq]at hC hC';exact hC.1.symm.trans hC'.1
      · simp at hC
     rw[← this];exact hC
    have:=draw m c ⟨CB,e1⟩ CB' e2;rw[e1]at this;cases this;rfl
  subst hCC;refine⟨zeros,dd,CB,b3,b4,b5,b6,?_,?_⟩
  · intro w';cases zeros with
    | true=>exact b7
    | false =>simp only[aex];have:=b7.1;unfold Builtin.lenOf at this ⊢;split at this<;>simp_all
  · intro w' hw' hz0;subst hz0;rcases hw' with rfl | rfl
    · exact b7.2
    · exact b7'.2
theorem Jz {ts : Array TypeId} {ty t t2 e : TypeId} {i : TypeInfo} {v : Value} {sa : Bool} {ks : List Kd} {base : Option Addr} {len cap m : Nat} {c : Value} {A ys : List PV}
    (h0:ts[0]?=some t) (h1:ts[1]?=some t2) (hu:P.underlying t=some (.slice e)) (hi:P.info? e=some i) (hz:i.zero=some v) (hsz:i.size=ks.length) (hby:i.bytes≤16384) (hzs:v.cells.size=ks.length)
    (hm:len+m≤2147483648) (hA:V8 P w.drew M sa ks len A (.slice base len cap)) (hB:Gt P w M t2 v sa ks m ys c) (hB':Gt P w.drew M t2 v sa ks m ys c) (hgr:cap<len+m) :
    ∃ (C:Array Value) (yO:Nat),(Builtin.append_ ts ty #[.slice base len cap,c]).run P w=.ok (.slice (some ⟨w.heap.size,0,none⟩) (len+m) yO) (w.drew.alloc (.cells C e))∧len+m≤yO∧C.size=yO*ks.length ∧
     (∀ x∈A++ys,bZ sa ks x=true)∧(A++ys).length=len+m ∧
     ∀ (i:Nat) (x:PV) (j:Nat) (cc:PV),(A++ys)[i]?=some x→x.cells[j]?=some cc→VR w.drew M cc (C.getD (i*ks.length+j) undef):=by
  obtain⟨a1,a2,a3,a4⟩:=hA;obtain⟨CA,p1,p2,p3⟩:=a4 len (Nat.le_refl _);have b1:=hB.1;have b2:=hB.2.1;obtain⟨zeros,dd,CB,b3,b4,b5,b6,b7,b8⟩:=hB.both hB';let yO:=(Question.appendCap (len+m) cap e).cut (w.tape w.drawn (.appendCap (len+m) cap e));have hcut:len+m≤yO:=Nat.le_add_right _ _;refine⟨CA++CB++Builtin.zeroCells v.cells (yO-(len+m)),yO,?_,hcut,?_,?_,?_,?_⟩
  · refine Q5 h0 h1 hu hi hz hsz hby b3 b4 hm (C:=CB) b7 b8 (fun h=>by omega) ?_;intro _ aq9 h1 h2;subst h2;exact⟨CA,p1,rfl,rfl⟩
  · simp only[Array.size_append,p2,b5,Az,hzs];rw[← Nat.add_mul,← Nat.add_mul];congr 1;omega
  · intro x hx;rcases List.mem_append.1 hx with hx | hx
    · exact a3 x hx
    · exact b2 x hx
  · simp[a2,b1]
  · have dr:∀ (v:PV) (c:Value),VR w M v c→VR w.drew M v c:=fun v c h=>VR.mono (w:=w) (w':=w.drew) (M':=M) (fun b hb=>⟨hb,rfl⟩) h;exact ZO (by rw[p2,a2]) (by rw[b5,b1]) b2 a3 (fun i x j cc hx hj=>p3 i x j cc (by have:=(qLa.1 hx).1;omega) hx hj) (fun i x j cc hx hj=>dr _ _ (b6 i x j cc hx hj))
end
end Go.Skm
namespace Go.Skm
section
variable {P:Program} {T:Tab} {w0:Base} {Pr M0 M:Nat→Prop} {β:Nat→Option (Nat × Nat)} {st:St} {a:Act} {w:World} {d:Option Nat}
theorem Rel.abf (r : Rel w0 Pr M0 M β st a w) {d : Nat} {sa : Bool} {ks : List Kd} {xs : List PV} {C : Array Value} {e : TypeId} {len cap : Nat}
    (hs:∀ x∈xs,bZ sa ks x=true) (hlen:len≤xs.length) (hcap:len≤cap) (hC:cap*ks.length≤C.size) (hX:xs.length*ks.length≤C.size)
    (hc:∀ (i:Nat) (x:PV) (j:Nat) (c:PV),xs[i]?=some x→x.cells[j]?=some c→VR w.drew M c (C.getD (i*ks.length+j) undef)) :
    Rel w0 Pr M0 (dR M β []) (fun x=>if x=d then some (w.heap.size,0) else β x) (st.apply (some d) { val:=.slice d ks.length 0 len,qI:=[(d,.arr sa ks xs)],new:=[d] }) (a.put (some d) (.slice (some ⟨w.heap.size,0,none⟩) len cap)) (w.drew.alloc (.cells C e)) :=
  r.drew.ZM (ss:=[]) rfl (by simp) (fr:=(0,0)) (wU C) hs hlen hcap hC hX fun i x j c hx hj=>(hc i x j c hx hj).plus []
theorem Rel.aey (r : Rel w0 Pr M0 M β st a w) {s z : Nat} {blk : cu} {w' : World} {p : Option (Nat × Nat)} {c : Value} {len : Nat} {d : Option Nat} (asU : s < ah)
    (hsz:w.heap.size≤w'.heap.size) (hos:w'.os=w.os) (htp:w'.tape=w.tape) (hop:w'.output=w.output)
    (hold:∀ k,k<w.heap.size→(∀ o,β s=some (k,o)→(look st.heap s).isSome=true→False)→w'.heap[k]?=w.heap[k]?)
    (hrm:∀ b n,b<w.heap.size→Room w b n→Room w' b n)
    (hp:∀ b o,p=some (b,o)→¬ M b∧b<w'.heap.size∧((w0.heap.size≤b∨Pr b)∧(w0.n0≤b∨ah≤s))∧(∀ s' o',s'≠s→(look st.heap s').isSome=true→β s'≠some (b,o')))
    (hB:∀ (β':Nat→Option (Nat × Nat)) (h':Nat→Option cu),β' s=p→h' s=some blk→(∀ (v:PV) (c:Value),VR w M v c→VR w' M v c)→BR w' M β' h' s blk∧AR w' M β' h' (.slice s z 0 len) c) :
    Rel w0 Pr M0 M (fun x=>if x=s then p else β x) (st.apply d { val:=.slice s z 0 len,qI:=[(s,blk)],cut:=[s] }) (a.put d c) w':=by
  have r1:=r.strike (M':=M) [s] (fun _ h=>h) (fun _ h=>.inl h);have hls:∀ x,(look (st.strike [s]).heap x).isSome=true→x≠s∧(look st.heap x).isSome=true:=by
   intro x hx;rw[fQ]at hx;by_cases h:x∈[s]
   · rw[if_pos h]at hx;cases hx
   · rw[if_neg h]at hx;exact⟨by simpa using h,by simpa using hx⟩
  have hMk:∀ k,M k→w'.heap[k]?=w.heap[k]?:=fun k hk=>hold k (r.gU k hk) fun o h1 h2=>(r.own s k o h2 h1).1 hk;have r2:Rel w0 Pr M0 M β (st.strike [s]) a w':=r1.world hsz hos htp hop (fun k hk hk'=>hold k hk fun o h1 h2=>by
   rcases hk' with hk' | ⟨s',o',h3,h4⟩ | ⟨h3,h4⟩
   · exact(r.own s k o h2 h1).1 hk'
   · exact(hls s' h3).1 (r.inj s' s k o' o (hls s' h3).2 h2 h4 h1)
   · rcases(r.own s k o h2 h1).2.2.1 with h | h
     · omega
     · exact h4 h) (fun k n _ hk _ hr=>hrm k n hk hr) (fun _ h=>h) (fun _ h=>.inl h)
  have habs:look (st.strike [s]).heap s=none:=by rw[fQ,if_pos (by simp)]
  obtain⟨hB1,hB2⟩:=hB (fun x=>if x=s then p else β x) (fun x=>if x=s then some blk else look (st.strike [s]).heap x) (by simp) (by simp) (fun v c h=>h.mono fun k hk=>⟨hk,hMk k hk⟩);have r3:=r2.lay (s:=s) (blk:=blk) habs (p:=p) (fun b o e=>by obtain⟨q1,q2,q3,q4⟩:=hp b o e;exact⟨q1,q2,q3,fun s' o' h=>q4 s' o' (hls s' h).1 (hls s' h).2⟩) hB1;have hlk:look (put (st.strike [s]).heap s blk)=fun x=>if x=s then some blk else look (st.strike [s]).heap x:=funext fun x=>dS _ _ _ _
  have r4:=r3.setEnv d (v:=.slice s z 0 len) (c:=c) (by show AR w' _ _ (look (put (st.strike [s]).heap s blk)) _ c;rw[hlk];exact hB2);have e1:st.apply d { val:=.slice s z 0 len,qI:=[(s,blk)],cut:=[s] }={ env:=Skm.setEnv (st.strike [s]).env d (.slice s z 0 len),heap:=put (iV [s] st.heap) s blk }:=rfl;rw[e1];refine Rel.congr r4 (hp:=put (iV [s] st.heap) s blk) fun x=>?_;show look (put (iV [s] st.heap) s blk) x=look (put (st.strike [s]).heap s blk) x;rw[dS,dS];by_cases h:x=s
  · rw[if_pos h,if_pos h]
  · rw[if_neg h,if_neg h,iY,fQ,if_neg (by simpa using h)]
theorem abg (_ok : dZ P T) (r : Rel w0 Pr M0 M β st a w) {h' : Nat → Option cu} (hsub : ∀ s b,h' s = some b → look st.heap s = some b) {ts : Array TypeId} {ty t t2 e : TypeId} {i : TypeInfo} {v : Value} {sa : Bool} {ks : List Kd} {dd : Nat} {x : AV} {c cy : Value}
    {s2:Option (Bool × List Kd)} {m:Nat} {ys:List PV}
    (h0:ts[0]?=some t) (h1:ts[1]?=some t2) (hu:P.underlying t=some (.slice e)) (hi:P.info? e=some i) (hz:i.zero=some v) (hsz:i.size=ks.length) (hby:i.bytes≤16384) (hzs:v.cells.size=ks.length)
    (hx:AR w M β (look st.heap) x c) (hB:ED s2 sa ks=true→Gt P w M t2 v sa ks m ys cy) (hB':ED s2 sa ks=true→Gt P w.drew M t2 v sa ks m ys cy) :
    dF P w0 Pr M0 β st a w (some dd) (OW h' dd (sa,ks) x s2 m ys) (do pure (.value (← Builtin.append_ ts ty #[c,cy]))):=by
  unfold OW;refine dF.chk fun hsame=>?_;have hB:=hB hsame;have hB':=hB' hsame;have hys:ys.length=m:=hB.1;have b2:=hB.2.1;obtain⟨zeros,td,CB,b3,b4,b5,b6,b7,b8⟩:=hB.both hB';have one:∀ u∈CB.toList,u.oneCell'=true:=hB.one CB b5 b6;have fits:∀ (base:Option Addr) (len cap:Nat) (w1:World),len+m≤2147483648→len+m≤cap→ZN P base (len*ks.length) CB w w1→(Builtin.append_ ts ty #[.slice base len cap,cy]).run P w=.ok (.slice base (len+m) cap) w1:=by intro base len cap w1 hm hcap hst;exact Q5 h0 h1 hu hi hz hsz hby b3 b4 hm (C:=CB) b7 b8 (fun _=>⟨rfl,hst⟩) (fun h=>by omega)
  split
  · rename_i s z off len;split
    · rename_i a' ks' xs hl0;have hl:=hsub _ _ hl0;refine dF.chk fun hk=>dF.chk fun hm=>?_;simp only[qBa,beq_iff_eq,qDa]at hk hm;obtain⟨rfl,hk2,hk3⟩:=hk;have:=Kd.rJ _ _ hk2;subst this;have hk3:s<100000:=(Nat.blt_eq▸hk3:_);have hi0:(look st.heap s).isSome=true:=by rw[hl];rfl
      have hA:V8 P w.drew M a' ks' len ((xs.drop off).take len) c :=
       Gq (P:=P) r.drew hsub (y:=.slice s z off len) (c:=c) (s2:=some (a',ks')) (m:=len) (ys:=(xs.drop off).take len) (AR.mono (w:=w) (w':=w.drew) (M':=M) (β':=β) (h':=look st.heap) (fun b hb=>⟨hb,rfl⟩) hx fun s blk _ h=>⟨blk,h,Like.refl _,rfl,fun _ _ _ _ h=>h⟩)
        (by simp only[Uh,hl0]) (by simp[ED,Kd.pG])
      have grow:∀ (base:Option Addr) (cap:Nat),c=.slice base len cap→cap<len+m→dF P w0 Pr M0 β st a w (some dd) (.ret { val:=.slice s ks'.length 0 (len+m),qI:=[(s,.arr a' ks' ((xs.drop off).take len++ys))],cut:=[s] }) (do pure (.value (← Builtin.append_ ts ty #[c,cy]))):=by
       intro base cap hc hgr;subst hc;obtain⟨C,yO,g1,g2,g3,g4,g5,g6⟩:=Jz (ty:=ty) h0 h1 hu hi hz hsz hby hzs hm hA hB hB' hgr;refine dF.ret (h5:=fun _=>tY (.inl hk3)) (h4:=fun _ s' hs'=>if_neg (by simp only[ah]at hs';omega)) (M':=M) (β':=fun x=>if x=s then some (w.heap.size,0) else β x) (nv:=.value (.slice (some ⟨w.heap.size,0,none⟩) (len+m) yO)) (by simp only[Sem.run_bind,g1,qRa,Sem.run_pure];rfl) (.inl rfl) fun _=>?_;refine r.aey hk3 (p:=some (w.heap.size,0)) (w':=w.drew.alloc (.cells C e)) (by simp) rfl rfl rfl (fun k hk _=>alloc_old (w:=w.drew) hk) (fun k n hk hr=>hr.of_block (alloc_old (w:=w.drew) hk)) ?_ ?_
       · intro b o hp;cases hp;refine⟨fun hM=>by have:=r.gU _ hM;omega,by simp,⟨.inl r.size,.inl (Nat.le_trans w0.le' r.size)⟩,fun s' o' _ h1 h2=>by have:=(r.own s' _ o' h1 h2).2.1;omega⟩
       · intro β' h'' tX hh hv;have hdr:∀ (v:PV) (c:Value),VR w.drew M v c→VR (w.drew.alloc (.cells C e)) M v c:=fun v c h=>h.mono fun b hb=>⟨hb,alloc_old (w:=w.drew) (r.gU b hb)⟩;have hnew:(w.drew.alloc (.cells C e)).heap[w.heap.size]?=some (.cells C e):=wS (w:=w.drew);have hX:((xs.drop off).take len++ys).length*ks'.length≤C.size:=by rw[g5,g3];exact Nat.mul_le_mul_right _ g2
         refine⟨.arr a' ks' _ w.heap.size 0 C e (0,0) tX hnew (by omega) (wU C) g4 (fun i x j c hx hj=>by rw[Nat.zero_add];exact hdr _ _ (g6 i x j c hx hj)),?_⟩;have:=AR.slice (w:=w.drew.alloc (.cells C e)) (M:=M) (β:=β') (h:=h'') s 0 (len+m) a' ks' _ w.heap.size 0 yO hh (by omega) tX g2 (Room.mk (fr:=(0,0)) hnew (by rw[Nat.zero_add,Nat.zero_add,g3];exact Nat.le_refl _) (wU C));simpa using this
      cases hx with
      | slice _ _ _ a1 ks1 xs1 b o cap p1 p2 p3 p4 p5 =>
       rw[hl]at p1;cases p1;by_cases hfit:len+m≤cap
       · obtain⟨C,ce,fr,k1,k2,k3⟩:=p5.get;have hroom:o+off*ks'.length+len*ks'.length+CB.toList.length≤C.size:=by have:(off+(len+m))*ks'.length≤(off+cap)*ks'.length:=Nat.mul_le_mul_right _ (by omega);rw[Nat.add_mul,Nat.add_mul]at this;simp only[Array.length_toList,b5];omega
         have hst:=qK (P:=P) (b:=b) (o:=o+off*ks'.length+len*ks'.length) (e:=ce) (fr:=fr) CB.toList 0 w C k1 k3 (by simpa using hroom) one;rw[Nat.add_zero]at hst;have hrun:=fits (some ⟨b,o+off*ks'.length,none⟩) len cap _ hm hfit (by simp only[ZN,addr_add];exact hst);refine dF.ret (h5:=fun _=>tY (.inl hk3)) (h4:=fun _ s' hs'=>if_neg (by simp only[ah]at hs';omega)) (M':=M) (β':=fun x=>if x=s then some (b,o+off*ks'.length) else β x) (nv:=.value (.slice (some ⟨b,o+off*ks'.length,none⟩) (len+m) cap)) (by simp only[Sem.run_bind,hrun,qRa,Sem.run_pure];rfl) (.inl rfl) fun _=>?_;have hbk:∀ k,k≠b→(iU w b (jk C (o+off*ks'.length+len*ks'.length) CB.toList) ce fr).heap[k]?=w.heap[k]?:=fun k hk=>by simp only[iU];rw[qAe (fun e=>hk e.symm)]
         obtain⟨o1,o2,o3⟩:=r.own s b o hi0 p3;refine r.aey hk3 (p:=some (b,o+off*ks'.length)) (by simp[iU]) rfl rfl rfl (fun k hk hne=>hbk k fun e=>by subst e;exact hne o p3 hi0) (fun k n hk hr=>by
          by_cases hkb:k=b
          · subst hkb;obtain⟨C1,e1,fr1,h1,h2,h3⟩:=hr;rw[k1]at h1;cases h1;have hsz':=iC (vs:=CB.toList) hroom;exact⟨_,ce,fr,Bv (C':=jk C (o+off*ks'.length+len*ks'.length) CB.toList) k1,by omega,fun h=>(h3 h).size (by omega)⟩
          · exact hr.of_block (hbk k hkb)) ?_ ?_
         · intro b' o' hp;cases hp;exact⟨o1,by simpa [iU] using o2,o3,fun s' o' hne h1 h2=>hne (r.inj s' s b o' o h1 hi0 h2 p3)⟩
         · intro β' h'' tX hh hv;have hnew:=Bv (C':=jk C (o+off*ks'.length+len*ks'.length) CB.toList) k1;have hsz':=iC (vs:=CB.toList) hroom;have hopen:Open (jk C (o+off*ks'.length+len*ks'.length) CB.toList) fr:=k3.size hsz';have hlen:((xs.drop off).take len).length=len:=by simp;omega
           refine⟨.arr a' ks' _ b _ _ ce fr tX hnew ?_ hopen ?_ ?_,?_⟩
           · rw[hsz',List.length_append,hlen,hys,Nat.add_mul];simp only[Array.length_toList,b5]at hroom;omega
           · intro x hx;rcases List.mem_append.1 hx with hx | hx
             · exact hA.2.2.1 x hx
             · exact b2 x hx
           · intro i x j cc hx hj;rw[uo hroom];by_cases hi:i<len
             · rw[List.getElem?_append_left (by omega)]at hx;have hj':j<ks'.length:=by have:=eP (hA.2.2.1 x (qLe hx));have:=(qLa.1 hj).1;omega
               have h1:(i+1)*ks'.length≤len*ks'.length:=Nat.mul_le_mul_right _ hi;rw[Nat.add_mul]at h1;rw[if_neg (by omega)];have hx':=zB hx;cases r.heap s _ hl with
               | jS=>simp at hx'
               | arr _ _ _ b' o' C2 e2 fr2 g1 g2 g3 g4 g5 g6 =>rw[p3]at g1;cases g1;rw[k1]at g2;cases g2;have:=g6 _ x j cc hx' hj;rw[Nat.add_mul,← Nat.add_assoc]at this;exact hv _ _ this
             · rw[List.getElem?_append_right (by omega),hlen]at hx;have hi':=(qLa.1 hx).1;have hj':j<ks'.length:=by have:=eP (b2 x (qLe hx));have:=(qLa.1 hj).1;omega
               have e0:i*ks'.length=len*ks'.length+(i-len)*ks'.length:=by rw[← Nat.add_mul];congr 1;omega
               have h1:(i-len+1)*ks'.length≤ys.length*ks'.length:=Nat.mul_le_mul_right _ hi';rw[Nat.add_mul]at h1;rw[if_pos (by simp only[Array.length_toList,b5];rw[hys]at h1;omega)];have e1:o+off*ks'.length+i*ks'.length+j-(o+off*ks'.length+len*ks'.length)=(i-len)*ks'.length+j:=by omega
               rw[e1];have:=hv _ _ (b6 _ x j cc hx hj);simpa using this
           · have := AR.slice (w := iU w b (jk C (o + off * ks'.length + len * ks'.length) CB.toList) ce fr) (M := M) (β := β') (h := h'') s 0 (len + m) a' ks' _ b (o + off * ks'.length) cap hh (by simp; omega) tX hfit
               (Room.mk hnew (by rw[hsz',Nat.zero_add];have:=k2;rw[Nat.add_mul]at this;omega) hopen)
             simpa using this
       · exact grow _ cap rfl (by omega)
      | sliceE _ _ a1 ks1 xs1 base p1 p2 =>
       by_cases hm0:m=0
       · subst hm0;have hCB:CB.toList=[]:=by
          have:CB.size=0:=by simpa using b5
          simpa using this
         have hrun:=fits base 0 0 w hm (Nat.le_refl _) (by
          cases base with
          | none=>rfl
          | some ad=>simp only[ZN,hCB];rfl)
         refine dF.ret (h5:=fun _=>tY (.inl hk3)) (h4:=fun _ s' hs'=>if_neg (by simp only[ah]at hs';omega)) (M':=M) (β':=fun x=>if x=s then none else β x) (nv:=.value (.slice base 0 0)) (by simp only[Sem.run_bind,hrun,qRa,Sem.run_pure,Nat.add_zero];rfl) (.inl rfl) fun _=>?_;have hy0:ys=[]:=by simpa using hys
         refine r.aey hk3 (p:=none) (Nat.le_refl _) rfl rfl rfl (fun _ _ _=>rfl) (fun _ _ _ h=>h) (fun _ _ h=>by cases h) ?_;intro β' h'' tX hh hv;simp only[hy0,List.take_zero,List.append_nil]at hh ⊢;exact⟨.jS _ _,.sliceE s 0 _ _ [] base hh (by simp)⟩
       · exact grow base 0 rfl (by omega)
    · exact dF.fail
  · refine dF.chk fun hm=>?_;simp only[qDa]at hm;cases hx with
    | p _ _ hx=>cases hx with
    | nil =>
     by_cases hm0:m=0
     · subst hm0;have hrun:=fits none 0 0 w (by omega) (Nat.le_refl _) rfl;have hy0:ys=[]:=by simpa using hys
       subst hy0;have hr:=r.aew (d:=dd) (sa:=sa) (ks:=ks);exact dF.ret (nv:=.value (.slice none 0 0)) (by simp only[Sem.run_bind,hrun,qRa,Sem.run_pure,Nat.add_zero]) (.inl rfl) (fun _=>hr) (fun hf=>xA hf)
     · obtain⟨C,yO,g1,g2,g3,g4,g5,g6⟩:=Jz (ty:=ty) (len:=0) (A:=[]) h0 h1 hu hi hz hsz hby hzs (by omega) (uq none 0) hB hB' (by omega);simp only[List.nil_append,Nat.zero_add]at g1 g2 g3 g4 g5 g6;have hr:=r.abf (d:=dd) (sa:=sa) (ks:=ks) (xs:=ys) (C:=C) (e:=e) (len:=m) (cap:=yO) g4 (by omega) g2 (by rw[g3];exact Nat.le_refl _) (by rw[g5,g3];exact Nat.mul_le_mul_right _ g2) g6;exact dF.ret (nv:=.value (.slice (some ⟨w.heap.size,0,none⟩) m yO)) (by simp only[Sem.run_bind,g1,qRa,Sem.run_pure]) (.inl rfl) (fun _=>hr) (fun hf=>xA hf)
  · rename_i a' ks' xs;refine dF.chk fun hk=>dF.chk fun hm=>?_;simp only[qBa,beq_iff_eq,qDa]at hk hm;obtain⟨rfl,hk2⟩:=hk;have:=Kd.rJ _ _ hk2;subst this;have hA:V8 P w.drew M a' ks' xs.length xs c:=by
     cases hx with
     | p _ _ hx=>exact MX (.inr rfl) (VR.mono (w:=w) (w':=w.drew) (M':=M) (fun b hb=>⟨hb,rfl⟩) hx)
    have hform:∃ base,c=.slice base xs.length xs.length:=by
     cases hx with
     | p _ _ hx=>cases hx with
      | full _ _ _ b o f=>exact⟨_,rfl⟩
      | NR _ _ base=>exact⟨base,rfl⟩
    obtain⟨base,rfl⟩:=hform;by_cases hm0:m=0
    · subst hm0;have hx0:xs=[]:=List.length_eq_zero_iff.1 (by omega);subst hx0;have hCB:CB.toList=[]:=by
       have:CB.size=0:=by simpa using b5
       simpa using this
      have hrun:=fits base 0 0 w (by omega) (Nat.le_refl _) (by
       cases base with
       | none=>rfl
       | some ad=>simp only[ZN,hCB];rfl)
      have hy0:ys=[]:=by simpa using hys
      subst hy0;have hr:=r.aew (d:=dd) (sa:=a') (ks:=ks') base;exact dF.ret (nv:=.value (.slice base 0 0)) (by simp only[List.length_nil,Sem.run_bind,hrun,qRa,Sem.run_pure,Nat.add_zero]) (.inl rfl) (fun _=>hr) (fun hf=>xA hf)
    obtain⟨C,yO,g1,g2,g3,g4,g5,g6⟩:=Jz (ty:=ty) h0 h1 hu hi hz hsz hby hzs hm.2 hA hB hB' (by omega);have hr:=r.abf (d:=dd) (sa:=a') (ks:=ks') (xs:=xs++ys) (C:=C) (e:=e) (len:=xs.length+m) (cap:=yO) g4 (by omega) g2 (by rw[g3];exact Nat.le_refl _) (by rw[g5,g3];exact Nat.mul_le_mul_right _ g2) g6;exact dF.ret (nv:=.value (.slice (some ⟨w.heap.size,0,none⟩) (xs.length+m) yO)) (by simp only[Sem.run_bind,g1,qRa,Sem.run_pure]) (.inl rfl) (fun _=>hr) (fun hf=>xA hf)
  · exact dF.fail
end
end Go.Skm
namespace Go.Skm
section
variable {P:Program} {T:Tab} {w0:Base} {Pr M0 M:Nat→Prop} {β:Nat→Option (Nat × Nat)} {st:St} {a:Act} {w:World} {d:Option Nat}
theorem AR.drew {h:Nat→Option cu} {x:AV} {c:Value} (hx:AR w M β h x c):AR w.drew M β h x c :=
 AR.mono (w:=w) (w':=w.drew) (M':=M) (β':=β) (h':=h) (fun _ hb=>⟨hb,rfl⟩) hx fun _ blk _ h=>⟨blk,h,Like.refl _,rfl,fun _ _ _ _ h=>h⟩
theorem Gt.aez {t2:TypeId} {v:Value} {sa:Bool} {ks:List Kd} {m:Nat} {ys:List PV} {c:Value} {dd:TypeDesc} (h1:P.underlying t2=some dd) (h2:Gs dd=false) (h:V8 P w M sa ks m ys c):Gt P w M t2 v sa ks m ys c:=by obtain⟨q1,q2,q3,q4⟩:=h;obtain⟨C,p1,p2,p3⟩:=q4 m (Nat.le_refl _);refine⟨q2,q3,false,dd,C,h1,h2,p2,fun i x j cc hx hj=>p3 i x j cc ?_ hx hj,q1,p1⟩;have:=(qLa.1 hx).1;omega
theorem Gt.abh {t2 : TypeId} {v : Value} {z : PV} {sa : Bool} {ks : List Kd} {m : Nat} {k : IntKind} {dd : TypeDesc} (h1 : P.underlying t2 = some dd) (h2 : Gs dd = true) (hm : (m : Int) ≤ 2147483648) (hv : ofValue v = some z) (hs : bZ sa ks z = true) :
    Gt P w M t2 v sa ks m (List.replicate m z) (.int k (m:Int)):=by
  have hzc:=Aw hv hs;obtain⟨zc,z1,z2,z3,z4⟩:=zQ hv;refine⟨by simp,fun y hy=>by simp at hy;rw[hy.2];exact hs,true,dd,if m*ks.length=0 then #[] else Builtin.zeroCells v.cells m,h1,h2,?_,?_,k,rfl,hm,fun h=>if_pos h,fun h=>if_neg h⟩
  · split
    · rename_i h;simp[h]
    · rw[Az,hzc]
  · intro i x j cc hx hj;have hi:i<m:=by simpa using (qLa.1 hx).1
    rw[List.getElem?_replicate,if_pos hi]at hx;cases hx;have hj':=(qLa.1 hj).1;rw[eP hs]at hj';have hne:m*ks.length≠0:=by
     have h1:0<m:=by omega
     have h2:0<ks.length:=by omega
     exact Nat.ne_of_gt (Nat.mul_pos h1 h2)
    rw[if_neg hne];have:=Ij (n:=m) hzc hi hj';have e:Builtin.zeroCells v.cells m=(Array.range (m*ks.length)).map (v.cells[·%v.cells.size]!):=by simp[Builtin.zeroCells,hzc]
    rw[e,this];exact z4 _ _ j cc (by rw[← z1];exact hj)
theorem ZP (ok : dZ P T) (r : Rel w0 Pr M0 M β st a w) {h' : Nat → Option cu} (hsub : ∀ s b,h' s = some b → look st.heap s = some b) {ts : Array TypeId} {ty t t2 : TypeId} {x y : AV} {c cy : Value}
    (h0:ts[0]?=some t) (h1:ts[1]?=some t2) (hx:AR w M β (look st.heap) x c) (hy:AR w M β (look st.heap) y cy) :
    dF P w0 Pr M0 β st a w d (Jr T h' d t t2 x y) (do pure (.value (← Builtin.append_ ts ty #[c,cy]))):=by
  unfold Jr;split
  · rename_i dd e hu;have hu:=ok.und hu;split
    · rename_i z n Ea hz hn hby
      obtain⟨i,v,g1,g2,g3⟩:=ok.zero hz;obtain⟨i',q1,q2⟩:=ok.size hn;rw[g1]at q1;cases q1;obtain⟨i',q1,q3⟩:=ok.bytes hby
      rw[g1]at q1;cases q1;refine dF.chk fun hb=>?_;simp only[qBa,beq_iff_eq]at hb;obtain⟨b1,b2,b3⟩:=hb;have b3:=Nat.le_of_ble_eq_true b3;subst b1;have hzc:=Aw g3 b2;split
      · rename_i k0 hu2;have hu2:=ok.und hu2;split
        · rename_i k m;rw[hy.Au];refine dF.chk fun hm=>?_;simp only[qBa,qDa]at hm;have e1:(m.toNat:Int)=m:=by omega
          rw[show Value.int k m=Value.int k (m.toNat:Int) from by rw[e1]];exact abg (sa:=(bY T e).1) (ks:=(bY T e).2) ok r hsub h0 h1 hu g1 g2 q2 (by omega) hzc hx (fun _=>Gt.abh hu2 rfl (by omega) g3 b2) (fun _=>Gt.abh hu2 rfl (by omega) g3 b2)
        · exact dF.fail
      · rename_i d2 hne hu2;have hu2:=ok.und hu2;have hni:Gs d2=false:=by cases d2<;>first | rfl | (exact absurd rfl (hne _))
        split
        · rename_i s2 m ys hsrc;exact abg (sa:=(bY T e).1) (ks:=(bY T e).2) ok r hsub h0 h1 hu g1 g2 q2 (by omega) hzc hx (fun hs=>Gt.aez hu2 hni (Gq r hsub hy hsrc hs)) (fun hs=>Gt.aez hu2 hni (Gq r.drew hsub hy.drew hsrc hs))
        · exact dF.fail
      · exact dF.fail
    · exact dF.fail
  · exact dF.fail
theorem acG (st:St) (d:Option Nat) (v:AV) (s:Nat) (b:cu):st.apply d { val:=v,qI:=[(s,b)] }={ env:=Skm.setEnv st.env d v,heap:=put st.heap s b }:=rfl
theorem zq {t : TypeId} {i : TypeInfo} {b o : Nat} {c : Value} {C : Array Value} {e : TypeId} {fr : Nat × Nat} (hi : P.info? t = some i) (hsz : c.cells.size = i.size) (hw : w.heap[b]? = some (.cells C e fr)) (ho : Open C fr)
    (hl:o+c.cells.size≤C.size) (h1:∀ u∈c.cells.toList,u.oneCell'=true):(Instr.storeAt t (.pointer (some ⟨b,o,none⟩)) c).run P w=.ok () (iU w b (jk C o c.cells.toList) e fr):=by
  have:=qK (P:=P) (b:=b) (o:=o) c.cells.toList 0 w C hw ho (by simpa using hl) h1;simp only[Instr.storeAt,Instr.sureAddr,Sem.run_bind,Sem.run_pure,qRa,storeVar,iF hi];rw[if_neg (by simpa using hsz)];simpa using this
theorem cells_one {cs:Array Value} (h:∀ (j:Nat),j<cs.size→(cs.getD j undef).oneCell'=true):∀ u∈cs.toList,u.oneCell'=true:=by
 intro u hu;obtain⟨j,hj⟩:=List.mem_iff_getElem?.1 hu;have hlt:=(qLa.1 hj).1;have h1:=h j (by simpa using hlt);have e:cs.getD j undef=u:=by
  have:cs[j]?=some u:=by simpa using hj
  simp[this]
 rwa[e]at h1
theorem Rel.af5 (r : Rel w0 Pr M0 M β st a w) {ss : List Nat} (hf : jq ss = true) (hlive : ∀ s ∈ ss,(look st.heap s).isSome = true) {s b o idx off n : Nat} {sa : Bool} {ks : List Kd} {xs : List PV} {C : Array Value} {e : TypeId} {fr : Nat × Nat} {x x' : PV} {cs : List Value} {d : Option Nat}
    (hs:s ∉ ss) (hl:look st.heap s=some (.arr sa ks xs)) (tX:β s=some (b,o)) (hw:w.heap[b]?=some (.cells C e fr)) (hn:o+xs.length*ks.length≤C.size) (ho:Open C fr) (hsh:∀ x∈xs,bZ sa ks x=true)
    (hc:∀ (i:Nat) (x:PV) (j:Nat) (c:PV),xs[i]?=some x→x.cells[j]?=some c→VR w M c (C.getD (o+i*ks.length+j) undef)) (hi:idx<xs.length) (hcl:cs.length=n) (hoff:off+n≤ks.length)
    (hx':bZ sa ks x'=true) (hcv:∀ (j:Nat) (y:PV),x.cells[j]?=some y→VR w (dR M β ss) y (cs.getD j undef)) (hxl:x.cells.length=n)
    (hcell:∀ (j:Nat) (c:PV),x'.cells[j]?=some c→(off≤j∧j<off+n∧x.cells[j-off]?=some c)∨((j<off∨off+n≤j)∧∃ c0,(xs.getD idx .nil).cells[j]?=some c0∧∀ v,VR w M c0 v→VR w M c v)) :
    Rel w0 Pr M0 (dR M β ss) β (st.apply d { val:=.undef,qI:=[(s,.arr sa ks (xs.set idx x'))],Ed:=ss }) (a.put d undef) (iU w b (jk C (o+idx*ks.length+off) cs) e fr):=by
  have r1:=r.freeze [] ss hf hlive;have hl1:look (st.strike ([]++ss)).heap s=some (.arr sa ks xs):=by rw[fQ,if_neg (by simpa using hs),hl];rfl
  have hrow:(idx+1)*ks.length≤xs.length*ks.length:=Nat.mul_le_mul_right _ hi;rw[Nat.add_mul]at hrow;have hroom:o+idx*ks.length+off+cs.length≤C.size:=by omega
  have rw1:=r1.write (s:=s) (b:=b) (o:=o) (blk:=.arr sa ks xs) (blk':=.arr sa ks (xs.set idx x')) (C:=C) (C':=jk C (o+idx*ks.length+off) cs) (e:=e) (fr:=fr) (w':=iU w b (jk C (o+idx*ks.length+off) cs) e fr) hl1
   (by simp[Like]) tX hw rfl (iC hroom) rfl rfl rfl (fun _ hk2 hself=>by
     refine .arr sa ks _ b o _ e fr tX hself (by rw[iC hroom,List.length_set];exact hn) (ho.size (iC hroom)) ?_ ?_
     · intro y hy;rcases List.mem_or_eq_of_mem_set hy with hy | rfl
       · exact hsh y hy
       · exact hx'
     · intro i y j c hy hj;rw[uo hroom];by_cases hin:i=idx
       · subst hin;rw[List.getElem?_set_self hi]at hy;cases hy;rcases hcell j c hj with ⟨q1,q2,q3⟩ | ⟨q1,c0,q2,q3⟩
         · rw[if_pos (by omega)];have e1:o+i*ks.length+j-(o+i*ks.length+off)=j-off:=by omega
           rw[e1];exact hk2 _ _ (hcv _ _ q3)
         · rw[if_neg (by omega)];have hget:xs[i]?=some (xs.getD i .nil):=by simp[hi]
           exact hk2 _ _ ((q3 _ (hc i _ j c0 hget q2)).plus ss)
       · rw[List.getElem?_set_ne (fun e=>hin e.symm)]at hy;have hj':j<ks.length:=by have:=eP (hsh y (qLe hy));have:=(qLa.1 hj).1;omega
         rw[if_neg ?_]
         · exact hk2 _ _ ((hc i y j c hy hj).plus ss)
         · rcases Nat.lt_or_gt_of_ne hin with hlt | hgt
           · have:(i+1)*ks.length≤idx*ks.length:=Nat.mul_le_mul_right _ hlt;rw[Nat.add_mul]at this;omega
           · have:(idx+1)*ks.length≤i*ks.length:=Nat.mul_le_mul_right _ hgt;rw[Nat.add_mul]at this;omega)
  exact rw1.setEnv d (v:=.undef) (c:=undef) (.undef _)
theorem acH (ok : dZ P T) (r : Rel w0 Pr M0 M β st a w) {h' : Nat → Option cu} (hsub : ∀ s b,h' s = some b → look st.heap s = some b) {t : TypeId} {p v : AV} {cp cv : Value}
    (hp:AR w M β (look st.heap) p cp) (hv:AR w M β (look st.heap) v cv):dF P w0 Pr M0 β st a w d (MK T h' t p v) (do Instr.storeAt t cp cv;pure .skip):=by
  unfold MK;split
  · exact dF.fail
  · rename_i n hn;obtain⟨i,hi,hsz⟩:=ok.size hn;refine dF.chk fun hlen=>?_;simp only[beq_iff_eq]at hlen;split
    · rename_i s idx off;split
      · rename_i cs hl0;have hl:=hsub _ _ hl0;refine dF.chk fun hb=>?_;simp only[qBa]at hb;obtain⟨hb1,hb2,hb3⟩:=hb;have hb3:=Nat.le_of_ble_eq_true hb3;obtain⟨g1,g2⟩:=hv.cells hb1;cases hp with
        | ptrA _ _ _ a' ks xs b o p1 p2 p3=>rw[hl]at p1;cases p1
        | ptrB _ _ cs' b o p1 p2 =>
         cases r.heap s _ hl with
         | box _ b' o' C e fr k1 k2 k3 k4 k5 k6 =>
          rw[p2]at k1;cases k1;have hone:=cells_one (cs:=cv.cells) fun j hj=>(g2 j _ (qLd (by omega))).2.2;have hrun:=zq (P:=P) (o:=o+off) hi (by omega) k2 k4 (by omega) hone;refine dF.ret (h5:=fun _=>tY (.inr ⟨_,hl,by simp only[Like];rw[jW _ _ _ (by omega)]⟩)) (nv:=.skip) (c:=undef) (M':=M) (β':=β) (by simp only[Sem.run_bind,hrun,qRa,Sem.run_pure];rfl) (.inr ⟨rfl,rfl⟩) fun _=>?_;rw[acG];have hroom:o+off+cv.cells.toList.length≤C.size:=by simp;omega
          have hpl:off+v.cells.length≤cs.length:=by omega
          have rw1:=r.write (s:=s) (b:=b) (o:=o) (blk:=.box cs) (blk':=.box (patch cs off v.cells)) (C:=C) (C':=jk C (o+off) cv.cells.toList) (e:=e) (fr:=fr) (w':=iU w b (jk C (o+off) cv.cells.toList) e fr) hl
           (by simp[Like,jW _ _ _ hpl]) p2 k2 rfl (iC hroom) rfl rfl rfl (fun hk hk2 hself=>by
             refine .box _ b o _ e fr p2 hself (by rw[iC hroom,jW _ _ _ hpl];exact k3) (k4.size (iC hroom)) ?_ ?_
             · intro c hc;obtain⟨j,hj⟩:=List.mem_iff_getElem?.1 hc;rw[uQ _ _ _ hpl]at hj;split at hj
               · exact(g2 _ c hj).2.1
               · exact k5 c (qLe hj)
             · intro j c hj;rw[uQ _ _ _ hpl]at hj;rw[uo hroom];simp only[Array.length_toList,g1];by_cases hin:off≤j∧j<off+v.cells.length
               · rw[if_pos hin]at hj;rw[if_pos (by omega)];have e1:o+j-(o+off)=j-off:=by omega
                 rw[e1];have:=hk _ _ (g2 _ c hj).1;simpa using this
               · rw[if_neg hin]at hj;rw[if_neg (by omega)];exact hk _ _ (k6 j c hj))
          have:=rw1.setEnv d (v:=.undef) (c:=undef) (.undef _);exact this
      · rename_i a' ks xs hl0;have hl:=hsub _ _ hl0;split
        · rename_i x ss hd;obtain⟨d1,d2⟩:=Ii (fun s b h=>r.heap s b (hsub s b h)) hsub hd hv;cases hp with
          | ptrB _ _ cs' b o p1 p2=>rw[hl]at p1;cases p1
          | ptrA _ _ _ a1 ks1 xs1 b o p1 p2 p3 =>
           rw[hl]at p1;cases p1;cases r.heap s _ hl with
           | jS=>simp at p2
           | arr _ _ _ b' o' C e fr k1 k2 k3 k4 k5 k6 =>
            rw[p3]at k1;cases k1;have hget:xs[idx]?=some (xs.getD idx .nil):=by simp[p2]
            have hshape:=k5 _ (qLe hget);have hrow:(idx+1)*ks.length≤xs.length*ks.length:=Nat.mul_le_mul_right _ p2;rw[Nat.add_mul]at hrow;have hcs:∀ (hx:∀ c∈x.cells,c.leaf=true),cv.cells.size=x.cells.length∧∀ (j:Nat) (y:PV),x.cells[j]?=some y→VR w (dR M β ss) y (cv.cells.getD j undef):=by
             intro hx;cases x with
             | agg cs =>
              cases d1 with
              | agg _ vs hn hl2 hc2=>exact⟨by simpa [Value.cells,PV.cells] using hn,fun j y hj=>hc2 j y hj⟩
             | _ =>
              have e:=d1.Js rfl;refine⟨by rw[e];rfl,fun j y hj=>?_⟩;rw[e];cases j with
              | zero=>simp[PV.cells]at hj;subst hj;simpa using d1
              | succ j=>simp[PV.cells]at hj
            have fin : ∀ (x' : PV),(∀ c ∈ x.cells,c.leaf = true) → x.cells.length = n → off + n ≤ ks.length → s ∉ ss → bZ a' ks x' = true →
                (∀ (j:Nat) (c:PV),x'.cells[j]?=some c→(off≤j∧j<off+n∧x.cells[j-off]?=some c)∨((j<off∨off+n≤j)∧∃ c0,(xs.getD idx .nil).cells[j]?=some c0∧∀ v,VR w M c0 v→VR w M c v)) →
                dF P w0 Pr M0 β st a w d (.ret { val:=.undef,qI:=[(s,.arr a' ks (xs.set idx x'))],Ed:=ss }) (do Instr.storeAt t (.pointer (some ⟨b,o+idx*ks.length+off,none⟩)) cv;pure .skip):=by
              intro x' hlf hxl hoff hns hx' hcell;obtain⟨c1,c2⟩:=hcs hlf;have hone:=cells_one (cs:=cv.cells) fun j hj=>by have hj':x.cells[j]?=some (x.cells[j]'(by omega)):=qLd _;exact(c2 j _ hj').one (hlf _ (qLe hj'))
              have hrun:=zq (P:=P) (o:=o+idx*ks.length+off) hi (by omega) k2 k4 (by omega) hone;exact dF.ret (h5:=fun _=>tY (.inr ⟨_,hl,by simp[Like]⟩)) (nv:=.skip) (c:=undef) (w':=iU w b (jk C (o+idx*ks.length+off) cv.cells.toList) e fr) (by simp only[Sem.run_bind,hrun,qRa,Sem.run_pure]) (.inr ⟨rfl,rfl⟩) fun hf =>r.af5 hf d2 hns hl p3 k2 k3 k4 k5 k6 p2 (cs:=cv.cells.toList) (by simp;omega) hoff hx' (fun j y hj=>by simpa using c2 j y hj) hxl hcell
            cases a' with
            | true =>
             refine dF.chk fun hb=>?_;simp only[qBa,qBb]at hb;obtain⟨hb1,hb2,hb3⟩:=hb;have hb2:=Nat.le_of_ble_eq_true hb2;rw[gG]at hb3;obtain⟨m1,m2⟩:=lK hb1;have hxl:x.cells.length=n:=by rw[← m1];simp;omega
             have hlf:∀ c∈x.cells,c.leaf=true:=by intro c hc;obtain⟨j,hj⟩:=List.mem_iff_getElem?.1 hc;have hjn:=(qLa.1 hj).1;have hk:((ks.drop off).take n)[j]?=some (((ks.drop off).take n)[j]'(by omega)):=qLd _;exact jH (m2 j _ c hk hj)
             have hel:(jB ks (xs.getD idx .nil) 0).length=ks.length:=by
              have:∀ (l:List Kd) (y:PV) (o:Nat),(jB l y o).length=l.length:=by
               intro l;induction l with
               | nil=>intros;rfl
               | cons k r ih=>intro y o;simp[jB,ih]
              exact this _ _ _
             have hpl:off+x.cells.length≤(jB ks (xs.getD idx .nil) 0).length:=by omega
             have cell : ∀ (j : Nat) (c : PV),(patch (jB ks (xs.getD idx .nil) 0) off x.cells)[j]? = some c → (off ≤ j ∧ j < off + n ∧ x.cells[j - off]? = some c) ∨
                 ((j<off∨off+n≤j)∧∃ k c0,ks[j]?=some k∧(xs.getD idx .nil).cells[j]?=some c0∧kindOk k c0=true∧c=eta k c0):=by
               intro j c hj;rw[uQ _ _ _ hpl]at hj;by_cases hin:off≤j∧j<off+x.cells.length
               · rw[if_pos hin]at hj;exact .inl ⟨hin.1,by omega,hj⟩
               · rw[if_neg hin,yw]at hj;cases hk:ks[j]? with
                 | none=>rw[hk]at hj;simp at hj
                 | some k =>rw[hk]at hj;simp only[Option.map_some,Nat.zero_add,qOa]at hj;obtain⟨c0,q1,q2,q3⟩:=rM hshape hk;exact .inr ⟨by omega,k,c0,rfl,q1,q2,by rw[← hj,q3]⟩
             refine fin _ hlf hxl hb2 hb3 ?_ ?_
             · -- the shape of the new element
               have ara:=jW _ _ _ hpl;have key:∀ (l:List Kd) (vs:List PV),l.length=vs.length→(∀ (j:Nat) (k:Kd) (v:PV),l[j]?=some k→vs[j]?=some v→kindOk k v=true)→gQ l vs=true:=by
                intro l;induction l with
                | nil => intro vs h _; have : vs = [] := by simpa using h.symm
                         subst this;rfl
                | cons k l ih =>
                 intro vs h h2;cases vs with
                 | nil=>simp at h
                 | cons v vs =>simp only[gQ,qBa];exact⟨h2 0 k v (by simp) (by simp),ih vs (by simpa using h) fun j k v hk hv=>h2 (j+1) k v (by simpa using hk) (by simpa using hv)⟩
               show gQ ks (patch (jB ks (xs.getD idx .nil) 0) off x.cells)=true;refine key _ _ (by omega) fun j k v hk hv=>?_;rcases cell j v hv with ⟨q1,q2,q3⟩ | ⟨q1,k',c0,q2,q3,q4,rfl⟩
               · have : ((ks.drop off).take n)[j - off]? = some k := by rw[List.getElem?_take,if_pos (by omega),List.getElem?_drop];rw[show off+(j-off)=j from by omega];exact hk
                 exact m2 _ _ _ this q3
               · rw[hk]at q2;cases q2;exact ael q4
             · intro j c hj;rcases cell j c hj with h | ⟨q1,k',c0,q2,q3,q4,rfl⟩
               · exact .inl h
               · exact .inr ⟨q1,c0,q3,fun v hv=>EK q4 hv⟩
            | false =>
             refine dF.chk fun hb=>?_;simp only[qBa,qBb]at hb;obtain⟨hb1,hb2,hb3,hb4⟩:=hb;have hb2:=Nat.eq_of_beq_eq_true hb2;have hb3:=Nat.eq_of_beq_eq_true hb3;rw[gG]at hb4;have hsl:=eP hb1;have hk1:ks.length=1∧x.leaf=true:=by
              match ks,hb1 with
              | [k],h=>exact⟨rfl,jH (by simpa [bZ] using h)⟩
             have hxc:x.cells=[x]:=by have:=hk1.2;cases x<;>first | rfl | simp[PV.leaf]at this
             refine fin x (by rw[hxc];simpa using hk1.2) (by rw[hxc,hb3];rfl) (by omega) hb4 hb1 ?_;intro j c hj;have:=(qLa.1 hj).1;have hj0:j=0:=by rw[hxc]at this;simpa using this
             subst hj0;refine .inl ⟨by omega,by omega,?_⟩;simpa [hb2] using hj
        · exact dF.fail
      · exact dF.fail
    · rename_i k b0;split
      · rename_i j a0;refine dF.chk fun hb=>?_;simp only[qBa,beq_iff_eq,qDa]at hb;obtain⟨rfl,rfl⟩:=hb;have hn1:n=1:=by simpa [AV.cells,PV.cells] using hlen.symm
        cases hp with
        | p _ _ hp=>cases hp with
        | ref _ b o f hM hl hc hvv ho =>
         cases hv with
         | p _ _ hv =>
          cases hv;obtain⟨C,e,fr,h1,h2,h3⟩:=ho.get;have h2:o+1≤C.size:=h2;have hlt:o<C.size:=h2;have h0:=hvv 0 _ rfl;have hc0:=hc 0 _ rfl;simp only[Nat.add_zero]at hc0;have e0:f 0=.int j a0:=by generalize f 0=y at h0;cases h0;rfl
          have hval:C[o]=.int j a0:=by have:=zC (b:=b) (i:=o) h1 (by omega);rw[hc0,e0]at this;simpa [qAb,qAd hlt] using this.symm
          have hrun:=zq (P:=P) (o:=o) (c:=.int j a0) hi (by rw[hsz,hn1];rfl) h1 h3 (show o+1≤C.size from h2) (fun u hu=>by simp[Value.cells]at hu;rw[hu];rfl);have hw:iU w b (jk C o (Value.int j a0).cells.toList) e fr=w:=by
           have e1:jk C o (Value.int j a0).cells.toList=C:=by
            apply Array.ext
            · rw[iC (by simp[Value.cells];omega)]
            · intro i h4 h5;have:=uo (C:=C) (k:=o) (vs:=(Value.int j a0).cells.toList) (by simp[Value.cells];omega) i;rw[qAb,qAd h4,Option.getD_some]at this;rw[this];by_cases hi':o≤i∧i<o+(Value.int j a0).cells.toList.length
              · rw[if_pos hi'];have:i=o:=by have h:=hi'.2;simp[Value.cells]at h;omega
                subst this;rw[hval];simp[Value.cells]
              · rw[if_neg hi',qAb,qAd h5];rfl
           rw[e1,iU];have:w.heap.setIfInBounds b (Obj.cells C e fr)=w.heap:=by
            apply Array.ext
            · simp
            · intro i h4 h5;by_cases hi':b=i
              · subst hi';rw[qAd h5]at h1;simpa using (Option.some.inj h1).symm
              · rw[Array.getElem_setIfInBounds_ne h5 hi']
           rw[this]
          rw[hw]at hrun;refine dF.ret (w':=w) (h5:=fun _=>KT) (nv:=.skip) (c:=undef) (M':=M) (β':=β) (by simp only[Sem.run_bind,hrun,qRa,Sem.run_pure]) (.inr ⟨rfl,rfl⟩) fun _=>?_;exact r.setEnv d (v:=.undef) (c:=undef) (.undef _)
      · exact dF.fail
    · exact dF.fail
end
end Go.Skm
namespace Go.Skm
section
variable {P:Program} {T:Tab} {w0:Base} {Pr M0 M:Nat→Prop} {β:Nat→Option (Nat × Nat)} {st:St} {a:Act} {w:World} {d:Option Nat}
theorem Rel.Q8 (r : Rel w0 Pr M0 M β st a w) {s b o off : Nat} {sa : Bool} {ks : List Kd} {xs ys : List PV} {C : Array Value} {e : TypeId} {fr : Nat × Nat} {cs : List Value} {v : AV} {c : Value} {d : Option Nat}
    (hl:look st.heap s=some (.arr sa ks xs)) (tX:β s=some (b,o)) (hw:w.heap[b]?=some (.cells C e fr)) (hn:o+xs.length*ks.length≤C.size) (ho:Open C fr) (hsh:∀ x∈xs,bZ sa ks x=true)
    (hc:∀ (i:Nat) (x:PV) (j:Nat) (c:PV),xs[i]?=some x→x.cells[j]?=some c→VR w M c (C.getD (o+i*ks.length+j) undef)) (hoff:off+ys.length≤xs.length) (hcl:cs.length=ys.length*ks.length)
    (hy:∀ y∈ys,bZ sa ks y=true) (hcv:∀ (i:Nat) (y:PV) (j:Nat) (c:PV),ys[i]?=some y→y.cells[j]?=some c→VR w M c (cs.getD (i*ks.length+j) undef)) (hv:∀ w' h',AR w' M β h' v c) :
    Rel w0 Pr M0 M β (st.apply d { val:=v,qI:=[(s,.arr sa ks (patch xs off ys))] }) (a.put d c) (iU w b (jk C (o+off*ks.length) cs) e fr):=by
  have hrow:(off+ys.length)*ks.length≤xs.length*ks.length:=Nat.mul_le_mul_right _ hoff;rw[Nat.add_mul]at hrow;have hroom:o+off*ks.length+cs.length≤C.size:=by omega
  have rw1:=r.write (s:=s) (b:=b) (o:=o) (blk:=.arr sa ks xs) (blk':=.arr sa ks (patch xs off ys)) (C:=C) (C':=jk C (o+off*ks.length) cs) (e:=e) (fr:=fr) (w':=iU w b (jk C (o+off*ks.length) cs) e fr) hl
   (by simp[Like,jW _ _ _ hoff]) tX hw rfl (iC hroom) rfl rfl rfl (fun _ hk2 hself=>by
     refine .arr sa ks _ b o _ e fr tX hself (by rw[iC hroom,jW _ _ _ hoff];exact hn) (ho.size (iC hroom)) ?_ ?_
     · intro y hy';obtain⟨j,hj⟩:=List.mem_iff_getElem?.1 hy';rw[uQ _ _ _ hoff]at hj;split at hj
       · exact hy y (qLe hj)
       · exact hsh y (qLe hj)
     · intro i y j c hyi hj;rw[uQ _ _ _ hoff]at hyi;rw[uo hroom];by_cases hin:off≤i∧i<off+ys.length
       · rw[if_pos hin]at hyi;have hj':j<ks.length:=by have:=eP (hy y (qLe hyi));have:=(qLa.1 hj).1;omega
         have e0:i*ks.length=off*ks.length+(i-off)*ks.length:=by rw[← Nat.add_mul];congr 1;omega
         have h1:(i-off+1)*ks.length≤ys.length*ks.length:=Nat.mul_le_mul_right _ (by omega);rw[Nat.add_mul]at h1;rw[if_pos (by omega)];have e1:o+i*ks.length+j-(o+off*ks.length)=(i-off)*ks.length+j:=by omega
         rw[e1];exact hk2 _ _ (hcv _ y j c hyi hj)
       · rw[if_neg hin]at hyi;have hj':j<ks.length:=by have:=eP (hsh y (qLe hyi));have:=(qLa.1 hj).1;omega
         rw[if_neg ?_]
         · exact hk2 _ _ (hc i y j c hyi hj)
         · by_cases hlt:i<off
           · have:(i+1)*ks.length≤off*ks.length:=Nat.mul_le_mul_right _ hlt;rw[Nat.add_mul]at this;omega
           · have:(off+ys.length)*ks.length≤i*ks.length:=Nat.mul_le_mul_right _ (by omega);rw[Nat.add_mul]at this;omega)
  exact rw1.setEnv d (v:=v) (c:=c) (hv _ _)
theorem zS {xs:List PV} {off:Nat}:patch xs off []=xs:=by simp[patch]
theorem Rel.V9 (r : Rel w0 Pr M0 M β st a w) {s : Nat} {blk : cu} {v : AV} {c : Value} {d : Option Nat} (hl : look st.heap s = some blk) (hv : ∀ w' h',AR w' M β h' v c) :
    Rel w0 Pr M0 M β (st.apply d { val:=v,qI:=[(s,blk)] }) (a.put d c) w:=by
  have:=(r.setEnv d (v:=v) (c:=c) (hv _ _)).congr (hp:=put st.heap s blk) (fun x=>by
   rw[dS];by_cases h:x=s
   · subst h;rw[if_pos rfl,hl]
   · rw[if_neg h])
  exact this
theorem Ye {sa : Bool} {ks : List Kd} {ys : List PV} {C : Array Value} (h0 : ∀ y ∈ ys,bZ sa ks y = true) (h1 : C.size = ys.length * ks.length)
    (h2:∀ (i:Nat) (x:PV) (j:Nat) (cc:PV),ys[i]?=some x→x.cells[j]?=some cc→VR w M cc (C.getD (i*ks.length+j) undef)):∀ u∈C.toList,u.oneCell'=true:=by
  intro u hu;obtain⟨q,hq⟩:=List.mem_iff_getElem?.1 hu;have hlt:q<ys.length*ks.length:=by have:=(qLa.1 hq).1;simpa [h1] using this
  have hk:0<ks.length:=Nat.pos_of_ne_zero fun e=>by rw[e]at hlt;simp at hlt
  have g1:q / ks.length<ys.length:=(Nat.div_lt_iff_lt_mul hk).2 hlt;have g2:q%ks.length<ks.length:=Nat.mod_lt _ hk;have hx:ys[q / ks.length]?=some (ys[q / ks.length]'g1):=qLd _;have hs:=h0 _ (qLe hx);have hkd:ks[q%ks.length]?=some ks[q%ks.length]:=qLd g2;obtain⟨cc,p1,p2,_⟩:=rM hs hkd;have:=h2 _ _ _ _ hx p1;have e:q / ks.length*ks.length+q%ks.length=q:=by rw[Nat.mul_comm];exact Nat.div_add_mod q ks.length
  rw[e]at this;have e2:C.getD q undef=u:=by
   have:C[q]?=some u:=by simpa using hq
   simp[this]
  rw[e2]at this;exact this.one (jH p2)
theorem aeA (ok : dZ P T) (r : Rel w0 Pr M0 M β st a w) {h' : Nat → Option cu} (hsub : ∀ s b,h' s = some b → look st.heap s = some b) {ts : Array TypeId} {ty t : TypeId} {x y : AV} {c cy : Value}
    (h0:ts[0]?=some t) (hx:AR w M β (look st.heap) x c) (hy:AR w M β (look st.heap) y cy) :
    dF P w0 Pr M0 β st a w d (Qx T h' t x y) (do pure (.value (← Builtin.copy_ ts ty #[c,cy]))):=by
  unfold Qx;split
  · rename_i e hu;have hu:=ok.und hu;split
    · rename_i s z off len n hn;obtain⟨i,hi,hsz⟩:=ok.size hn;split
      · rename_i sa ks xs s2 m ys hl0 hsrc;have hl:=hsub _ _ hl0;refine dF.chk fun hb=>?_;simp only[qBa,beq_iff_eq]at hb;obtain⟨hb1,hb2⟩:=hb;subst hb2;obtain⟨q1,q2,q3,q4⟩:=Gq (P:=P) r hsub hy hsrc hb1;have hmin:Nat.min m len≤m:=Nat.min_le_left _ _;obtain⟨C0,p1,p2,p3⟩:=q4 (Nat.min m len) hmin;have run:∀ (base:Option Addr) (cap:Nat) (w1:World),ZN P base 0 C0 w w1→(Builtin.copy_ ts ty #[.slice base len cap,cy]).run P w=.ok (goInt (Nat.min m len:Nat)) w1:=by
         intro base cap w1 hst;unfold Builtin.copy_;simp only[h0,show (#[Value.slice base len cap,cy]:Array Value)[0]?=some (.slice base len cap) from rfl,show (#[Value.slice base len cap,cy]:Array Value)[1]?=some cy from rfl];simp only[Sem.run_bind,dV hu,qRa,q1,iF hi,hsz,p1];cases base with
         | none=>simp only[ZN]at hst;subst hst;rfl
         | some ad =>
          simp only[ZN]at hst;have e:ad.add 0=ad:=by simp[Addr.add]
          rw[e]at hst;simp only[Sem.run_bind,hst,qRa];rfl
        have hval:∀ w' h',AR w' M β h' (.p (.int .i64 (Nat.min m len:Nat))) (goInt (Nat.min m len:Nat)):=fun _ _=>.int _ _;have hyl:(ys.take (Nat.min m len)).length=Nat.min m len:=by rw[List.length_take,q2];exact Nat.min_eq_left hmin
        cases hx with
        | sliceE _ _ a1 ks1 xs1 base g1 g2 =>
         have hm0:Nat.min m 0=0:=Nat.min_zero m;have hC0:C0.toList=[]:=by
          have:C0.size=0:=by rw[p2,hm0];simp
          simpa using this
         have hrun:=run base 0 w (by
          cases base with
          | none=>rfl
          | some ad=>simp only[ZN,hC0];rfl)
         refine dF.ret (h5:=fun _=>tY (.inr ⟨_,hl,by simp only[Like,hm0,List.take_zero,zS];exact⟨trivial,trivial,Nat.le_refl _⟩⟩)) (nv:=.value (goInt (Nat.min m 0:Nat))) (M':=M) (β':=β) (by simp only[Sem.run_bind,hrun,qRa,Sem.run_pure];rfl) (.inl rfl) fun _=>?_;rw[hm0,List.take_zero,zS];rw[hm0]at hval;exact r.V9 hl hval
        | slice _ _ _ a1 ks1 xs1 b o cap g1 g2 g3 g4 g5 =>
         rw[hl]at g1;cases g1;have hle:Nat.min m len≤len:=Nat.min_le_right _ _;cases r.heap s _ hl with
         | jS =>
          have hz0:len=0:=by simp at g2;omega
          subst hz0;have hm0:Nat.min m 0=0:=Nat.min_zero m;have hC0:C0.toList=[]:=by
           have:C0.size=0:=by rw[p2,hm0];simp
           simpa using this
          have hrun:=run (some ⟨b,o+off*ks.length,none⟩) cap w (by simp only[ZN,hC0];rfl);refine dF.ret (h5:=fun _=>tY (.inr ⟨_,hl,by simp only[Like,hm0,List.take_zero,zS];exact⟨trivial,trivial,Nat.le_refl _⟩⟩)) (nv:=.value (goInt (Nat.min m 0:Nat))) (M':=M) (β':=β) (by simp only[Sem.run_bind,hrun,qRa,Sem.run_pure];rfl) (.inl rfl) fun _=>?_;rw[hm0,List.take_zero,zS];rw[hm0]at hval;exact r.V9 hl hval
         | arr _ _ _ b' o' C e' fr k1 k2 k3 k4 k5 k6 =>
          rw[g3]at k1;cases k1;have hsh:∀ y∈ys.take (Nat.min m len),bZ sa ks y=true:=fun y hy=>q3 y (List.mem_of_mem_take hy);have hcv:∀ (i:Nat) (y:PV) (j:Nat) (c:PV),(ys.take (Nat.min m len))[i]?=some y→y.cells[j]?=some c→VR w M c (C0.getD (i*ks.length+j) undef):=by
           intro i y j c hyi hj;rw[List.getElem?_take]at hyi;split at hyi
           · exact p3 i y j c (by assumption) hyi hj
           · cases hyi
          have hone:=Ye hsh (by rw[hyl];exact p2) hcv;have hrow:(off+Nat.min m len)*ks.length≤xs.length*ks.length:=Nat.mul_le_mul_right _ (by omega);rw[Nat.add_mul]at hrow;have hst:=qK (P:=P) (b:=b) (o:=o+off*ks.length) (e:=e') (fr:=fr) C0.toList 0 w C k2 k4 (by simp only[Array.length_toList,p2];omega) hone;have hrun:=run (some ⟨b,o+off*ks.length,none⟩) cap _ (by simp only[ZN,addr_add,Nat.add_zero];exact hst);refine dF.ret (h5:=fun _=>tY (.inr ⟨_,hl,by simp only[Like];rw[jW _ _ _ (by rw[hyl];omega)];exact⟨trivial,trivial,Nat.le_refl _⟩⟩)) (nv:=.value (goInt (Nat.min m len:Nat))) (M':=M) (β':=β) (by simp only[Sem.run_bind,hrun,qRa,Sem.run_pure];rfl) (.inl rfl) fun _=>?_;rw[Nat.add_zero];exact r.Q8 hl g3 k2 k3 k4 k5 k6 (by rw[hyl];omega) (by rw[hyl];simpa using p2) hsh (fun i y j c h1 h2=>by simpa using hcv i y j c h1 h2) hval
      · exact dF.fail
    · exact dF.fail
  · exact dF.fail
theorem acI (ok : dZ P T) (r : Rel w0 Pr M0 M β st a w) {h' : Nat → Option cu} (hsub : ∀ s b,h' s = some b → look st.heap s = some b) {ts : Array TypeId} {ty t : TypeId} {x : AV} {c : Value}
    (h0:ts[0]?=some t) (hx:AR w M β (look st.heap) x c) :
    dF P w0 Pr M0 β st a w d (MP T h' t x) (do pure (.value (← Builtin.clear_ ts ty #[c]))):=by
  unfold MP;split
  · rename_i e s z off len hu;have hu:=ok.und hu;split
    · rename_i sa ks xs zz hl0 hz;have hl:=hsub _ _ hl0;obtain⟨i,v,g1,g2,g3⟩:=ok.zero hz;refine dF.chk fun hb=>?_;have hzc:=Aw g3 hb;obtain⟨zc,z1,z2,z3,z4⟩:=zQ g3;have hval:∀ w' h',AR w' M β h' (.qY []) (.tuple #[]):=fun _ _=>.qY [] #[] rfl (fun i c h=>by simp at h)
      have run : ∀ (base : Option Addr) (cap : Nat) (w1 : World),(len = 0 → w1 = w) → (len ≠ 0 → ∃ ad,base = some ad ∧ (storeCells ad (Builtin.zeroCells v.cells len).toList).run P w = .ok () w1) →
          (Builtin.clear_ ts ty #[.slice base len cap]).run P w=.ok (.tuple #[]) w1:=by
        intro base cap w1 e1 e2;unfold Builtin.clear_;simp only[h0,show (#[Value.slice base len cap]:Array Value)[0]?=some (.slice base len cap) from rfl,Sem.run_bind,dV hu,qRa];by_cases hlen:len=0
        · subst hlen;rw[e1 rfl];cases base<;>simp
        · obtain⟨ad,rfl,hst⟩:=e2 hlen;obtain⟨k,rfl⟩:=Nat.exists_eq_succ_of_ne_zero hlen;simp only[Sem.run_bind,sS g1 g2,qRa,hst];rfl
      have nothing:len=0→∀ (base:Option Addr) (cap:Nat),c=.slice base len cap→dF P w0 Pr M0 β st a w d (.ret { val:=.qY [],qI:=[(s,.arr sa ks (patch xs off (List.replicate len zz)))] }) (do pure (.value (← Builtin.clear_ ts ty #[c]))):=by intro hlen base cap hc;subst hlen;subst hc;have hrun:=run base cap w (fun _=>rfl) (fun h=>absurd rfl h);refine dF.ret (h5:=fun _=>tY (.inr ⟨_,hl,by simp only[Like,List.replicate_zero,zS];exact⟨trivial,trivial,Nat.le_refl _⟩⟩)) (nv:=.value (.tuple #[])) (M':=M) (β':=β) (by simp only[Sem.run_bind,hrun,qRa,Sem.run_pure];rfl) (.inl rfl) fun _=>?_;rw[List.replicate_zero,zS];exact r.V9 hl hval
      cases hx with
      | sliceE _ _ a1 ks1 xs1 base p1 p2=>exact nothing rfl base 0 rfl
      | slice _ _ _ a1 ks1 xs1 b o cap p1 p2 p3 p4 p5 =>
       rw[hl]at p1;cases p1;by_cases hlen:len=0
       · exact nothing hlen _ cap rfl
       · cases r.heap s _ hl with
         | jS=>simp at p2;omega
         | arr _ _ _ b' o' C e' fr k1 k2 k3 k4 k5 k6 =>
          rw[p3]at k1;cases k1;have hsh:∀ y∈List.replicate len zz,bZ sa ks y=true:=fun y hy=>by simp at hy;rw[hy.2];exact hb
          have hcsz:(Builtin.zeroCells v.cells len).size=len*ks.length:=by rw[Az,hzc]
          have hcv:∀ (i:Nat) (y:PV) (j:Nat) (c:PV),(List.replicate len zz)[i]?=some y→y.cells[j]?=some c→VR w M c ((Builtin.zeroCells v.cells len).getD (i*ks.length+j) undef):=by
           intro i y j c hyi hj;have hi:i<len:=by simpa using (qLa.1 hyi).1
           rw[List.getElem?_replicate,if_pos hi]at hyi;cases hyi;have hj':=(qLa.1 hj).1;rw[eP hb]at hj';have:=Ij (n:=len) hzc hi hj';have e:Builtin.zeroCells v.cells len=(Array.range (len*ks.length)).map (v.cells[·%v.cells.size]!):=by simp[Builtin.zeroCells,hzc]
           rw[e,this];exact z4 _ _ j c (by rw[← z1];exact hj)
          have hone:=Ye hsh (by rw[hcsz];simp) hcv;have hrow:(off+len)*ks.length≤xs.length*ks.length:=Nat.mul_le_mul_right _ p2;rw[Nat.add_mul]at hrow;have hst:=qK (P:=P) (b:=b) (o:=o+off*ks.length) (e:=e') (fr:=fr) (Builtin.zeroCells v.cells len).toList 0 w C k2 k4 (by simp only[Array.length_toList,hcsz];omega) hone;have hrun:=run (some ⟨b,o+off*ks.length,none⟩) cap _ (fun h=>absurd h hlen) (fun _=>⟨_,rfl,hst⟩);refine dF.ret (h5:=fun _=>tY (.inr ⟨_,hl,by simp only[Like];rw[jW _ _ _ (by simpa using p2)];exact⟨trivial,trivial,Nat.le_refl _⟩⟩)) (nv:=.value (.tuple #[])) (M':=M) (β':=β) (by simp only[Sem.run_bind,hrun,qRa,Sem.run_pure];rfl) (.inl rfl) fun _=>?_;rw[Nat.add_zero];exact r.Q8 hl p3 k2 k3 k4 k5 k6 (by simpa using p2) (by simp only[Array.length_toList,hcsz,List.length_replicate]) hsh (fun i y j c h1 h2=>by simpa using hcv i y j c h1 h2) hval
    · exact dF.fail
  · exact dF.fail
end
end Go.Skm
namespace Go.Skm
section
variable {P:Program} {T:Tab} {w0:Base} {Pr M0 M:Nat→Prop} {β:Nat→Option (Nat × Nat)} {st:St} {a:Act} {w:World} {d:Option Nat}
theorem Wh {h : Nat → Option cu} {fn : Fn} {first caps : List AV} {cf cc : Array Value} (hf : mX w M β h first cf.toList) (hc : mX w M β h caps cc.toList) :
    aH P w M β h (EH fn first caps) (Instr.makeFunc fn cf cc):=by
  unfold EH;split
  · rename_i f;have e1:cf=#[]:=by have:=hf.1;simp at this;simpa using this.symm
    subst e1;split
    · rename_i vs hp;have e2:=yu hp;subst e2;refine aH.ret (c:=.func (.func f) #[] cc) (.p _ _ (.fn f vs cc (by have:=hc.1;simpa using this.symm) fun i c hi=>?_)) (by simp[Instr.makeFunc]);have hlt:i<cc.size:=by have:=hc.1;have h2:=(qLa.1 hi).1;simp at this;omega
      have:=hc.2 i (.p c) (cc.getD i undef) (by simp[hi]) (by simpa using getD_some hlt);cases this;assumption
    · refine aH.chk fun _=>aH.ret (c:=.func (.func f) #[] cc) (.fn f caps cc (by have:=hc.1;simpa using this.symm) fun i c hi=>?_) (by simp[Instr.makeFunc]);have hlt:i<cc.size:=by have:=hc.1;have h2:=(qLa.1 hi).1;simp at this;omega
      exact hc.2 i c (cc.getD i undef) hi (by simpa using getD_some hlt)
  · exact aH.fail
theorem ZQ (w:World) (C:Array Value) (e:TypeId) (n:Nat):(w.alloc (.cells C e)).freeze ⟨w.heap.size,n,none⟩ 1=w.alloc (.cells C e (n,n+1)):=by
 simp only[World.freeze,World.alloc];rw[if_neg (by omega)];congr 1;apply Array.ext
 · simp
 · intro i h1 h2;simp only[Array.size_modify,Array.size_push]at h1;rw[Array.getElem_modify];by_cases hi:w.heap.size=i
   · subst hi;simp
   · rw[if_neg hi];rw[Array.getElem_push_lt (by omega),Array.getElem_push_lt (by omega)]
theorem aeB {src dst e : TypeId} (hs : P.underlying src = some (.slice e)) (hd : P.underlying dst = some .string) (he : P.underlying e = some (.int .u8)) {ys : List PV} {m l cap : Nat} {base : Option Addr}
    (h:V8 P w M false [.int .u8] m ys (.slice base l cap)):(convert src dst (.slice base l cap)).run P w=.ok (.string (bytesOf ys)) w:=by
  obtain⟨q1,q2,q3,q4⟩:=h;have hm:m=l:=by simp[Builtin.lenOf]at q1;exact q1.symm
  subst hm;obtain⟨C,c1,c2,c3⟩:=q4 m (Nat.le_refl m);rw[run_convert_bytes_string w src dst e base m cap hs he hd];have hk:∀ (i:Nat) (y:PV),ys[i]?=some y→y=.int .u8 y.toInt∧C[i]?=some (.int .u8 y.toInt):=by
   intro i y hy;have hi:=(qLa.1 hy).1;have hq:=q3 y (qLe hy);have e1:y=.int .u8 y.toInt:=by cases y<;>simp[bZ,kindOk]at hq;subst hq;rfl
   have hc:=c3 i y 0 (.int .u8 y.toInt) (by omega) hy (by rw[e1];rfl);simp only[List.length_cons,List.length_nil,Nat.zero_add,Nat.mul_one,Nat.add_zero]at hc;have hsz:i<C.size:=by rw[c2];simp;omega
   refine⟨e1,?_⟩;rw[qAd hsz];have e2:C.getD i undef=C[i]:=by simp[Array.getD,hsz]
   rw[e2]at hc;cases hc2:C[i]<;>rw[hc2]at hc<;>cases hc;rfl
  have hC:C=((ys.map PV.toInt).map (Value.int .u8)).toArray:=by
   apply Array.ext_getElem?;intro i
   conv=>rhs;rw[List.getElem?_toArray,List.getElem?_map,List.getElem?_map]
   cases hy:ys[i]? with
   | none =>have:=List.getElem?_eq_none_iff.1 hy;rw[Array.getElem?_eq_none (by rw[c2];simp;omega)];rfl
   | some y=>rw[(hk i y hy).2];rfl
  cases base with
  | none =>
   simp only[Builtin.firstCells,Sem.run_pure]at c1;cases c1;have:ys=[]:=by
    cases ys with
    | nil=>rfl
    | cons y ys=>simp at c2;simp at q2;omega
   subst this;rfl
  | some ad =>simp only[Builtin.firstCells,List.length_cons,List.length_nil,Nat.zero_add,Nat.mul_one]at c1;rw[hC]at c1;rw[run_bytesToString w ad m cap (ys.map PV.toInt) c1,foldl_push_bytes];congr 1;simp[bytesOf,ByteArray.empty,ByteArray.emptyWithCapacity,Function.comp_def];rfl
theorem aeC {h:Nat→Option cu} {x:AV} {c:Value} (hx:AR w M β h x c) (hi:ahy x=true):∃ base l cap,c=.slice base l cap:=by
 cases hx<;>simp[ahy]at hi
 · rename_i v hv;cases v<;>simp at hi;cases hv<;>exact⟨_,_,_,rfl⟩
 · exact⟨_,_,_,rfl⟩
 · exact⟨_,_,_,rfl⟩
theorem Yf (ok : dZ P T) (r : Rel w0 Pr M0 M β st a w) {h' : Nat → Option cu} (hsub : ∀ s b,h' s = some b → look st.heap s = some b) {src dst : TypeId} {x : AV} {c : Value}
    (hx:AR w M β (look st.heap) x c):dF P w0 Pr M0 β st a w d (Gj T h' d src dst x) (do pure (.value (← convert src dst c))):=by
  unfold Gj;split
  · rename_i k n;rw[hx.Au];split
    · rename_i ds j hs hd;have hs:=ok.und hs;have hd:=ok.und hd;refine dF.MW r (aH.ret (.int _ _) ?_);simp only[convert,Sem.run_bind,dV hs,dV hd,qRa];cases ds<;>simp[Conv.intToInt]
    · exact dF.fail
  · rename_i s;rw[hx.QJ];split
    · rename_i ds hs hd;have hs:=ok.und hs;have hd:=ok.und hd;refine dF.MW r (aH.ret (.str _) ?_);simp only[convert,Sem.run_bind,dV hs,dV hd,qRa];cases ds<;>simp
    · rename_i e hs hd;have hs:=ok.und hs;have hd:=ok.und hd;split
      · rename_i dd he;have he:=ok.und he;let cap:=(Question.appendCap s.size 0 e).cut (w.tape w.drawn (.appendCap s.size 0 e));have hcut:s.size≤cap:=Nat.le_add_right _ _;let C:Array Value:=(s.data.map fun b=>Value.int .u8 b.toNat)++Array.replicate (cap-s.size) (.int .u8 0);have hC:C.size=cap:=by have:s.data.size=s.size:=rfl;simp only[C,Array.size_append,Array.size_map,Array.size_replicate];omega
        have hrun:(convert src dst (.string s)).run P w=.ok (.slice (some ⟨w.heap.size,0,none⟩) s.size cap) (w.drew.alloc (.cells C e (C.size,C.size+1))):=by
         simp only[convert,Sem.run_bind,dV hs,dV hd,qRa,dV he,Conv.stringToBytes];rw[run_choose];simp only[Question.forced,Bool.false_eq_true,if_false,qRa,World.drew_eq,newRow,Sem.run_bind,run_newObj,Sem.run_pure,World.alloc_eq,markStringish,run_shape];have hsh:(w.drew.alloc (.cells C e)).shape? w.heap.size=some (e,C.size):=by simp only[World.shape?];have:=wS (w:=w.drew) (o:=.cells C e);rw[show w.drew.heap.size=w.heap.size from rfl]at this;rw[this]
         have hsh':(w.drew.alloc (.cells ((s.data.map fun b=>Value.int .u8 b.toNat)++Array.replicate ((Question.appendCap s.size 0 e).cut (w.tape w.drawn (.appendCap s.size 0 e))-s.size) (.int .u8 0)) e)).shape? w.drew.heap.size=some (e,C.size):=hsh;rw[hsh'];simp only[run_freeze,qRa];have:=ZQ w.drew C e C.size;rw[show (w.drew.alloc (.cells ((s.data.map fun b=>Value.int .u8 b.toNat)++Array.replicate ((Question.appendCap s.size 0 e).cut (w.tape w.drawn (.appendCap s.size 0 e))-s.size) (.int .u8 0)) e)).freeze ⟨w.drew.heap.size,C.size,none⟩ 1=w.drew.alloc (.cells C e (C.size,C.size+1)) from this];rfl
        have hlen:(s.data.toList.map fun b=>PV.int .u8 b.toNat).length=s.size:=by simp
        have hr:=r.drew.ZM (ss:=[]) rfl (by simp) (d:=dd) (sa:=false) (ks:=[.int .u8]) (xs:=s.data.toList.map fun b=>PV.int .u8 b.toNat) (C:=C) (e:=e) (fr:=(C.size,C.size+1)) (len:=s.size) (cap:=cap)
         (.inr (Nat.le_refl _)) (fun x hx=>by
           obtain⟨b,_,rfl⟩:=List.mem_map.1 hx;rfl) (by rw[hlen];exact Nat.le_refl _) hcut (by rw[hC];simp) (by rw[hlen,hC];simpa using hcut) (fun i x j c hxi hj=>by
           rw[List.getElem?_map]at hxi;cases hb:s.data.toList[i]? with
           | none=>rw[hb]at hxi;simp at hxi
           | some q =>
            rw[hb]at hxi;simp at hxi;subst hxi;have hj0:j=0:=by have:=(qLa.1 hj).1;simpa [PV.cells] using this
            subst hj0;simp[PV.cells]at hj;subst hj;have hq:s.data[i]?=some q:=by simpa using hb
            have hlt:i<s.data.size:=(qAa.1 hq).1;have:C.getD (i*1+0) undef=.int .u8 q.toNat:=by rw[qAb,Nat.mul_one,Nat.add_zero,Array.getElem?_append_left (by simpa using hlt),Array.getElem?_map,hq];rfl
            show VR w.drew _ _ (C.getD (i*1+0) undef);rw[this];exact .int _ _)
        exact dF.ret (nv:=.value (.slice (some ⟨w.heap.size,0,none⟩) s.size cap)) (by simp only[Sem.run_bind,hrun,qRa,Sem.run_pure]) (.inl rfl) (fun _=>hr) (fun hf=>xA hf)
      · exact dF.fail
    · exact dF.fail
  · split
    · rename_i e hs hd;have hs:=ok.und hs;have hd:=ok.und hd;split
      · rename_i s2 m ys he hsrc;have he:=ok.und he;refine dF.chk fun hb=>?_;rw[qBa]at hb;obtain⟨base,l,cap,rfl⟩:=aeC hx hb.2;have hsr:=Gq (P:=P) r hsub hx hsrc hb.1;refine dF.MW r (aH.ret (.str _) ?_);exact aeB hs hd he hsr
      · exact dF.fail
    · exact dF.fail
end
end Go.Skm
