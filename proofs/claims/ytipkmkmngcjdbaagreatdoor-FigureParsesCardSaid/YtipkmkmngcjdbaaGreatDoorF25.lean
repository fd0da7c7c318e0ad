/-
  The document reads a line just as the program does; condition: a line that fits.
-/
import Derived.Test.YtipkmkmngcjdbaaGreatDoorF24
import Derived.Test.YtipkmkmngcjdbaaGreatDoorEqv
namespace Go.Skm.Fig
open Go Go.Skm
theorem trip_nil:trip []=[]:=rfl
theorem drop3 {l:List Int} {i:Nat} (h:i+2<l.length):l.drop i=l[i]::l[i+1]::l[i+2]::l.drop (i+3):=by
 rw[List.drop_eq_getElem_cons (by omega),List.drop_eq_getElem_cons (i:=i+1) (by omega),List.drop_eq_getElem_cons (i:=i+1+1) (by omega)]
theorem shp_nil (k m r s p:Int):shp ⟨k,[],m,r,s,p⟩=false:=by
 cases hh:shp ⟨k,[],m,r,s,p⟩ with
 | false=>rfl
 | true =>
  obtain⟨_,_,hh⟩:=shp_iff.1 hh
  simp at hh
abbrev z46:PV:=.agg [.int .i64 0,.nil,.int .i64 0,.int .i64 0,.int .i64 0,.int .i64 0]
theorem tmod3 (n:Nat):(((n:Int).tmod 3) != 0)=!decide (n%3=0):=by
 have:(n:Int).tmod 3=((n%3:Nat):Int):=by rw[Int.tmod_eq_emod_of_nonneg (by omega)];rfl
 rw[this]
 cases h:decide (n%3=0) with
 | true=>rw[decide_eq_true_eq]at h;rw[h];rfl
 | false =>
  rw[decide_eq_false_iff_not]at h
  simp only[Bool.not_false,bne_iff_ne,ne_eq];omega
section
variable (X:Ext) (hX:Mine X)
include hX
theorem c35n (k m r s p:Int):run tab X 35 [.p (.agg [.int .i64 k,.nil,.int .i64 m,.int .i64 r,.int .i64 s,.int .i64 p])] []=some ([.p (.bool false)],[]):=by
 have h:=a35 X hX ⟨k,[],m,r,s,p⟩ (by simp)
 rw[shp_nil]at h
 refine run_of (hX _ rfl) ?_
 rw[e35n]
 rw[e35]at h
 exact h
theorem l46c (all : List Int) (o nl : Nat) (ho : o + nl = all.length) (hl : all.length ≤ 100000000) (k m r s p : Int) : ∀ (q i : Nat) (acc : List V3),i + 3 * q = nl → acc.length + q ≤ 100000000 →
    L tab (run tab X) 46 [] [.lp [1,1,1,1,1,1,1,1,1,1,1,0,1,0]] (S46_11111111111010_s1 o nl i 0 0 0 0 0 k 0 acc.length m r s p (eN all) (encL acc)) =
     some ([.p (eS ⟨k,acc++trip (all.drop (o+i)),m,r,s,p⟩),.p (.bool (shp ⟨k,acc++trip (all.drop (o+i)),m,r,s,p⟩))],[]):=by
  intro q
  induction q with
  | zero =>
   intro i acc hi ha
   refine L_of ?_
   rw[e46_11111111111010_s1]
   refine condNP (show ¬ (i:Int)<(nl:Int) by omega) ?_
   rw[List.drop_zero,List.take_of_length_le (by simp),List.drop_eq_nil_of_le (show all.length≤o+i by omega),trip_nil,List.append_nil]
   refine bindS (c35 X hX ⟨k,acc,m,r,s,p⟩ (by show acc.length≤_;omega)) ?_
   rfl
  | succ q ih =>
   intro i acc hi ha
   have w1:IntKind.i64.wrap ((i:Int)+1)=((i+1:Nat):Int):=by rw[wrap_eq (by omega) (by omega)];omega
   have w2:IntKind.i64.wrap ((i:Int)+2)=((i+2:Nat):Int):=by rw[wrap_eq (by omega) (by omega)];omega
   have w3:IntKind.i64.wrap ((i:Int)+3)=((i+3:Nat):Int):=by rw[wrap_eq (by omega) (by omega)];omega
   have g0:=eN_getD (l:=all) (i:=o+i) (by omega)
   have g1:=eN_getD (l:=all) (i:=o+(i+1)) (by omega)
   have g2:=eN_getD (l:=all) (i:=o+(i+2)) (by omega)
   have:=ih (i+3) (acc++[⟨all[o+i]'(by omega),all[o+(i+1)]'(by omega),all[o+(i+2)]'(by omega)⟩]) (by omega) (by simp only[List.length_append,List.length_cons,List.length_nil];omega)
   have hd:trip (all.drop (o+i))=⟨all[o+i]'(by omega),all[o+(i+1)]'(by omega),all[o+(i+2)]'(by omega)⟩::trip (all.drop (o+(i+3))):=by
    rw[drop3 (l:=all) (i:=o+i) (by omega)];rfl
   rw[hd]
   refine L_of ?_
   rw[e46_11111111111010_s1,w1,w2,w3]
   simp only[Int.toNat_natCast,g0,g1,g2,condA]
   refine condP (by omega) (condP (by omega) (condP (by omega) (condP (by omega) (condP (by omega) (condP (by omega) (condP (by omega) (condP (p:=acc.length+1≤2147483648) (by omega) ?_)))))))
   simp only[List.append_assoc,List.cons_append,List.nil_append,List.length_append,List.length_cons,List.length_nil,Nat.zero_add]at this
   rw[← this]
   congr 2
   show _++[encV ⟨_,_,_⟩]=_
   rw[List.drop_zero,List.take_of_length_le (by simp),encL_one,encL_append]
theorem l46d (all : List Int) (o nl : Nat) (ho : o + nl = all.length) (hl : all.length ≤ 100000000) (h3 : nl % 3 = 0) (k m r s p : Int) {S : Sh} (hS : S = ⟨k,trip (all.drop o),m,r,s,p⟩) :
    ∃ v,L tab (run tab X) 46 [] [.lp [1,1,1,1,1,1,1,1,1,1,1,0,1,0]] (S46_11111111111010 o nl 0 0 0 0 0 0 k m r s p (eN all))=some ([.p v,.p (.bool (shp S))],[])∧(shp S=true→v=eS S):=by
  by_cases hn:nl=0
  · have e:all.drop o=[]:=List.drop_eq_nil_of_le (by omega)
    rw[e,trip_nil]at hS
    subst hS
    refine⟨.agg [.int .i64 k,.nil,.int .i64 m,.int .i64 r,.int .i64 s,.int .i64 p],L_of ?_,fun h=>by rw[shp_nil]at h;cases h⟩
    rw[e46_11111111111010]
    refine condNP (show ¬ (0:Int)<(nl:Int) by omega) ?_
    refine bindS (c35n X hX k m r s p) ?_
    rw[shp_nil];rfl
  · have w1:IntKind.i64.wrap ((0:Int)+1)=((1:Nat):Int):=wrap_eq (by omega) (by omega)
    have w2:IntKind.i64.wrap ((0:Int)+2)=((2:Nat):Int):=wrap_eq (by omega) (by omega)
    have w3:IntKind.i64.wrap ((0:Int)+3)=((3:Nat):Int):=wrap_eq (by omega) (by omega)
    have g0:=eN_getD (l:=all) (i:=o+0) (by omega)
    have g1:=eN_getD (l:=all) (i:=o+1) (by omega)
    have g2:=eN_getD (l:=all) (i:=o+2) (by omega)
    have:=l46c X hX all o nl ho hl k m r s p (nl / 3-1) 3 [⟨all[o]'(by omega),all[o+1]'(by omega),all[o+2]'(by omega)⟩] (by omega) (by simp only[List.length_cons,List.length_nil];omega)
    have hd:trip (all.drop o)=⟨all[o]'(by omega),all[o+1]'(by omega),all[o+2]'(by omega)⟩::trip (all.drop (o+3)):=by
     rw[drop3 (l:=all) (i:=o) (by omega)];rfl
    rw[hd]at hS
    refine⟨eS S,L_of ?_,fun _=>rfl⟩
    rw[e46_11111111111010,w1,w2,w3]
    simp only[Int.toNat_natCast,Int.toNat_zero,g0,g1,g2,condA]
    refine condP (by omega) (condP (by omega) (condP (by omega) (condP (by omega) (condP (by omega) (condP (by omega) (condP (by omega) ?_))))))
    rw[hS]
    exact this
theorem l46f (κ p : Int) (hκ : κ = 0 ∨ κ = 1 ∨ κ = 2 ∨ κ = 3 ∨ κ = 4 ∨ κ = 5) (ns : List Int) (hl : ns.length ≤ 100000000) (o wl : Nat) (i : Int) (hi : ¬ i < (wl : Int)) (wb : List PV) :
    ∃ v,L tab (run tab X) 46 [] [.lp [1,1,1,1,1,1,1,0,1,0]] (S46_1111111010 o wl 0 ns.length i 0 0 0 0 0 wb κ 0 0 0 p (eN ns))=some ([.p v,.p (.bool (okS κ p ns))],[])∧(okS κ p ns=true→v=eS (shN κ p ns)):=by
  have step:∀ {x:Option (List AV × List Blk)} {res:List AV × List Blk},R tab (run tab X) 46 [] [.lp [1,1,1,1,1,1,1,0,1,0]] (S46_1111111010 o wl 0 ns.length i 0 0 0 0 0 wb κ 0 0 0 p (eN ns))=x→x=some res→L tab (run tab X) 46 [] [.lp [1,1,1,1,1,1,1,0,1,0]] (S46_1111111010 o wl 0 ns.length i 0 0 0 0 0 wb κ 0 0 0 p (eN ns))=some res:=fun h1 h2=>L_of (h1.trans h2)
  have bad:∀ {n:Nat},(restN κ ns).2.2.2.length=n→n%3≠0→okS κ p ns=false:=by
   intro n h1 h2
   unfold okS;rw[h1];simp[h2]
  have good:∀ {n:Nat},(restN κ ns).2.2.2.length=n→n%3=0→okS κ p ns=shp (shN κ p ns):=by
   intro n h1 h2
   unfold okS;rw[h1];simp[h2]
  rcases hκ with rfl | rfl | rfl | rfl | rfl | rfl
  · by_cases h3:ns.length%3=0
    · rw[good rfl h3]
      obtain⟨v,h1,h2⟩:=l46d X hX ns 0 ns.length (by omega) hl h3 0 0 0 0 p (S:=shN 0 p ns) rfl
      refine⟨v,step (e46_1111111010 ..) ?_,h2⟩
      refine condNP hi (condF rfl (condF rfl (condNP (show ¬ (0:Int) ≥ 4 by decide) ?_)))
      exact condF (by rw[tmod3];simp[h3]) h1
    · rw[bad (n:=ns.length) rfl h3]
      refine⟨z46,step (e46_1111111010 ..) ?_,fun h=>by cases h⟩
      refine condNP hi (condF rfl (condF rfl (condNP (show ¬ (0:Int) ≥ 4 by decide) ?_)))
      exact condT (by rw[tmod3];simp[h3]) rfl
  · by_cases h3:ns.length%3=0
    · rw[good rfl h3]
      obtain⟨v,h1,h2⟩:=l46d X hX ns 0 ns.length (by omega) hl h3 1 0 0 0 p (S:=shN 1 p ns) rfl
      refine⟨v,step (e46_1111111010 ..) ?_,h2⟩
      refine condNP hi (condF rfl (condF rfl (condNP (show ¬ (1:Int) ≥ 4 by decide) ?_)))
      exact condF (by rw[tmod3];simp[h3]) h1
    · rw[bad (n:=ns.length) rfl h3]
      refine⟨z46,step (e46_1111111010 ..) ?_,fun h=>by cases h⟩
      refine condNP hi (condF rfl (condF rfl (condNP (show ¬ (1:Int) ≥ 4 by decide) ?_)))
      exact condT (by rw[tmod3];simp[h3]) rfl
  · cases ns with
    | nil =>
     rw[good (n:=0) rfl rfl]
     obtain⟨v,h1,h2⟩:=l46d X hX [] 0 0 rfl hl rfl 2 0 0 0 p (S:=shN 2 p []) rfl
     refine⟨v,step (e46_1111111010 ..) ?_,h2⟩
     refine condNP hi (condT rfl (condNP (by simp) (condNP (show ¬ (2:Int) ≥ 4 by decide) ?_)))
     exact condF rfl h1
    | cons a t =>
     have e:((((a::t).length:Nat):Int)-1).toNat=t.length:=by simp only[List.length_cons];omega
     simp only[List.length_cons]at hl
     by_cases h3:t.length%3=0
     · rw[good (n:=t.length) rfl h3]
       obtain⟨v,h1,h2⟩:=l46d X hX (a::t) (0+1) t.length (by simp only[List.length_cons];omega) (by simp only[List.length_cons];omega) h3 2 a 0 0 p (S:=shN 2 p (a::t)) rfl
       refine⟨v,step (e46_1111111010 ..) ?_,h2⟩
       rw[e]
       simp only[condA]
       refine condNP hi (condT rfl (condP (by simp only[List.length_cons];omega) (condP (by simp only[List.length_cons];omega) (condP (by simp only[List.length_cons];omega) (condP (Int.le_refl _) (condP (Int.le_refl _) (condNP (show ¬ (2:Int) ≥ 4 by decide) ?_)))))))
       exact condF (by rw[tmod3];simp[h3]) h1
     · rw[bad (n:=t.length) rfl h3]
       refine⟨z46,step (e46_1111111010 ..) ?_,fun h=>by cases h⟩
       rw[e]
       simp only[condA]
       refine condNP hi (condT rfl (condP (by simp only[List.length_cons];omega) (condP (by simp only[List.length_cons];omega) (condP (by simp only[List.length_cons];omega) (condP (Int.le_refl _) (condP (Int.le_refl _) (condNP (show ¬ (2:Int) ≥ 4 by decide) ?_)))))))
       exact condT (by rw[tmod3];simp[h3]) rfl
  · cases ns with
    | nil =>
     rw[good (n:=0) rfl rfl]
     obtain⟨v,h1,h2⟩:=l46d X hX [] 0 0 rfl hl rfl 3 0 0 0 p (S:=shN 3 p []) rfl
     refine⟨v,step (e46_1111111010 ..) ?_,h2⟩
     refine condNP hi (condF rfl (condT rfl (condNP (by simp) (condNP (show ¬ (3:Int) ≥ 4 by decide) ?_))))
     exact condF rfl h1
    | cons a t =>
     have e:((((a::t).length:Nat):Int)-1).toNat=t.length:=by simp only[List.length_cons];omega
     simp only[List.length_cons]at hl
     by_cases h3:t.length%3=0
     · rw[good (n:=t.length) rfl h3]
       obtain⟨v,h1,h2⟩:=l46d X hX (a::t) (0+1) t.length (by simp only[List.length_cons];omega) (by simp only[List.length_cons];omega) h3 3 a 0 0 p (S:=shN 3 p (a::t)) rfl
       refine⟨v,step (e46_1111111010 ..) ?_,h2⟩
       rw[e]
       simp only[condA]
       refine condNP hi (condF rfl (condT rfl (condP (by simp only[List.length_cons];omega) (condP (by simp only[List.length_cons];omega) (condP (by simp only[List.length_cons];omega) (condP (Int.le_refl _) (condP (Int.le_refl _) (condNP (show ¬ (3:Int) ≥ 4 by decide) ?_))))))))
       exact condF (by rw[tmod3];simp[h3]) h1
     · rw[bad (n:=t.length) rfl h3]
       refine⟨z46,step (e46_1111111010 ..) ?_,fun h=>by cases h⟩
       rw[e]
       simp only[condA]
       refine condNP hi (condF rfl (condT rfl (condP (by simp only[List.length_cons];omega) (condP (by simp only[List.length_cons];omega) (condP (by simp only[List.length_cons];omega) (condP (Int.le_refl _) (condP (Int.le_refl _) (condNP (show ¬ (3:Int) ≥ 4 by decide) ?_))))))))
       exact condT (by rw[tmod3];simp[h3]) rfl
  · cases ns with
    | nil =>
     rw[good (n:=0) rfl rfl]
     obtain⟨v,h1,h2⟩:=l46d X hX [] 0 0 rfl hl rfl 4 0 0 0 p (S:=shN 4 p []) rfl
     refine⟨v,step (e46_1111111010 ..) ?_,h2⟩
     refine condNP hi (condF rfl (condF rfl (condP (show (4:Int) ≥ 4 by decide) (condNP (by simp) ?_))))
     exact condF rfl h1
    | cons a t =>
     cases t with
     | nil =>
      rw[bad (n:=1) rfl (by decide)]
      refine⟨z46,step (e46_1111111010 ..) ?_,fun h=>by cases h⟩
      refine condNP hi (condF rfl (condF rfl (condP (show (4:Int) ≥ 4 by decide) (condNP (by simp) ?_))))
      exact condT rfl rfl
     | cons b t =>
      have e:((((a::b::t).length:Nat):Int)-2).toNat=t.length:=by simp only[List.length_cons];omega
      simp only[List.length_cons]at hl
      by_cases h3:t.length%3=0
      · rw[good (n:=t.length) rfl h3]
        obtain⟨v,h1,h2⟩:=l46d X hX (a::b::t) (0+2) t.length (by simp only[List.length_cons];omega) (by simp only[List.length_cons];omega) h3 4 0 a b p (S:=shN 4 p (a::b::t)) rfl
        refine⟨v,step (e46_1111111010 ..) ?_,h2⟩
        rw[e]
        simp only[condA]
        refine condNP hi (condF rfl (condF rfl (condP (show (4:Int) ≥ 4 by decide) (condP (by simp only[List.length_cons];omega) (condP (by simp only[List.length_cons];omega) (condP (by simp only[List.length_cons];omega) (condP (by simp only[List.length_cons];omega) (condP (Int.le_refl _) (condP (Int.le_refl _) ?_)))))))))
        exact condF (by rw[tmod3];simp[h3]) h1
      · rw[bad (n:=t.length) rfl h3]
        refine⟨z46,step (e46_1111111010 ..) ?_,fun h=>by cases h⟩
        rw[e]
        simp only[condA]
        refine condNP hi (condF rfl (condF rfl (condP (show (4:Int) ≥ 4 by decide) (condP (by simp only[List.length_cons];omega) (condP (by simp only[List.length_cons];omega) (condP (by simp only[List.length_cons];omega) (condP (by simp only[List.length_cons];omega) (condP (Int.le_refl _) (condP (Int.le_refl _) ?_)))))))))
        exact condT (by rw[tmod3];simp[h3]) rfl
  · cases ns with
    | nil =>
     rw[good (n:=0) rfl rfl]
     obtain⟨v,h1,h2⟩:=l46d X hX [] 0 0 rfl hl rfl 5 0 0 0 p (S:=shN 5 p []) rfl
     refine⟨v,step (e46_1111111010 ..) ?_,h2⟩
     refine condNP hi (condF rfl (condF rfl (condP (show (5:Int) ≥ 4 by decide) (condNP (by simp) ?_))))
     exact condF rfl h1
    | cons a t =>
     cases t with
     | nil =>
      rw[bad (n:=1) rfl (by decide)]
      refine⟨z46,step (e46_1111111010 ..) ?_,fun h=>by cases h⟩
      refine condNP hi (condF rfl (condF rfl (condP (show (5:Int) ≥ 4 by decide) (condNP (by simp) ?_))))
      exact condT rfl rfl
     | cons b t =>
      have e:((((a::b::t).length:Nat):Int)-2).toNat=t.length:=by simp only[List.length_cons];omega
      simp only[List.length_cons]at hl
      by_cases h3:t.length%3=0
      · rw[good (n:=t.length) rfl h3]
        obtain⟨v,h1,h2⟩:=l46d X hX (a::b::t) (0+2) t.length (by simp only[List.length_cons];omega) (by simp only[List.length_cons];omega) h3 5 0 a b p (S:=shN 5 p (a::b::t)) rfl
        refine⟨v,step (e46_1111111010 ..) ?_,h2⟩
        rw[e]
        simp only[condA]
        refine condNP hi (condF rfl (condF rfl (condP (show (5:Int) ≥ 4 by decide) (condP (by simp only[List.length_cons];omega) (condP (by simp only[List.length_cons];omega) (condP (by simp only[List.length_cons];omega) (condP (by simp only[List.length_cons];omega) (condP (Int.le_refl _) (condP (Int.le_refl _) ?_)))))))))
        exact condF (by rw[tmod3];simp[h3]) h1
      · rw[bad (n:=t.length) rfl h3]
        refine⟨z46,step (e46_1111111010 ..) ?_,fun h=>by cases h⟩
        rw[e]
        simp only[condA]
        refine condNP hi (condF rfl (condF rfl (condP (show (5:Int) ≥ 4 by decide) (condP (by simp only[List.length_cons];omega) (condP (by simp only[List.length_cons];omega) (condP (by simp only[List.length_cons];omega) (condP (by simp only[List.length_cons];omega) (condP (Int.le_refl _) (condP (Int.le_refl _) ?_)))))))))
        exact condT (by rw[tmod3];simp[h3]) rfl
theorem l46i (κ p : Int) (hκ : κ = 0 ∨ κ = 1 ∨ κ = 2 ∨ κ = 3 ∨ κ = 4 ∨ κ = 5) (W : List (List UInt8)) (hW : W.length ≤ 100000000) (h8 : ∀ x ∈ W,x.length ≤ 100000000) (o wl : Nat) (ho : o + wl = W.length) : ∀ (d i : Nat) (ns : List Int),i + d = wl → ns.length ≤ i →
    ∃ v,L tab (run tab X) 46 [] [.lp [1,1,1,1,1,1,1,0,1,0]] (S46_1111111010 o wl 0 ns.length i 0 0 0 0 0 (eW W) κ 0 0 0 p (eN ns))=some ([.p v,.p (.bool ((W.drop (o+i)).all okN&&okS κ p (ns++(W.drop (o+i)).map numR)))],[]) ∧
     (((W.drop (o+i)).all okN&&okS κ p (ns++(W.drop (o+i)).map numR))=true→v=eS (shN κ p (ns++(W.drop (o+i)).map numR))):=by
  intro d
  induction d with
  | zero =>
   intro i ns hi hn
   rw[List.drop_eq_nil_of_le (show W.length≤o+i by omega),List.map_nil,List.append_nil,List.all_nil,Bool.true_and]
   exact l46f X hX κ p hκ ns (by omega) o wl i (by omega) (eW W)
  | succ d ih =>
   intro i ns hi hn
   have hlt:o+i<W.length:=by omega
   have w1:IntKind.i64.wrap ((i:Int)+1)=((i+1:Nat):Int):=by rw[wrap_eq (by omega) (by omega)];omega
   have g0:=eW_getD (l:=W) (i:=o+i) hlt
   have c:=c83 X hX W[o+i] (h8 _ (List.getElem_mem hlt))
   have step:∀ {x:Option (List AV × List Blk)} {res:List AV × List Blk},R tab (run tab X) 46 [] [.lp [1,1,1,1,1,1,1,0,1,0]] (S46_1111111010 o wl 0 ns.length i 0 0 0 0 0 (eW W) κ 0 0 0 p (eN ns))=x→x=some res→L tab (run tab X) 46 [] [.lp [1,1,1,1,1,1,1,0,1,0]] (S46_1111111010 o wl 0 ns.length i 0 0 0 0 0 (eW W) κ 0 0 0 p (eN ns))=some res:=fun h1 h2=>L_of (h1.trans h2)
   rw[List.drop_eq_getElem_cons hlt,List.all_cons,show o+i+1=o+(i+1) from rfl]
   cases hk:okN W[o+i] with
   | false =>
    refine⟨z46,step (e46_1111111010 ..) ?_,fun h=>by simp at h⟩
    rw[Int.toNat_natCast,g0]
    simp only[condA]
    refine condP (by omega) (condP (by omega) (condP (by omega) (bindS c ?_)))
    unfold okN at hk
    rw[hk];rfl
   | true =>
    obtain⟨v,h1,h2⟩:=ih (i+1) (ns++[numR W[o+i]]) (by omega) (by simp only[List.length_append,List.length_cons,List.length_nil];omega)
    rw[Bool.true_and,List.map_cons]
    simp only[List.append_assoc,List.cons_append,List.nil_append,List.length_append,List.length_cons,List.length_nil,Nat.zero_add]at h1 h2
    refine⟨v,step (e46_1111111010 ..) ?_,h2⟩
    rw[Int.toNat_natCast,g0,w1]
    simp only[condA]
    refine condP (by omega) (condP (by omega) (condP (by omega) (bindS c ?_)))
    unfold okN at hk
    rw[hk]
    refine condF rfl (condP (p:=ns.length+1≤2147483648) (by omega) ?_)
    rw[← h1]
    congr 2
    rw[List.drop_zero,List.take_of_length_le (by simp)]
    simp[eN]
theorem l46p (x : List UInt8) (W : List (List UInt8)) (o wl : Nat) (ho : o < W.length) (hwl : 0 < wl) (hx : W[o] = x) (p : Int) {j : Int} (hj : 0 ≤ j ∧ j ≤ 2) {res : List AV × List Blk}
    (h:L tab (run tab X) 46 [] [.lp [1,1,1,1,1,0,1,0,1,0,1,0]] (S46_111110101010 o wl (j+1) 0 0 0 0 0 (eW W) 4 0 0 0 (if x=plB j then j else p))=some res) :
    L tab (run tab X) 46 [] [.lp [1,1,1,1,1,0,1,0,1,0,1,0]] (S46_111110101010 o wl j 0 0 0 0 0 (eW W) 4 0 0 0 p)=some res:=by
  have _:=hX
  have w1:IntKind.i64.wrap (j+1)=j+1:=wrap_eq (by omega) (by omega)
  have e:((planeL.getD (0+j.toNat) .nil).cell 0).toStr=ba (plB j):=by
   have h3:j=0∨j=1∨j=2:=by omega
   rcases h3 with rfl | rfl | rfl<;>rfl
  have g0:=eW_getD (l:=W) (i:=o) ho
  refine L_of ?_
  rw[e46_111110101010,w1,e,Nat.add_zero,g0,hx,ba_beq]
  simp only[condA,ba_inj]
  refine condP (by omega) (condP (by omega) (condP (by omega) (condP (by omega) ?_)))
  by_cases hq:plB j=x
  · refine condP hq ?_
    rw[if_pos hq.symm]at h;exact h
  · refine condNP hq ?_
    rw[if_neg fun e=>hq e.symm]at h;exact h
theorem l46k (w0 : List UInt8) (ws : List (List UInt8)) (κ : Int) {j : Int} (hj : 1 ≤ j ∧ j ≤ 5) {res : List AV × List Blk}
    (h:L tab (run tab X) 46 [] [.lp [1,1,1,0,1,0]] (S46_111010 0 (w0::ws).length (j+1) 0 0 0 0 0 (eW (w0::ws)) (if w0=kw j then j else κ) 0 0 0 0)=some res) :
    L tab (run tab X) 46 [] [.lp [1,1,1,0,1,0]] (S46_111010 0 (w0::ws).length j 0 0 0 0 0 (eW (w0::ws)) κ 0 0 0 0)=some res:=by
  have _:=hX
  have w1:IntKind.i64.wrap (j+1)=j+1:=wrap_eq (by omega) (by omega)
  have e:((kindL.getD (0+j.toNat) .nil).cell 0).toStr=ba (kw j):=by
   have h3:j=1∨j=2∨j=3∨j=4∨j=5:=by omega
   rcases h3 with rfl | rfl | rfl | rfl | rfl<;>rfl
  have g0:=eW_getD (l:=w0::ws) (i:=0) (by simp)
  refine L_of ?_
  rw[e46_111010,w1,e,Nat.add_zero,g0,ba_beq]
  simp only[condA,ba_inj,List.getElem_cons_zero]
  refine condP (by omega) (condP (by omega) (condP (by omega) (condP (by simp only[List.length_cons];omega) ?_)))
  by_cases hq:kw j=w0
  · refine condP hq ?_
    rw[if_pos hq.symm]at h;exact h
  · refine condNP hq ?_
    rw[if_neg fun e=>hq e.symm]at h;exact h
end
end Go.Skm.Fig
