/-
  The texts of figures, by the program and by the document: they agree; condition: the library's answers, valid figures.
-/
import Derived.Test.YtipkmkmngcjdbaaGreatDoorF14
import Derived.Test.YtipkmkmngcjdbaaGreatDoorEqtt
namespace Go.Skm.Fig
open Go Go.Skm
theorem spW_append (x y:List (List UInt8)):spW (x++y)=spW x++spW y:=by
 induction x with
 | nil=>rfl
 | cons w r ih=>simp[spW,ih]
theorem dig1 (k:Nat) (hk:k<10):(⟨#[48,49,50,51,52,53,54,55,56,57]⟩:ByteArray).extract k (k+1)=ba [UInt8.ofNat (48+k)]:=by
 have h:∀ k:Fin 10,(⟨#[48,49,50,51,52,53,54,55,56,57]⟩:ByteArray).extract k.val (k.val+1)=ba [UInt8.ofNat (48+k.val)]:=by decide
 exact h ⟨k,hk⟩
section
variable (X:Ext) (hX:Mine X)
include hX
theorem c77n:∀ (k:Nat) (u:Nat),u<10 ^ (k+1)→k≤18→u≤4611686018427387904→run tab X 77 [.p (.int .i64 (u:Int))] []=some ([.p (.str (ba (Lib.decDigits u)))],[])
 | k,u,h,hk,hb=>by
  refine run_of (hX _ rfl) ?_
  rw[e77]
  refine condNP (show ¬ (u:Int)<0 by omega) ?_
  by_cases hu:u<10
  · refine condP (show (u:Int)<10 by omega) ?_
    have w1:IntKind.i64.wrap ((u:Int)+1)=(u:Int)+1:=wrap_eq (by omega) (by omega)
    rw[w1]
    simp only[condA,condD]
    rw[if_pos (by omega),if_pos (by omega),if_pos (by omega)]
    rw[show ((u:Int)).toNat=u by omega,show ((u:Int)+1).toNat=u+1 by omega,dig1 u hu,dec1 hu]
  · refine condNP (show ¬ (u:Int)<10 by omega) ?_
    match k,h,hk with
    | 0,h,_=>simp at h;omega
    | k+1,h,hk =>
     have hu10:10≤u:=by omega
     have e1:(u:Int).tdiv 10=((u / 10:Nat):Int):=by rw[Int.tdiv_eq_ediv_of_nonneg (by omega)];rfl
     have e2:(u:Int).tmod 10=((u%10:Nat):Int):=by rw[Int.tmod_eq_emod_of_nonneg (by omega)];rfl
     have w1:IntKind.i64.wrap (((u / 10:Nat):Int))=((u / 10:Nat):Int):=wrap_eq (by omega) (by omega)
     rw[e1,e2,w1]
     refine bindS (c77n k (u / 10) (by rw[Nat.pow_succ]at h;omega) (by omega) (by omega)) ?_
     refine bindS (c77n 0 (u%10) (by simp;omega) (by omega) (by omega)) ?_
     simp only[List.headD_cons,pv_p,toStr_str,ba_append]
     have hl1:=dec_len 20 (u:=u / 10) (by omega)
     have hl2:=dec_len 20 (u:=u%10) (by omega)
     refine condP (p:=_≤_) (by simp only[ba_size];omega) ?_
     rw[← decDigits_split hu10]
theorem c77 (n:Int) (h0:-1000000000≤n) (h1:n≤1000000000):run tab X 77 [.p (.int .i64 n)] []=some ([.p (.str (ba (Lib.itoa n)))],[]):=by
 by_cases hn:n<0
 · refine run_of (hX _ rfl) ?_
   rw[e77]
   refine condP hn ?_
   have w1:IntKind.i64.wrap (0-n)=((n.natAbs:Nat):Int):=by rw[wrap_eq (by omega) (by omega)];omega
   rw[w1]
   have hl:=dec_len 9 (u:=n.natAbs) (by omega)
   refine bindS (c77n X hX 9 n.natAbs (by omega) (by omega) (by omega)) ?_
   simp only[List.headD_cons,pv_p,toStr_str]
   rw[show (⟨#[45]⟩:ByteArray)=ba [45] from rfl,ba_append]
   refine condP (p:=_≤_) (by simp only[ba_size,List.length_cons,List.length_nil];omega) ?_
   unfold Lib.itoa
   rw[if_pos hn]
   rfl
 · have:=c77n X hX 9 n.toNat (by omega) (by omega) (by omega)
   rw[show ((n.toNat:Nat):Int)=n by omega]at this
   rw[this,itoa_nat (by omega)]
theorem l42 (k m r s p : Int) (c : List V3) (hc : allP c = true) (hl : c.length ≤ 200) : ∀ (n i : Nat) (acc : List UInt8),i + n = c.length → acc.length ≤ 100 + 100 * i →
    L tab (run tab X) 42 [] [.lp [1,1,1,1,1,0,1,0]] (S42_11111010 (ba acc) i k (encL c) m r s p)=some ([.p (.str (ba (acc++spW (corW (c.drop i)))))],[]):=by
  intro n
  induction n with
  | zero =>
   intro i acc hi ha
   refine L_of ?_
   rw[e42_11111010,encL_length]
   refine condNP (show ¬ (i:Int)<(c.length:Int) by omega) ?_
   rw[List.drop_eq_nil_of_le (by omega),corW,spW,List.append_nil]
  | succ n ih =>
   intro i acc hi ha
   have hlt:i<c.length:=by omega
   have hv:=pnt_in (allP_iff.1 hc c[i] (List.getElem_mem hlt))
   have w1:IntKind.i64.wrap ((i:Int)+1)=((i+1:Nat):Int):=by rw[wrap_eq (by omega) (by omega)];omega
   have hg:c.getD i default=c[i]:=by rw[List.getD_eq_getElem?_getD];simp[hlt]
   have x1:=itoa_len8 hv.1.1 hv.1.2
   have x2:=itoa_len8 hv.2.1.1 hv.2.1.2
   have x3:=itoa_len8 hv.2.2.1 hv.2.2.2
   refine L_of ?_
   rw[e42_11111010,w1]
   simp only[encL_length,Int.toNat_natCast,encL_x,encL_y,encL_z,hg]
   refine condP (show (i:Int)<(c.length:Int) by omega) ?_
   have hr:(leI (0:Int) (i:Int)&&ltI (i:Int) ((c.length:Nat):Int))=true:=by simp;omega
   rw[hr]
   simp only[cond_true]
   rw[show (⟨#[32]⟩:ByteArray)=ba [32] from rfl,ba_append]
   refine condP (p:=_≤_) (by simp only[ba_size,List.length_cons,List.length_nil];omega) ?_
   refine bindS (c77 X hX c[i].x (by omega) (by omega)) ?_
   simp only[List.headD_cons,pv_p,toStr_str,ba_append]
   refine condP (p:=_≤_) (by simp only[ba_size,List.length_append,List.length_cons,List.length_nil];omega) ?_
   refine condP (p:=_≤_) (by simp only[ba_size,List.length_append,List.length_cons,List.length_nil];omega) ?_
   refine bindS (c77 X hX c[i].y (by omega) (by omega)) ?_
   simp only[List.headD_cons,pv_p,toStr_str,ba_append]
   refine condP (p:=_≤_) (by simp only[ba_size,List.length_append,List.length_cons,List.length_nil];omega) ?_
   refine condP (p:=_≤_) (by simp only[ba_size,List.length_append,List.length_cons,List.length_nil];omega) ?_
   refine bindS (c77 X hX c[i].z (by omega) (by omega)) ?_
   simp only[List.headD_cons,pv_p,toStr_str,ba_append]
   refine condP (p:=_≤_) (by simp only[ba_size,List.length_append,List.length_cons,List.length_nil];omega) ?_
   have:=ih (i+1) (acc++[32]++Lib.itoa c[i].x++[32]++Lib.itoa c[i].y++[32]++Lib.itoa c[i].z) (by omega) (by simp only[List.length_append,List.length_cons,List.length_nil];omega)
   rw[List.drop_eq_getElem_cons hlt,corW,spW,spW,spW]
   simp only[List.append_assoc,List.cons_append,List.nil_append]at this ⊢
   exact this
theorem c42 (s:Sh) (h:Shape s):run tab X 42 [.p (eS s)] []=some ([.p (.str (ba (textS s)))],[]):=by
 obtain⟨hl,hc,hh⟩:=h
 have h1:=headW_small ⟨hl,hc,hh⟩
 obtain⟨k,c,m,r,st,p⟩:=s
 simp only at hl hc hh
 have fin:∀ (w:List UInt8) (ws:List (List UInt8)) (acc:List UInt8),headW ⟨k,c,m,r,st,p⟩=w::ws→acc=w++spW ws→acc.length≤100→L tab (run tab X) 42 [] [.lp [1,1,1,1,1,0,1,0]] (S42_11111010 (ba acc) 0 k (encL c) m r st p)=some ([.p (.str (ba (textS ⟨k,c,m,r,st,p⟩)))],[]):=by
  intro w ws acc hw ha hle
  have:=l42 X hX k m r st p c hc hl c.length 0 acc (by omega) (by omega)
  rw[show textS ⟨k,c,m,r,st,p⟩=acc++spW (corW c) by
   unfold textS wordsS
   rw[hw,List.cons_append,joinC_sp,spW_append,ha,List.append_assoc]]
  exact this
 have hd:∀ n:Nat,(ba (Lib.itoa n)).size=(Lib.itoa n).length:=fun n=>rfl
 refine run_of (hX _ rfl) ?_
 rw[e42]
 rcases hh with ⟨rfl,hh⟩ | ⟨rfl,hh⟩ | ⟨rfl,hh⟩ | ⟨rfl,hh⟩ | ⟨rfl,hh⟩
 · exact fin (kw 1) [] (kw 1) rfl (by simp[spW]) (by decide)
 · have x1:(Lib.itoa m).length≤8:=itoa_len8 (by omega) (by omega)
   have e0:((kindL.getD (0+(2:Int).toNat) .nil).cell 0).toStr=ba (kw 2):=rfl
   have e9:(kw 2).length=4:=rfl
   rw[e0]
   simp only[show (leI (0:Int) 2&&ltI (2:Int) 6)=true from rfl,show ((2:Int)==2)=true from rfl,show ((2:Int)==4)=false from rfl,show (geI (2:Int) 4)=false from rfl,cond_true,cond_false]
   rw[show (⟨#[32]⟩:ByteArray)=ba [32] from rfl,ba_append]
   refine condP (p:=_≤_) (by simp only[ba_size,List.length_cons,List.length_nil];omega) ?_
   refine bindS (c77 X hX m (by omega) (by omega)) ?_
   simp only[List.headD_cons,pv_p,toStr_str,ba_append]
   refine condP (p:=_≤_) (by simp only[ba_size,List.length_append,List.length_cons,List.length_nil];omega) ?_
   exact fin (kw 2) [Lib.itoa m] _ rfl (by simp[spW]) (by simp only[List.length_append,List.length_cons,List.length_nil];omega)
 · have x1:(Lib.itoa m).length≤8:=itoa_len8 (by omega) (by omega)
   have e0:((kindL.getD (0+(3:Int).toNat) .nil).cell 0).toStr=ba (kw 3):=rfl
   have e9:(kw 3).length=4:=rfl
   rw[e0]
   simp only[show (leI (0:Int) 3&&ltI (3:Int) 6)=true from rfl,show ((3:Int)==2)=false from rfl,show ((3:Int)==3)=true from rfl,show ((3:Int)==4)=false from rfl,show (geI (3:Int) 4)=false from rfl,cond_true,cond_false]
   rw[show (⟨#[32]⟩:ByteArray)=ba [32] from rfl,ba_append]
   refine condP (p:=_≤_) (by simp only[ba_size,List.length_cons,List.length_nil];omega) ?_
   refine bindS (c77 X hX m (by omega) (by omega)) ?_
   simp only[List.headD_cons,pv_p,toStr_str,ba_append]
   refine condP (p:=_≤_) (by simp only[ba_size,List.length_append,List.length_cons,List.length_nil];omega) ?_
   exact fin (kw 3) [Lib.itoa m] _ rfl (by simp[spW]) (by simp only[List.length_append,List.length_cons,List.length_nil];omega)
 · have x1:(Lib.itoa r).length≤8:=itoa_len8 (by omega) (by omega)
   have x2:(Lib.itoa st).length≤8:=itoa_len8 (by omega) (by omega)
   have x3:=plB_len p
   have e0:((kindL.getD (0+(4:Int).toNat) .nil).cell 0).toStr=ba (kw 4):=rfl
   have e9:(kw 4).length=4:=rfl
   have ep:((planeL.getD (0+p.toNat) .nil).cell 0).toStr=ba (plB p):=by
    have h3:p=0∨p=1∨p=2:=by omega
    rcases h3 with rfl | rfl | rfl<;>rfl
   have hp:(leI (0:Int) p&&ltI p 3)=true:=by simp;omega
   rw[e0,ep]
   simp only[show (leI (0:Int) 4&&ltI (4:Int) 6)=true from rfl,show ((4:Int)==2)=false from rfl,show ((4:Int)==3)=false from rfl,show ((4:Int)==4)=true from rfl,show (geI (4:Int) 4)=true from rfl,hp,cond_true,cond_false]
   rw[show (⟨#[32]⟩:ByteArray)=ba [32] from rfl]
   simp only[ba_append]
   refine condP (p:=_≤_) (by simp only[ba_size,List.length_cons,List.length_nil];omega) ?_
   refine condP (p:=_≤_) (by simp only[ba_size,List.length_append,List.length_cons,List.length_nil];omega) ?_
   refine condP (p:=_≤_) (by simp only[ba_size,List.length_append,List.length_cons,List.length_nil];omega) ?_
   refine bindS (c77 X hX r (by omega) (by omega)) ?_
   simp only[List.headD_cons,pv_p,toStr_str,ba_append]
   refine condP (p:=_≤_) (by simp only[ba_size,List.length_append,List.length_cons,List.length_nil];omega) ?_
   refine condP (p:=_≤_) (by simp only[ba_size,List.length_append,List.length_cons,List.length_nil];omega) ?_
   refine bindS (c77 X hX st (by omega) (by omega)) ?_
   simp only[List.headD_cons,pv_p,toStr_str,ba_append]
   refine condP (p:=_≤_) (by simp only[ba_size,List.length_append,List.length_cons,List.length_nil];omega) ?_
   exact fin (kw 4) [plB p,Lib.itoa r,Lib.itoa st] _ rfl (by simp[spW]) (by simp only[List.length_append,List.length_cons,List.length_nil];omega)
 · have x1:(Lib.itoa r).length≤8:=itoa_len8 (by omega) (by omega)
   have x2:(Lib.itoa st).length≤8:=itoa_len8 (by omega) (by omega)
   have e0:((kindL.getD (0+(5:Int).toNat) .nil).cell 0).toStr=ba (kw 5):=rfl
   have e9:(kw 5).length=6:=rfl
   rw[e0]
   simp only[show (leI (0:Int) 5&&ltI (5:Int) 6)=true from rfl,show ((5:Int)==2)=false from rfl,show ((5:Int)==3)=false from rfl,show ((5:Int)==4)=false from rfl,show (geI (5:Int) 4)=true from rfl,cond_true,cond_false]
   rw[show (⟨#[32]⟩:ByteArray)=ba [32] from rfl]
   simp only[ba_append]
   refine condP (p:=_≤_) (by simp only[ba_size,List.length_cons,List.length_nil];omega) ?_
   refine bindS (c77 X hX r (by omega) (by omega)) ?_
   simp only[List.headD_cons,pv_p,toStr_str,ba_append]
   refine condP (p:=_≤_) (by simp only[ba_size,List.length_append,List.length_cons,List.length_nil];omega) ?_
   refine condP (p:=_≤_) (by simp only[ba_size,List.length_append,List.length_cons,List.length_nil];omega) ?_
   refine bindS (c77 X hX st (by omega) (by omega)) ?_
   simp only[List.headD_cons,pv_p,toStr_str,ba_append]
   refine condP (p:=_≤_) (by simp only[ba_size,List.length_append,List.length_cons,List.length_nil];omega) ?_
   exact fin (kw 5) [Lib.itoa r,Lib.itoa st] _ rfl (by simp[spW]) (by simp only[List.length_append,List.length_cons,List.length_nil];omega)
end
end Go.Skm.Fig

