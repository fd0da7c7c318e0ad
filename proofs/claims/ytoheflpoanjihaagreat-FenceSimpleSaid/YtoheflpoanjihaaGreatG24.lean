import Derived.Test.YtoheflpoanjihaaGreatF10
import Derived.Test.YtoheflpoanjihaaGreatG22
set_option maxRecDepth 100000
namespace Go.Skm.Fen
open Go Go.Skm Go.Proofs Go.RowKit Go.Lib Go.Sort
theorem run_seq {P:Program} {T:Tab} (ok:dZ P T) {X:Ext} {gl:Option (List (Nat × Obj))} (hX:sF P T gl X):IW P T gl (run T X):=by intro g fi caps r hf hp h;obtain⟨n,hn⟩:=xC h;exact(kY ok hX n).2 g fi caps r hf hp hn
theorem agB (t:TypeId) (n:Nat) (h:(Tryz.prog.info? t).map (fun i=>(i.zero.map (fun z:Value=>z.cells.size),i.size,decide (i.bytes≤1000)))=some (some n,n,true)):∃ i0 z,Tryz.prog.info? t=some i0∧i0.zero=some z∧i0.size=n∧z.cells.size=n∧i0.bytes≤1000:=by
 cases hi:Tryz.prog.info? t with
 | none=>rw[hi]at h;cases h
 | some i =>
  rw[hi]at h;cases hz:i.zero with
  | none=>rw[Option.map_some,hz]at h;cases h
  | some z =>rw[Option.map_some,hz]at h;simp only[Option.map_some,qOa,Prod.mk.injEq,qDa]at h;exact⟨i,z,rfl,hz,h.2.1,h.1,h.2.2⟩
theorem aix:U0 Tryz.prog tab Tryz.FB 88 ag3 22 26 true aW:=⟨Tryz.Y0,rfl,by kernel_rfl,⟨_,rfl⟩,rfl,by kernel_rfl,by kernel_rfl,by kernel_rfl,agB 26 3 (by kernel_rfl),by decide,fun w=>Tryz.sizeOf26 w⟩
theorem aiy:U0 Tryz.prog tab Tryz.FC 193 adu 140 143 false kU:=⟨Tryz.Y1,rfl,by kernel_rfl,⟨_,rfl⟩,rfl,by kernel_rfl,by kernel_rfl,by kernel_rfl,agB 143 1 (by kernel_rfl),by decide,fun w=>Tryz.sizeOf143 w⟩
theorem TF {a:Bool} {ks:List Kd} {xs:List PV} (h:xs.length≤100000):Jh a ks [.p (.list a ks xs)] []=some ([.fresh a ks xs],[]):=by
 unfold Jh;have hk:Kd.BQ ks ks=true:=by simpa using Kd.pG ks
 simp[hk,h]
def aaz:Ext:=II [(88,Jh true aW)]
theorem adv:Mine aaz:=by
 intro f h;simp only[ag4,Bool.or_eq_false_iff]at h;obtain⟨_,_,h3,_⟩:=h;unfold aaz II;have:(88==f)=false:=by rw[beq_eq_false_iff_ne]at h3 ⊢;exact fun e=>h3 e.symm
 simp only[dN,this,cond_false]
theorem abB:U1 aaz:=⟨fun l hl=>OM (fi:=ag3) (by kernel_rfl) rfl (TF (by simp[dh];omega))⟩
theorem aaA {gl:Option (List (Nat × Obj))} (hne:gl≠none):sF Tryz.prog tab gl aaz:=Ee (by kernel_rfl) (FD hne aix rfl) YZ
theorem adw {a b:V3} (h:dn a=dn b):a=b:=by unfold dn at h;simp only[PV.agg.injEq,List.cons.injEq,PV.int.injEq,true_and,and_true]at h;obtain⟨h1,h2,h3⟩:=h;cases a;cases b;simp_all
theorem W9 {l m:List V3} (h:dh l=dh m):l=m:=List.map_inj_right (fun _ _=>adw) |>.1 h
theorem abC {l m:List (List V3)} (h:fB l=fB m):l=m:=List.map_inj_right (f:=fun h=>PV.list true aW (dh h)) (fun a b e=>W9 (by simpa using e)) |>.1 h
theorem adx {f g:Fen} (h:FH f=FH g):f=g:=by simp only[FH,List.cons.injEq,PV.list.injEq,PV.int.injEq,true_and,and_true]at h;obtain⟨h1,h2,h3,h4⟩:=h;have e1:=W9 h1;have e2:=abC h2;cases f;cases g;simp_all
noncomputable def O9:EW:=fun args bl=>open Classical in if h:∃ f:Fen,Dh f∧args=[.vN,.p (.ref (FH f))]∧bl=[.log true []] then some ([],[.log true ((uf h.choose).map eY)]) else none
theorem abD (f:Fen) (hf:Dh f):O9 [.vN,.p (.ref (FH f))] [.log true []]=some ([],[.log true ((uf f).map eY)]):=by
 unfold O9;have h:∃ g:Fen,Dh g∧([.vN,.p (.ref (FH f))]:List AV)=[.vN,.p (.ref (FH g))]∧([.log true []]:List cu)=[.log true []]:=⟨f,hf,rfl,rfl⟩;rw[dif_pos h];have hc:FH f=FH h.choose:=by
  have h0:=h.choose_spec.2.1;injection h0 with _ h1
  injection h1 with h2 _
  injection h2 with h3
  injection h3
 have e:h.choose=f:=(adx hc).symm;rw[e]
theorem Y2 {gl:Option (List (Nat × Obj))} (hne:gl≠none):Y3 Tryz.prog tab gl 87 O9:=by
 intro fi args bl r hfi h;unfold O9 at h;split at h
 · next hx =>
   obtain⟨h1,h2,h3⟩:=hx.choose_spec;cases h;refine⟨[.ref (FH hx.choose)],h2,h3,?_,?_⟩
   · have : fi = qw := by
       have e:dN tab.funcs 87=some qw:=by kernel_rfl
       rw[e]at hfi;exact(Option.some.inj hfi).symm
     rw[this];exact Tryz.func87
   · exact ag5 adv abB (LH JQ (aaA hne)) (run_seq JQ (aaA hne)) hx.choose h1
 · cases h
end Go.Skm.Fen
set_option maxRecDepth 100000
namespace Go.Skm.Fen
open Go Go.Skm Go.Proofs Go.RowKit Go.Lib Go.Sort
theorem afm {x y:Rt} (h:sG x=sG y):x=y:=by have h1:=U2 x y;rw[h]at h1;have h2:=U2 y y;rw[h1]at h2;exact of_decide_eq_true (h2.trans (decide_eq_true rfl))
instance:Inhabited Vr:=⟨⟨⟨0,1⟩,by decide +kernel⟩⟩
noncomputable def afn (p:PV):Option Vr:=open Classical in if h:∃ x:Vr,p=sG x.1 then some h.choose else none
noncomputable def TG:SortEnc Vr where
 ks:=kR
 pc x:=[.bool (decide (x.1.n<0)),.str (rQ x.1.n.natAbs),.bool (decide (x.1.d<0)),.str (rQ x.1.d.natAbs)]
 dec:=afn
 len _:=rfl
 flat x c hc:=by
  simp only[List.mem_cons,List.not_mem_nil,or_false]at hc
  rcases hc with rfl | rfl | rfl | rfl<;>rfl
 kinds _:=rfl
 enc_dec x:=by
  have h:∃ y:Vr,sG x.1=sG y.1:=⟨x,rfl⟩
  show afn (sG x.1)=some x
  unfold afn
  rw[dif_pos h]
  exact congrArg some (Subtype.ext (afm h.choose_spec.symm))
 dec_enc p x h:=by
  unfold afn at h
  split at h
  · next hx =>
    cases h
    exact hx.choose_spec
  · cases h
def cfR (x y:Vr):Int:=(x.1.n*y.1.d-y.1.n*x.1.d).sign
theorem U3 (x y:Vr):ltOf cfR x y=decide (Y4 x.1 y.1):=by unfold ltOf cfR Y4;apply decide_eq_decide.2;rw[Int.sign_neg_iff];omega
theorem ag7:SWO (ltOf cfR):=by
 have hd:∀ x:Vr,0<x.1.d:=fun x=>x.2.2.2;refine⟨fun x=>?_,fun x y z h1 h2=>?_,fun x y z h1 h2=>?_⟩
 · rw[U3,decide_eq_false_iff_not];unfold Y4;omega
 · rw[U3,qDa]at h1 h2 ⊢;apply Decidable.byContradiction;intro hc;have h3:¬ Y4 y.1 x.1:=by unfold Y4 at h1 ⊢;omega
   exact LJ (hd z) (hd x) (hd y) hc h3 h2
 · rw[U3,decide_eq_false_iff_not]at h1 h2 ⊢;exact LJ (hd z) (hd y) (hd x) h2 h1
theorem aaB:Mine (II []):=fun _ _=>rfl
theorem Y5 {gl:Option (List (Nat × Obj))} (hne:gl≠none):Pg Tryz.prog tab gl 74 (LK TG cfR 73) :=
 SI hne Tryz.laysSort TG (by decide) (fun w=>Tryz.isAgg45 w) (fun w=>Tryz.sizeOf45 w) ag7 (enters_of Tryz.func73 (by kernel_rfl) rfl)
  (fun w x y=>abE JQ YZ (fi:=aiz) (by kernel_rfl) rfl (t:=3) rfl TG (c73 (II []) aaB (words aaB rfl rfl) x.1 y.1 x.2 y.2) w)
  (fi:=ag8) rfl (by kernel_rfl) rfl rfl rfl
noncomputable def Xa:Ext:=II [(74,LK TG cfR 73),(87,O9),(88,Jh true aW),(193,Jh false kU)]
theorem afo {f n:Nat} (hn:(f==n)=false):(n==f)=false:=by rw[beq_eq_false_iff_ne]at hn ⊢;exact fun e=>hn e.symm
theorem aaC:Mine Xa:=by intro f h;simp only[ag4,Bool.or_eq_false_iff]at h;obtain⟨h1,h2,h3,h4,h5,h6⟩:=h;unfold Xa II;simp only[dN,afo h1,afo h2,afo h3,afo h6,cond_false]
theorem ag9 {gl:Option (List (Nat × Obj))} (hne:gl≠none):sF Tryz.prog tab gl Xa :=
 Ee (by kernel_rfl) (Y5 hne) (Xb (by kernel_rfl) (Y2 hne) (Ee (by kernel_rfl) (FD hne aix rfl) (Ee (by kernel_rfl) (FD hne aiy rfl) YZ)))
theorem ady:Words Xa:=words aaC rfl rfl
theorem afp:Bits Xa:=⟨ady,fun l hl=>OM (fi:=adu) (by kernel_rfl) rfl (TF (by simpa [bP] using hl))⟩
theorem adz:TJ Xa:=⟨fun f hf=>OM (fi:=qw) (by kernel_rfl) rfl (abD f hf)⟩
theorem aaD (l:List Vr):TG.encs l=Xc l:=by unfold SortEnc.encs Xc encR;rw[List.map_map];rfl
theorem adA : Sorts Xa := ⟨fun l hl => ⟨Ph cfR l,(LM ag7 l).1,by
    unfold Srt;rw[List.pairwise_map];exact(LM ag7 l).2.imp fun {a b} h=>by rw[U3,decide_eq_false_iff_not]at h;exact h,by
    refine OM (fi:=ag8) (by kernel_rfl) rfl ?_;have:=abG TG cfR 73 l hl (by rfl);rwa[aaD,aaD]at this⟩⟩
end Go.Skm.Fen
namespace Go.Skm.Fen
open Go Go.Skm
structure Num (r:Rt):Prop where
 cn:Cn r
 bn:Lt2 46 r.n
 bd:Lt2 46 r.d
 lo:0≤r.n
 hi:r.n≤r.d
theorem Num.ok {r:Rt} (h:Num r):r.ok:=⟨h.bn.okW (by omega),h.bd.okW (by omega),h.cn.1⟩
theorem anN:Num ⟨0,1⟩:=⟨⟨by decide,by decide⟩,by unfold Lt2;decide,by unfold Lt2;decide,by decide,by decide⟩
theorem num1:Num ⟨1,1⟩:=⟨⟨by decide,by decide⟩,by unfold Lt2;decide,by unfold Lt2;decide,by decide,by decide⟩
theorem Vz {a b:Int} {k:Nat} (ha:Lt2 k a) (hb:Lt2 k b):Lt2 k (low a b).n∧Lt2 k (low a b).d:=⟨Nat.lt_of_le_of_lt (XA a b) ha,Nat.lt_of_le_of_lt (XB a b) hb⟩
theorem ad5 {z:Int} (h:I43 z):Lt2 46 z:=by unfold I43 at h;exact zL (n:=35184372088832) (by omega) (by decide)
theorem ad6 {l:List Rt} {p:Int × Int} (hl:∀ r∈l,Num r) (hp:I43 p.1∧I43 p.2∧p.2≠0):∀ r∈Qj l p,Num r:=by
 intro r hr;rcases ad1 hr with h | ⟨rfl,h1,h2⟩
 · exact hl r h
 · obtain⟨b1,b2⟩:=Vz (ad5 hp.1) (ad5 hp.2.1);exact⟨aht hp.2.2,b1,b2,h1,h2⟩
theorem Uc:∀ (ps:List (Int × Int)) {l:List Rt},(∀ r∈l,Num r)→(∀ p∈ps,I43 p.1∧I43 p.2∧p.2≠0)→(∀ r∈vX l ps,Num r)∧(vX l ps).length≤l.length+ps.length
 | [],l,hl,_=>⟨hl,by simp[vX]⟩
 | p::ps,l,hl,hp=>by obtain⟨i1,i2⟩:=Uc ps (ad6 hl (hp p (by simp))) fun q hq=>hp q (by simp[hq]);refine⟨i1,?_⟩;have:=XE l p;rw[List.length_cons];exact Nat.le_trans i2 (by omega)
def Kv (s t:Rt):Rt:=low (s.n*t.d+t.n*s.d) (s.d*t.d)
def qm (s t:Rt):Rt:=low ((Kv s t).n*1) ((Kv s t).d*2)
def uj (x0 x1:Int) (t:Rt):Int:=(x1-x0)*t.n+x0*t.d
def agL (f:Fen) (a b:V3) (t:Rt):Bool:=inQ f (uj a.x b.x t*t.d) (uj a.y b.y t*t.d) (t.d*t.d)
def FZ (f:Fen) (a b:V3):List Rt→Bool
 | s::t::r=>agL f a b (qm s t)&&FZ f a b (t::r)
 | _=>true
def numsL (f:Fen) (a b:V3):List Rt:=Qn (IU (XH a b [⟨0,1⟩,⟨1,1⟩] (o7 f)))
def MB (f:Fen) (a b:V3):Bool × Int :=
 if lV f then(if vO 1048576 a then(if vO 1048576 b then(if Ew f a then(if Ew f b then(if a.x=b.x∧a.y=b.y then(true,0) else(FZ f a b (numsL f a b),0)) else(false,0)) else(false,0)) else(false,2)) else(false,2)) else(false,2)
theorem Zp:∀ {l:List Rt} {x y:Rt},y∈Qm x l→y∈l
 | [],_,_,h=>by simp[Qm]at h
 | z::r,x,y,h=>by
  unfold Qm at h;split at h
  · exact List.mem_cons_of_mem _ (Zp h)
  · rcases List.mem_cons.1 h with rfl | h
    · simp
    · exact List.mem_cons_of_mem _ (Zp h)
theorem afN {l:List Rt} {y:Rt} (h:y∈Qn l):y∈l:=by
 cases l with
 | nil=>simp[Qn]at h
 | cons x r =>
  rcases List.mem_cons.1 h with rfl | h
  · simp
  · exact List.mem_cons_of_mem _ (Zp h)
theorem afO (l:List Rt):(Qn l).length≤l.length:=by
 cases l with
 | nil=>simp[Qn]
 | cons x r=>have:=afM x r;simp only[Qn,List.length_cons];omega
theorem Kw (l:List Rt):(IU l).length=l.length:=(H8 l).length_eq
theorem sum_lt {s t:Rt} (hs:Num s) (ht:Num t):Lt2 93 (s.n*t.d+t.n*s.d)∧Lt2 93 (s.d*t.d)∧0<s.d*t.d :=
 ⟨((hs.bn.mul ht.bd).add (ht.bn.mul hs.bd)).mono (by omega),(hs.bd.mul ht.bd).mono (by omega),Int.mul_pos hs.cn.1 ht.cn.1⟩
theorem aaY:Lt2 2 2:=by unfold Lt2;decide
theorem aaZ:Lt2 1 1:=by unfold Lt2;decide
theorem ahu {s t:Rt} (hs:Num s) (ht:Num t):Lt2 100 (qm s t).n∧Lt2 100 (qm s t).d∧0<(qm s t).d∧Lt2 93 (Kv s t).n∧Lt2 93 (Kv s t).d∧0<(Kv s t).d:=by obtain⟨h1,h2,h3⟩:=sum_lt hs ht;obtain⟨k1,k2⟩:=Vz h1 h2;have k3:0<(Kv s t).d:=Kt (by omega);have n1:Lt2 100 ((Kv s t).n*1):=(Lt2.mul k1 aaZ).mono (by omega);have n2:Lt2 100 ((Kv s t).d*2):=(Lt2.mul k2 aaY).mono (by omega);obtain⟨m1,m2⟩:=Vz n1 n2;exact⟨m1,m2,Kt (by omega),k1,k2,k3⟩
section
variable (X:Ext) (hX:Mine X)
include hX
variable (hB:Bits X)
include hB
theorem c76 (x0 x1:Int) (h0:Lt2 25 x0) (h1:Lt2 25 x1) (t:Rt) (hn:Lt2 100 t.n) (hd:Lt2 100 t.d):run tab X 76 [.p (.int .i64 x0),.p (.int .i64 (x1-x0)),.p (sG t),.p pZ] []=some ([.p (eR (uj x0 x1 t) t.d)],[]) :=
 bF (hX _ rfl) (by
  have hw:Lt2 26 (x1-x0):=h1.sub h0;have m1:Lt2 200 ((x1-x0)*t.n):=(hw.mul hn).mono (by omega);have m2:Lt2 200 (x0*t.d):=(h0.mul hd).mono (by omega);have q1:=c77 X hX hB (x1-x0) t.n (hw.okW (by omega)) (hn.okW (by omega)) (m1.okW (by omega));have q2:=c77 X hX hB x0 t.d (h0.okW (by omega)) (hd.okW (by omega)) (m2.okW (by omega));have q3:=c79 X hX hB ((x1-x0)*t.n) (x0*t.d) (m1.okW (by omega)) (m2.okW (by omega));rw[FV,if_pos ((m1.add m2).okW (by omega))]at q3;have b1:-9223372036854775808≤x1-x0∧x1-x0≤9223372036854775807:=by unfold Lt2 at hw;omega
  have b2:-9223372036854775808≤x0∧x0≤9223372036854775807:=by unfold Lt2 at h0;omega
  rw[sG,eR,e76,YW X hX hB _ b1.1 b1.2,Option.bind_some];simp only[List.headD_cons,dA,jg];show (run tab X 77 [.p pZ,.p (eW (x1-x0)),.p (eW t.n)] []).bind _=_;rw[q1,Option.bind_some,YW X hX hB _ b2.1 b2.2,Option.bind_some];simp only[List.headD_cons,dA,jg];show (run tab X 77 [.p pZ,.p (eW x0),.p (eW t.d)] []).bind _=_;rw[q2,Option.bind_some];simp only[List.headD_cons,dA,jg];rw[q3,Option.bind_some];simp only[List.headD_cons,List.tail_cons,dA,jg,toInt_int];rw[c78 X hX,Option.bind_some];rfl)
abbrev w28:List Wy:=[.lp [1,1,1,1,1,1,1,1,1,1,1,1,0,1,0]]
abbrev S28 (f:Fen) (a b:V3) (i:Nat) (n:Nat) (buf:List PV):St:=lg (i:Int) (dh f.outer) (fB f.holes) f.low f.high a.x a.y a.z b.x b.y b.z (decide ((1:Int)<0)) (rQ (1:Int).natAbs) 0 n buf 0
theorem l28b (f : Fen) (hf : RdF f) (a b : V3) (ha : qR a) (hb : qR b) (D : List Rt) (hD : ∀ r ∈ D,Num r) (hDl : D.length ≤ 1000000) (buf : List PV) (hbuf : buf.take D.length = encR D) : ∀ (r : List Rt) (i : Nat),D.drop i = r → i < D.length →
    L tab (run tab X) 28 [] w28 (S28 f a b (i+1) D.length buf)=some (OC (FZ f a b r,0),[]):=by
  have get:∀ i,i<D.length→buf.getD i .nil=sG (gr D i):=fun i hi=>by rw[← wJ D hi];refine ad4 ?_ hi _;rw[hbuf,← DI,List.take_length]
  have ajt:∀ i,i<D.length→Num (gr D i):=fun i hi=>hD _ (by rw[gr,qLb,qLd hi];exact List.getElem_mem hi);intro r;induction r with
  | nil =>intro i hr hi;have:=congrArg List.length hr;simp at this;omega
  | cons s r ih =>
   intro i hr hi;have hs:gr D i=s:=by show D.getD i ⟨0,0⟩=s;rw[qLb,← List.head?_drop,hr];rfl
   have hnext:D.drop (i+1)=r:=by rw[← List.tail_drop,hr];rfl
   cases r with
   | nil =>
    have hil:D.length=i+1:=by have:=congrArg List.length hnext;simp at this;omega
    refine dW ?_;rw[vk,SQ (by omega),cond_false];rfl
   | cons t r' =>
    have hil:i+1<D.length:=by have:=congrArg List.length hnext;simp at this;omega
    have ht:gr D (i+1)=t:=by show D.getD (i+1) ⟨0,0⟩=t;rw[qLb,← List.head?_drop,hnext];rfl
    have ns:=hs▸ajt i hi;have nt:=ht▸ajt (i+1) hil;have w1:IntKind.i64.wrap (((i+1:Nat):Int)-1)=(i:Int):=by rw[wrap_eq (by omega) (by omega)];omega
    obtain⟨o1,o2,o3⟩:=sum_lt ns nt;obtain⟨m1,m2,m3,k1,k2,k3⟩:=ahu ns nt;have q1:=c80 X hX hB s.n s.d t.n t.d ns.ok nt.ok;rw[Ku (o1.okW (by omega)) (o2.okW (by omega)) (by omega)]at q1;have half:okR 1 2:=⟨wI (by decide),wI (by decide),by decide⟩;have sok:okR (Kv s t).n (Kv s t).d:=⟨k1.okW (by omega),k2.okW (by omega),k3⟩;have q2:=c81 X hX hB (Kv s t).n (Kv s t).d 1 2 sok half;rw[Ku ((Lt2.mul k1 aaZ).okW (by omega)) ((Lt2.mul k2 aaY).okW (by omega)) (by omega)]at q2;obtain⟨ax,ay⟩:=DF ha.up;obtain⟨bx,by'⟩:=DF hb.up;have q3:=c76 X hX hB a.x b.x ax bx (qm s t) m1 m2;have q4:=c76 X hX hB a.y b.y ay by' (qm s t) m1 m2
    obtain⟨dx,dy⟩:=Xu ha.up hb.up;have a1:Lt2 130 (uj a.x b.x (qm s t)):=((dx.mul m1).add ((ax.mul m2).mono (by omega))).mono (by omega);have a2:Lt2 130 (uj a.y b.y (qm s t)):=((dy.mul m1).add ((ay.mul m2).mono (by omega))).mono (by omega);have p1:Lt2 20000 (uj a.x b.x (qm s t)*(qm s t).d):=(a1.mul m2).mono (by omega);have p2:Lt2 20000 (uj a.y b.y (qm s t)*(qm s t).d):=(a2.mul m2).mono (by omega);have p3:Lt2 20000 ((qm s t).d*(qm s t).d):=(m2.mul m2).mono (by omega);have q5:=c63 X hX hB (uj a.x b.x (qm s t)) (qm s t).d (uj a.y b.y (qm s t)) (qm s t).d (a1.okW (by omega)) (m2.okW (by omega)) (a2.okW (by omega)) (m2.okW (by omega)) (p1.okW (by omega)) (p2.okW (by omega)) (p3.okW (by omega));have q6:=anC X hX hB f hf _ _ _ ⟨p1,p2,p3,Int.mul_pos m3 m3⟩;rw[mF]at q6;have dX:IntKind.i64.wrap (b.x-a.x)=b.x-a.x:=by unfold Lt2 at dx;exact wrap_eq (by omega) (by omega)
    have dY:IntKind.i64.wrap (b.y-a.y)=b.y-a.y:=by unfold Lt2 at dy;exact wrap_eq (by omega) (by omega)
    have g1:dG ((i:Nat):Int) (D.length:Int)=true:=Hw hi;have g2:dG ((i+1:Nat):Int) (D.length:Int)=true:=Hw hil;refine dW ?_;rw[vk,g2,cond_true,w1];simp only[le0,g1,g2,Bool.and_self,cond_true,Int.toNat_natCast,Nat.zero_add,get i hi,get (i+1) hil,hs,ht,lW (show i+1≤9000000000000000000 by omega),dX,dY];show (run tab X 80 [.p (eR s.n s.d),.p (eR t.n t.d)] []).bind _=_;rw[q1,Option.bind_some,YW X hX hB 2 (by omega) (by omega),Option.bind_some];show (run tab X 81 [.p (eR (Kv s t).n (Kv s t).d),.p (eR 1 2)] []).bind _=_;rw[q2,Option.bind_some];show (run tab X 76 [.p (.int .i64 a.x),.p (.int .i64 (b.x-a.x)),.p (sG (qm s t)),.p pZ] []).bind _=_;rw[q3,Option.bind_some];show (run tab X 76 [.p (.int .i64 a.y),.p (.int .i64 (b.y-a.y)),.p (sG (qm s t)),.p pZ] []).bind _=_;rw[q4,Option.bind_some];show (run tab X 63 [.p pZ,.p (eR (uj a.x b.x (qm s t)) (qm s t).d),.p (eR (uj a.y b.y (qm s t)) (qm s t).d)] []).bind _=_;rw[q5,Option.bind_some];show (run tab X 64 [_,.p (.fn 82 [pZ,.ref (Xv (uj a.x b.x (qm s t)*(qm s t).d) (uj a.y b.y (qm s t)*(qm s t).d) ((qm s t).d*(qm s t).d))])] []).bind _=_;rw[q6,Option.bind_some];simp only[List.headD_cons,dA,bD];have Ba:=ih (i+1) hnext hil;rw[FZ];unfold agL;cases inQ f (uj a.x b.x (qm s t)*(qm s t).d) (uj a.y b.y (qm s t)*(qm s t).d) ((qm s t).d*(qm s t).d) with
    | false=>rfl
    | true =>rw[Bool.not_true,cond_false,Bool.true_and];exact Ba
end
end Go.Skm.Fen
namespace Go.Skm.Fen
open Go Go.Skm
theorem Zq (a b:V3) (l:List Rt) (e:AX) (es:List AX):XH a b l (e::es)=XH a b (vX l (BD a b e.1 e.2)) es:=rfl
theorem ad7 {l:List Rt} (h:∀ r∈l,Num r):∀ r∈IU l,Num r:=fun r hr=>h r ((H8 l).mem_iff.1 hr)
theorem afP {l:List Rt} (h:∀ r∈l,Num r):∀ r∈Qn l,Num r:=fun r hr=>h r (afN hr)
theorem ahv {l:List Rt} (h:l≠[]):0<(Qn l).length:=by
 cases l with
 | nil=>exact absurd rfl h
 | cons x r=>simp[Qn]
abbrev XK (ys:List PV):List Wy:=[.rg [1,1,1,1,1,1,0,1,0] [(true,aW),(true,aW)] ys]
abbrev afQ (f:Fen) (a b:V3) (n:Nat) (buf:List PV):St:=nZ (dh f.outer) (fB f.holes) f.low f.high (dh f.outer) (fB f.holes) f.low f.high a.x a.y a.z b.x b.y b.z (decide ((1:Int)<0)) (rQ (1:Int).natAbs) 0 n buf
abbrev aju (f:Fen) (a b:V3) (n:Nat) (buf:List PV):St:=xg (dh f.outer) (fB f.holes) f.low f.high (dh f.outer) (fB f.holes) f.low f.high a.x a.y a.z b.x b.y b.z (decide ((1:Int)<0)) (rQ (1:Int).natAbs) buf 0 n
section
variable (X:Ext) (hX:Mine X)
include hX
variable (hB:Bits X) (hE:TJ X) (hS:Sorts X)
include hB hS
theorem c74 (l:List Rt) (hl:∀ r∈l,Num r) (hn:l.length≤100000):run tab X 74 [.slice 100000 4 0 l.length,.p (.fn 73 [])] [.arr true kR (encR l)]=some ([],[.arr true kR (encR (IU l))]):=by
 have _:=hX;have _:=hB;let vs:List Vr:=l.attach.map fun x=>⟨x.1,(hl x.1 x.2).ok⟩;have e1:vs.map (·.1)=l:=by show (l.attach.map fun x=>(⟨x.1,(hl x.1 x.2).ok⟩:Vr)).map (·.1)=l;rw[List.map_map];exact List.attach_map_subtype_val l
 have e2:vs.length=l.length:=by have:=congrArg List.length e1;rwa[List.length_map]at this
 obtain⟨m,m1,m2,m3⟩:=hS.s vs (by omega);have e3:m.map (·.1)=IU l:=by
  have hp:(m.map (·.1)).Perm l:=by have:=m1.map (·.1);rwa[e1]at this
  refine Ql (hp.trans (H8 l).symm) m2 (ad3 fun y hy=>(hl y hy).cn.1) fun x hx=>(hl x (hp.mem_iff.1 hx)).cn
 unfold Xc at m3;rw[e1,e3,e2]at m3;exact m3
theorem n28 (f : Fen) (hf : RdF f) (a b : V3) (ha : qR a) (hb : qR b) (l : List Rt) (hl : ∀ r ∈ l,Num r) (hn : l.length ≤ 100000) (h0 : l ≠ []) :
    L tab (run tab X) 28 [] (XK []) (afQ f a b l.length (encR l))=some (OC (FZ f a b (Qn (IU l)),0),[]):=by
  rw[FP,c74 X hX hB hS l hl hn,Option.bind_some];obtain⟨b',i1,i2⟩:=c75 X hX (IU l) (by rw[Kw];omega);rw[Kw]at i1;show (run tab X 75 [.slice 100000 4 0 l.length] [.arr true kR (encR (IU l))]).bind _=_;rw[i1,Option.bind_some];have hne:IU l≠[]:=fun h=>by have:=Kw l;rw[h]at this;exact h0 (List.eq_nil_of_length_eq_zero this.symm)
  exact l28b X hX hB f hf a b ha hb (Qn (IU l)) (afP (ad7 hl)) (by have:=afO (IU l);rw[Kw]at this;omega) b' i2 (Qn (IU l)) 0 rfl (ahv hne)
theorem l28a (f : Fen) (hf : RdF f) (a b : V3) (ha : qR a) (hb : qR b) (hab : ¬ (a.x = b.x ∧ a.y = b.y)) : ∀ (es : List AX) (l : List Rt),(∀ e ∈ es,qR e.1 ∧ qR e.2) → (∀ r ∈ l,Num r) → l ≠ [] → l.length + 2 * es.length ≤ 100000 →
    L tab (run tab X) 28 [] (XK (es.map eY)) (afQ f a b l.length (encR l))=some (OC (FZ f a b (Qn (IU (XH a b l es))),0),[]):=by
  intro es;induction es with
  | nil =>intro l _ hl h0 hn;exact n28 X hX hB hS f hf a b ha hb l hl (by simp at hn;omega) h0
  | cons e r ih =>
   intro l hok hl h0 hn;obtain⟨hc,hd⟩:=hok e (by simp);simp only[List.length_cons]at hn;have q:=c72 X hX hB l (by omega) a b e.1 e.2 ha hb hc hd hab;simp only[dn]at q;obtain⟨k1,k2⟩:=XG ha hb hc hd hab;obtain⟨i1,i2⟩:=Uc (BD a b e.1 e.2) hl k2;rw[List.map_cons,Zq];show L tab (run tab X) 28 [] (XK (.agg [.agg [.int .i64 e.1.x,.int .i64 e.1.y,.int .i64 e.1.z],.agg [.int .i64 e.2.x,.int .i64 e.2.y,.int .i64 e.2.z]]::r.map eY)) (afQ f a b l.length (encR l))=_;rw[vW,q,Option.bind_some];have hge:l.length≤(vX l (BD a b e.1 e.2)).length:=by
    have key:∀ (ps:List (Int × Int)) (l:List Rt),l.length≤(vX l ps).length:=by
     intro ps;induction ps with
     | nil=>intro l;exact Nat.le_refl _
     | cons p ps ih =>
      intro l;refine Nat.le_trans ?_ (ih (Qj l p));unfold Qj;split
      · simp
      · exact Nat.le_refl _
    exact key _ _
   have hne:vX l (BD a b e.1 e.2)≠[]:=fun h=>by rw[h]at hge;exact h0 (List.eq_nil_of_length_eq_zero (by simpa using hge))
   have Ba:=ih (vX l (BD a b e.1 e.2)) (fun e' he'=>hok e' (by simp[he'])) i1 hne (by omega);show L tab (run tab X) 28 [] (XK (r.map eY)) (afQ f a b (encR (vX l (BD a b e.1 e.2))).length (encR (vX l (BD a b e.1 e.2))))=_;rw[DI];exact Ba
theorem anO (f : Fen) (hf : RdF f) (a b : V3) (ha : qR a) (hb : qR b) (hab : ¬ (a.x = b.x ∧ a.y = b.y)) (es : List AX) (l : List Rt) (hes : es ≠ []) (hok : ∀ e ∈ es,qR e.1 ∧ qR e.2) (hl : ∀ r ∈ l,Num r) (h0 : l ≠ []) (hn : l.length + 2 * es.length ≤ 100000) :
    L tab (run tab X) 28 [] (XK (es.map eY)) (aju f a b l.length (encR l))=some (OC (FZ f a b (Qn (IU (XH a b l es))),0),[]):=by
  cases es with
  | nil=>exact absurd rfl hes
  | cons e r =>have key:=l28a X hX hB hS f hf a b ha hb hab (e::r) l hok hl h0 hn;rw[List.map_cons]at key ⊢;have e1:∀ ys:List PV,XK (eY e::ys)=XK (.agg [.agg [.int .i64 e.1.x,.int .i64 e.1.y,.int .i64 e.1.z],.agg [.int .i64 e.2.x,.int .i64 e.2.y,.int .i64 e.2.z]]::ys):=fun _=>rfl;rw[e1]at key ⊢;rw[vW]at key;rw[Jj];exact key
include hE
theorem acn {f:Fen} (h:lV f=true):o7 f≠[]:=by have _:=hX;have _:=hB;have _:=hE;have _:=hS;have h1:=(Ah h).1;have b:=(ru (b:=true) h1).2;have c:=(mG h1).1;intro he;have:=congrArg List.length he;unfold o7 at this;rw[List.length_append,uJ,b,List.length_nil]at this;omega
theorem c28 (f:Fen) (hf:Dh f) (a b:V3):run tab X 28 [.p (mF f),.p (dn a),.p (dn b)] []=some (OC (MB f a b),[]) :=
 bF (hX _ rfl) (by
  have h1:=c18 X hX f hf;have h2:=c40 X hX a;have h3:=c40 X hX b;have h31:=c31 X hX f;have h87:=hE.e f hf;rw[mF]at h1 h31;rw[dn]at h2 h3;rw[mF,dn,dn,e28,h1,Option.bind_some];simp only[List.headD_cons,dA,bD];unfold MB;cases hv:lV f with
  | false=>rfl
  | true =>
   obtain⟨hR,_⟩:=zK hv;rw[Bool.not_true,cond_false,h2,Option.bind_some,if_pos rfl];simp only[List.headD_cons,dA,bD];cases ha:vO 1048576 a with
   | false=>rfl
   | true =>
    rw[Bool.not_true,cond_false,h3,Option.bind_some,if_pos rfl];simp only[List.headD_cons,dA,bD];cases hb:vO 1048576 b with
    | false=>rfl
    | true =>
     have pa:=Cc.1 ha;have pb:=Cc.1 hb;have h4:=c55 X hX f hR a (pa.mono (by decide));have h5:=c55 X hX f hR b (pb.mono (by decide));rw[mF,dn]at h4 h5;rw[Bool.not_true,cond_false,h4,Option.bind_some,if_pos rfl];simp only[List.headD_cons,dA,bD];cases hia:Ew f a with
     | false=>rfl
     | true =>
      rw[Bool.not_true,cond_false,h5,Option.bind_some,if_pos rfl];simp only[List.headD_cons,dA,bD];cases hib:Ew f b with
      | false=>rfl
      | true =>
       rw[Bool.not_true,cond_false,if_pos rfl];have fin:¬ (a.x=b.x∧a.y=b.y)→L tab (run tab X) 28 [] (XK ((o7 f).map eY)) (aju f a b 2 [.agg [.bool false,.str ⟨#[]⟩,.bool (decide ((1:Int)<0)),.str (rQ (1:Int).natAbs)],.agg [.bool (decide ((1:Int)<0)),.str (rQ (1:Int).natAbs),.bool (decide ((1:Int)<0)),.str (rQ (1:Int).natAbs)]])=some (OC (FZ f a b (numsL f a b),0),[]):=fun hab=>by
        have k:=anO X hX hB hS f hR a b pa pb hab (o7 f) [⟨0,1⟩,⟨1,1⟩] (acn X hX hB hE hS hv) (Me hv) (by
         intro r hr;simp only[List.mem_cons,List.not_mem_nil,or_false]at hr;rcases hr with rfl | rfl
         · exact anN
         · exact num1) (by simp) (by have:=Zn hv;simp only[List.length_cons,List.length_nil];omega)
        have e0:encR [⟨0,1⟩,⟨1,1⟩]=[.agg [.bool false,.str ⟨#[]⟩,.bool (decide ((1:Int)<0)),.str (rQ (1:Int).natAbs)],.agg [.bool (decide ((1:Int)<0)),.str (rQ (1:Int).natAbs),.bool (decide ((1:Int)<0)),.str (rQ (1:Int).natAbs)]]:=by show [PV.agg [.bool (decide ((0:Int)<0)),.str (rQ (0:Int).natAbs),.bool (decide ((1:Int)<0)),.str (rQ (1:Int).natAbs)],_]=_;rw[show (0:Int).natAbs=0 from rfl,FY];rfl
        rw[e0]at k;exact k
       have eh:uf f=o7 f:=by unfold uf;rw[if_pos hv]
       rw[eh]at h87;by_cases hx:a.x=b.x
       · rw[show (a.x==b.x)=true from beq_iff_eq.2 hx,cond_true];by_cases hy:a.y=b.y
         · rw[show (a.y==b.y)=true from beq_iff_eq.2 hy,cond_true,if_pos ⟨hx,hy⟩];rfl
         · rw[show (a.y==b.y)=false from beq_eq_false_iff_ne.2 hy,cond_false,if_neg fun h=>hy h.2,YW X hX hB 1 (by omega) (by omega),Option.bind_some,h31,Option.bind_some];show (run tab X 87 [.vN,.p (.ref (FH f))] [.log true []]).bind _=_;rw[h87,Option.bind_some];exact fin fun h=>hy h.2
       · rw[show (a.x==b.x)=false from beq_eq_false_iff_ne.2 hx,cond_false,if_neg fun h=>hx h.1,YW X hX hB 1 (by omega) (by omega),Option.bind_some,h31,Option.bind_some];show (run tab X 87 [.vN,.p (.ref (FH f))] [.log true []]).bind _=_;rw[h87,Option.bind_some];exact fin fun h=>hx h.1)
end
end Go.Skm.Fen
