import Derived.Test.YtpjaaamhnghloaaGreatDoorLine
import Derived.Test.YtpjaaamhnghloaaGreatDoorQQ
import Derived.Test.YtpjaaamhnghloaaGreatDoorTabOk
import Derived.Test.YtpjaaamhnghloaaGreatDoorRows
import Derived.Test.YtpjaaamhnghloaaGreatDoorSkmI
import Derived.Test.YtpjaaamhnghloaaGreatDoorSkmH
import Derived.Lib.LaidTab
import Derived.MakeChecks
import Derived.Test.YtpjaaamhnghloaaGreatDoorP21
import Derived.Test.YtpjaaamhnghloaaGreatDoorSkmF
set_option linter.all false
namespace Go.Skm.Prg
open Go Go.Skm
section
open Go.Proofs Go.Shelf
variable {a:Bool}{ks:List Kd}{xs:List PV}{X:Ext}
theorem lays169:Lays.n169 Tryz.prog Tryz.lays156_ren:={Tryz.lays156 with}
theorem ale{G:Bool->World->Prop}:Po Tryz.prog G 65 [123,125] 5 .str:=aiZ lays169 Tryz.Builder_Extra_156 [123,125]
theorem Zk:(tab.funcs.all λp=>Nat.beq p.1 64||(Nat.beq p.1 65||!p.2.cfg.xK.is))=true:=τ
theorem apE:aX tab.funcs 64=some ai0:=τ
theorem apF:aX tab.funcs 65=some ai1:=τ
theorem TF{β:Type}:∀{l:List (Nat × β)}{s:Nat}{x:β},aX l s=some x->(s,x)∈l
 |[],s,x,h=>by simp[aX]at h
 |(k,y)::r,s,x,h=>by
  simp only[aX]at h;cases e:k==s with
  |true=>grind
  |false=>rw[e]at h;exact List.mem_cons_of_mem _ (TF h)
theorem ags:U5 Tryz.prog tab:=by
 intro f fi b hp;have h:=List.all_eq_true.1 Zk _ (TF b);simp only[Bool.or_eq_true,qBb]at h;rcases h with h |h |h
 .have e:f=64:=Nat.eq_of_beq_eq_true h;subst e;rw[apE]at b;cases b;exact⟨λ_=>⟨_,rfl⟩,agt⟩
 .have e:f=65:=Nat.eq_of_beq_eq_true h;subst e;rw[apF]at b;cases b;exact⟨λ_=>⟨_,rfl⟩,ale⟩
 grind
theorem Ot:bJ Tryz.prog tab:=alf ags
theorem ai2:∃i0 z,Tryz.prog.info? 82=some i0/\i0.zero=some z/\i0.size=yM.length/\z.cells.size=yM.length/\i0.bytes<=1000:=by
 have h:(Tryz.prog.info? 82).map (λi=>(i.zero.map (λz:Value=>z.cells.size),i.size,decide (i.bytes<=1000)))=some (some 6,6,true):=τ
 cases hi:Tryz.prog.info? 82 with
 |none=>rw[hi]at h;cases h
 |some i=>simp_all
theorem agu:∃i0 z,Tryz.prog.info? 9=some i0/\i0.zero=some z/\i0.size=1/\z.cells.size=1/\i0.bytes<=1000:=by
 have h:(Tryz.prog.info? 9).map (λi=>(i.zero.map (λz:Value=>z.cells.size),i.size,decide (i.bytes<=1000)))=some (some 1,1,true):=τ
 cases hi:Tryz.prog.info? 9 with
 |none=>rw[hi]at h;cases h
 |some i=>simp_all
theorem alg:∃i0 z,Tryz.prog.info? 66=some i0/\i0.zero=some z/\i0.size=3/\z.cells.size=3/\i0.bytes<=1000:=by
 have h:(Tryz.prog.info? 66).map (λi=>(i.zero.map (λz:Value=>z.cells.size),i.size,decide (i.bytes<=1000)))=some (some 3,3,true):=τ
 cases hi:Tryz.prog.info? 66 with
 |none=>rw[hi]at h;cases h
 |some i=>simp_all
theorem alh:∃i0 z,Tryz.prog.info? 72=some i0/\i0.zero=some z/\i0.size=3/\z.cells.size=3/\i0.bytes<=1000:=by
 have h:(Tryz.prog.info? 72).map (λi=>(i.zero.map (λz:Value=>z.cells.size),i.size,decide (i.bytes<=1000)))=some (some 3,3,true):=τ
 cases hi:Tryz.prog.info? 72 with
 |none=>rw[hi]at h;cases h
 |some i=>simp_all
theorem apG:FU Tryz.prog tab Tryz.Dz 63 agv 70 82 true yM:=⟨Tryz.Xi,rfl,τ,⟨_,rfl⟩,rfl,τ,τ,τ,ai2,δ,λw=>Tryz.sizeOf82 w⟩
theorem apH:FU Tryz.prog tab Tryz.DC 99 agw 22 9 false [.str]:=⟨Tryz.Xj,rfl,τ,⟨_,rfl⟩,rfl,τ,τ,τ,agu,δ,λw=>Tryz.sizeOf9 w⟩
theorem apI:FU Tryz.prog tab Tryz.DF 81 agx 23 66 true dW:=⟨Tryz.Xk,rfl,τ,⟨_,rfl⟩,rfl,τ,τ,τ,alg,δ,λw=>Tryz.sizeOf66 w⟩
theorem ali:FU Tryz.prog tab Tryz.AX 100 aaN 24 72 true gY:=⟨Tryz.U6,rfl,τ,⟨_,rfl⟩,rfl,τ,τ,τ,alh,δ,λw=>Tryz.sizeOf72 w⟩
noncomputable def l0:List (Nat × uw):=[(63,su true yM),(99,su false [.str]),(81,su true dW),(100,Ih true gY),(74,KN),(108,TG)]
noncomputable def ad4:Ext:=NY l0
noncomputable def ad5:Ext:=NY ((47,Zf)::l0)
noncomputable def Xl:Ext:=NY ((10,agy)::(11,agz)::(47,Zf)::l0)
theorem KO(h:xs.length<=100000):su a ks [.p (.list a ks xs)] []=some ([.p (.list a ks xs)],[]):=by grind[Kd.kL,su]
theorem ab3(h:xs.length<=100000):Ih a ks [.p (.list a ks xs)] []=some ([.fresh a ks xs],[]):=by grind[Kd.kL,Ih]
theorem KQ(h1:X 63=some (su true yM))(h2:X 99=some (su false [.str]))(h3:X 81=some (su true dW))(h4:X 100=some (Ih true gY)):jd X where
 c63 _ h:=vX (fi:=agv) (s:=su true yM) τ h1 (KO h)
 c99 _ h:=vX (fi:=agw) (s:=su false [.str]) τ h2 (KO h)
 c81 _ h:=vX (fi:=agx) (s:=su true dW) τ h3 (KO h)
 c100 _ h:=vX (fi:=aaN) (s:=Ih true gY) τ h4 (ab3 h)
theorem ad6(d:X 74=some KN)(c:X 108=some TG):Reads X:=by
 refine⟨λl b=>vX (fi:=ad7) (s:=KN) τ d ?_,λl b=>vX (fi:=aaO) (s:=TG) τ c ?_⟩
 .unfold KN;show(if(ba l).size<4294967281 then _ else none)=_;rw[if_pos (by rw[bZ];omega)];rfl
 .unfold TG;show(if(ba l).size<=281474976710656 then _ else none)=_;rw[if_pos (by rw[bZ];omega)];rfl
theorem U7{l:List (Nat × uw)}(h:(l.all λp=>alj p.1)=true):Mine (NY l):=by
 intro f c;unfold NY;induction l with
 |nil=>rfl
 |cons p l b=>
  simp only[List.all_cons,qBa]at h;have:(p.1==f)=false:=θ
  grind[aX]
theorem alk:Mine ad4:=U7 rfl
theorem ahJ:Mine ad5:=U7 rfl
theorem aaP:Mine Xl:=U7 rfl
theorem agA:jd ad4:=KQ rfl rfl rfl rfl
theorem agB:jd ad5:=KQ rfl rfl rfl rfl
theorem TJ:jd Xl:=KQ rfl rfl rfl rfl
theorem ai3:ad8 Xl where
 c47 p hp hv:=vX (fi:=Zg) (s:=Zf) ak2 rfl (agk p hp hv)
theorem Zl:aaQ Xl where
 prg s h:=vX (fi:=ad9) (s:=agy) alm rfl (Xm s h)
 ref s h:=vX (fi:=aea) (s:=agz) aln rfl (Xm s h)
theorem aeb:Known Xl:=known Xl aaP TJ ai3
open Go.Proofs.YtpjaaamhnghloaaGreatDoor
def MK : List (String × DataW Unit) := [("math/bits.deBruijn32tab", Rows.laid_math_bits_deBruijn32tab), ("math/bits.deBruijn64tab", Rows.laid_math_bits_deBruijn64tab), ("internal/strconv.uint64pow10", Rows.laid_internal_strconv_uint64pow10),
 ("unicode/utf8.acceptRanges", Rows.laid_unicode_utf8_acceptRanges), ("strconv.ErrRange", Rows.laid_strconv_ErrRange), ("strconv.ErrSyntax", Rows.laid_strconv_ErrSyntax), ("unicode/utf8.first", Rows.laid_unicode_utf8_first)]
theorem Zm:Rows.laid_internal_strconv_uint64pow10 (H:=Unit)=Lib.tabData .u64 Lib.pow10Tab:=τ
def gls:List Nat:=[0,1,2,3]
theorem aec : Tryz.prog.globalNamed "strconv.ErrSyntax" = some 1 := τ
theorem agC : Tryz.prog.globalNamed "strconv.ErrRange" = some 2 := τ
theorem aaR : Tryz.prog.globalNamed "internal/strconv.uint64pow10" = some 3 := τ
theorem ai4{W:World}(hL:laidMetH Tryz.prog MK W)(hS:W.ShapedOpen Tryz.prog):rO Tryz.prog tab (some (RP W gls)) Xl:=by
 rw[MakeChecks.laidMetH_plain _ _ _ τ]at hL;have hP : Lib.TabIs Tryz.prog W "internal/strconv.uint64pow10" .u64 Lib.pow10Tab := by have h : laidMet Tryz.prog (("internal/strconv.uint64pow10", Rows.laid_internal_strconv_uint64pow10) :: MK.drop 3) W := FV 2 hL;rw[Zm]at h;exact Lib.tabIs_of_head aaR (t:=254) (e:=172) (n:=20) τ τ τ τ τ h
 obtain⟨u1,v1,hR⟩:∃ u v,W.cell? ⟨2,0,none⟩=some (.iface u v):=by have h : laidMet Tryz.prog (("strconv.ErrRange", Rows.laid_strconv_ErrRange) :: MK.drop 5) W := FV 4 hL;exact Pq h agC (ti:=162) τ Tryz.underlying162
 obtain⟨u0,v0,hY⟩:∃ u v,W.cell? ⟨1,0,none⟩=some (.iface u v):=by have h : laidMet Tryz.prog (("strconv.ErrSyntax", Rows.laid_strconv_ErrSyntax) :: MK.drop 6) W := FV 5 hL;exact Pq h aec (ti:=162) τ Tryz.underlying162
 obtain⟨m,hM⟩:=Tryz.laysM146.s1_3 W hS;have hne:some (RP W gls)≠none:=σ
 have alo:∀ w:World,(∀ p∈(some (RP W gls)).getD [],w.heap[p.1]?=some p.2)->tab.glob (some (RP W gls)).isSome w:=λw hw=>⟨rfl,aed hw (g:=3) δ aaR hP⟩;have h0:rO Tryz.prog tab (some (RP W gls)) ad4:=by
  refine lW τ (Eh hne apG rfl τ) (lW τ (Eh hne apH rfl τ) (lW τ (Eh hne apI rfl τ) (lW τ (Xn hne ali rfl)
   (lW τ (Zn hne (fi:=ad7) Tryz.laysM146 rfl τ rfl rfl (t:=22) (e:=9) rfl τ τ λw hw=>⟨m,KR hw (g:=0) δ hM⟩)
   (lW τ (ab4 hne (fi:=aaO) Tryz.laysC172 rfl τ rfl rfl (t:=3) (u:=162) rfl τ τ (λw hw=>?_) λw hw=>?_) (ab5 alo))))))
  . exact⟨_,KR hw (g:=1) δ hY,.inr ⟨_,_,rfl⟩⟩
  . exact⟨_,KR hw (g:=2) δ hR,.inr ⟨_,_,rfl⟩⟩
 have h1:rO Tryz.prog tab (some (RP W gls)) ad5:=lW τ (adN hne alk (KT Ot h0) (run_seq Ot h0) agA) h0;have hC:=KT Ot h1;exact lW τ (aee hne ahJ hC (ad6 rfl rfl) agB) (lW τ (aef hne ahJ hC) h1)
end
section
variable {x:PV}{v:Value}{t:TypeId}
section
variable {P:Program}{w:World}{M:Nat->Prop}
theorem aaL(s:ByteArray):ba s.data.toList=s:=by rfl
theorem Oo{a:Bool}{ks:List Kd}(h:VR w M x v)(g:kindOk (.slice a ks) x=true)(d:x.wf):∃xs,x=.list a ks xs/\(∀y∈xs,aA a ks y=true)/\xs.length<=9223372036854775807/\PV.wfs xs/\∀y∈xs,∀(j:Nat) (c:PV),y.cells[j]?=some c->∃u,VR w M c u:=by
 cases x<;>simp only[kindOk,Bool.false_eq_true]at g
 .rename_i a' k xs;simp only[qBa,beq_iff_eq]at g;obtain⟨rfl,e⟩:=g;have e:=Kd.oG _ _ e;subst e;simp only[PV.wf]at d;refine⟨xs,rfl,?_,d.1,d.2,?_⟩
  .cases h with
   |list _ _ _ b o cap f _ _ _ _ m=>exact m
   |iM _ _ base cap=>simp
  .cases h with
   |list _ _ _ b o cap f _ _ _ n _=>intro y l j c p;obtain⟨i,hi⟩:=List.getElem?_of_mem l;grind
   |iM _ _ base cap=>simp
 .exact d.elim
theorem H8(h:kindOk (.int .i64) x=true)(a:x.wf):∃n:Int,x=.int .i64 n/\i64 n:=by cases x<;>simp[kindOk]at h;subst h;exact⟨_,rfl,wf_i64.1 a⟩
theorem adO(h:kindOk .str x=true):∃g:List UInt8,x=.str (ba g):=by cases x<;>simp[kindOk]at h;exact⟨_,by rw[aaL]⟩
theorem W9:∀{xs:List PV},(∀x∈xs,aA false [.str] x=true)->∃l,xs=eN l
 |[],_=>⟨[],rfl⟩
 |x::xs,h=>by obtain⟨g,rfl⟩:=adO (by simpa[aA] using h x σ);obtain⟨l,rfl⟩:=W9 (xs:=xs) (λy a=>h y (List.mem_cons_of_mem _ a));exact⟨g::l,rfl⟩
theorem agl(h:aA true yM x=true)(g:x.wf):∃m:Mv,x=eM m:=by
 cases x<;>simp only[aA,Bool.false_eq_true]at h;rename_i cs
 match cs,h,g with
 |[a,b,c,d,e,f],h,g=>simp only[yM,bn,Bool.and_true,qBa]at h;obtain⟨D,C,B,hd,A,z⟩:=h;simp only[PV.wf,PV.wfs,and_true]at g;obtain⟨o,n,l,k,j,i⟩:=g;obtain⟨y,rfl,_⟩:=H8 D o;obtain⟨u,rfl,_⟩:=H8 C n;obtain⟨s,rfl,_⟩:=H8 B l;obtain⟨r,rfl,_⟩:=H8 hd k;obtain⟨q,rfl,_⟩:=H8 A j;obtain⟨p,rfl,_⟩:=H8 z i;exact⟨⟨⟨y,u,s⟩,r,q,p⟩,rfl⟩
 |[],h,_=>simp[yM,bn]at h
 |[_],h,_=>simp[yM,bn]at h
 |[_,_],h,_=>simp[yM,bn]at h
 |[_,_,_],h,_=>simp[yM,bn]at h
 |[_,_,_,_],h,_=>simp[yM,bn]at h
 |[_,_,_,_,_],h,_=>simp[yM,bn]at h
 |_::_::_::_::_::_::_::_,h,_=>simp[yM,bn]at h
theorem Xa:∀{xs:List PV},(∀x∈xs,aA true yM x=true)->PV.wfs xs->∃l,xs=D8 l
 |[],_,_=>⟨[],rfl⟩
 |x::xs,h,hw=>by obtain⟨m,rfl⟩:=agl (h x σ) hw.1;obtain⟨l,rfl⟩:=Xa (λy a=>h y (by simp[a])) hw.2;exact⟨m::l,rfl⟩
theorem aiV(h:aA true gY x=true)(d:x.wf)(f:∀(j:Nat) (c:PV),x.cells[j]?=some c->∃v,VR w M c v):∃a:Ac,x=eA a/\i64 a.len:=by
 cases x<;>simp only[aA,Bool.false_eq_true]at h;rename_i cs
 match cs,h,d,f with
 |[a,b,c],h,d,f=>simp only[gY,bn,Bool.and_true,qBa]at h;obtain⟨q,p,o⟩:=h;simp only[PV.wf,PV.wfs,and_true]at d;obtain⟨u,k,i⟩:=d;obtain⟨g,rfl⟩:=adO q;obtain⟨n,rfl,m⟩:=H8 p k;obtain⟨v,e⟩:=f 2 c rfl;obtain⟨xs,rfl,s,y,r,h4⟩:=Oo e o i;obtain⟨l,rfl⟩:=Xa s r;exact⟨⟨g,n,l⟩,rfl,m⟩
 |[],h,_,_=>simp[gY,bn]at h
 |[_],h,_,_=>simp[gY,bn]at h
 |[_,_],h,_,_=>simp[gY,bn]at h
 |_::_::_::_::_,h,_,_=>simp[gY,bn]at h
theorem Xb:∀{xs:List PV},(∀x∈xs,aA true gY x=true)->PV.wfs xs->(∀x∈xs,∀(j:Nat) (c:PV),x.cells[j]?=some c->∃v,VR w M c v)->∃l:List Ac,xs=lH l/\∀a∈l,i64 a.len
 |[],_,_,_=>⟨[],rfl,σ⟩
 |x::xs,h,hw,hv=>by obtain⟨a,rfl,g⟩:=aiV (h x σ) hw.1 (hv x σ);obtain⟨l,rfl,e⟩:=Xb (λy d=>h y (by simp[d])) hw.2 (λy d=>hv y (by simp[d]));exact⟨a::l,rfl,λb f=>θ⟩
theorem aiW(z:aU P 8 t=(true,[.slice false [.str],.slice true dW,.slice true gY]))(h:VR w M x v)(d:aA (aU P 8 t).1 (aU P 8 t).2 x=true)(f:x.wf):∃p:Pg,x=eG p/\Fits p:=by
 rw[z]at d;cases x<;>simp only[aA,Bool.false_eq_true]at d;rename_i cs;have e:∀(j:Nat) (c:PV),cs[j]?=some c->∃u,VR w M c u:=λj c m=>by
  cases h with
  |agg _ vs O o l=>exact⟨_,l j c m⟩
 match cs,d,f,e with
 |[a,b,c],d,f,e=>simp only[bn,Bool.and_true,qBa]at d;obtain⟨C,B,m⟩:=d;simp only[PV.wf,PV.wfs,and_true]at f;obtain⟨s,r,q⟩:=f;obtain⟨N,k⟩:=e 0 a rfl;obtain⟨L,i⟩:=e 1 b rfl;obtain⟨K,g⟩:=e 2 c rfl;obtain⟨xs,rfl,J,I,S,R⟩:=Oo k C s;obtain⟨ys,rfl,b1,H,G,Q⟩:=Oo i B r;obtain⟨n,rfl,c1,F,E,D⟩:=Oo g m q;obtain⟨y,rfl⟩:=W9 J;obtain⟨A,rfl,_⟩:=aaM b1 G;obtain⟨n,rfl,o⟩:=Xb c1 E D;exact⟨⟨y,A,n⟩,rfl,by simpa using I,by simpa using H,by simpa using F,o⟩
 |[],h,_,_=>simp[bn]at h
 |[_],h,_,_=>simp[bn]at h
 |[_,_],h,_,_=>simp[bn]at h
 |_::_::_::_::_,h,_,_=>simp[bn]at h
theorem aiX(a:aU P 8 t=(false,[.str]))(h:aA (aU P 8 t).1 (aU P 8 t).2 x=true):∃g:List UInt8,x=.str (ba g):=by obtain⟨s,rfl⟩:=arg_str a h;exact⟨s.data.toList,by rw[aaL]⟩
end
end
end Go.Skm.Prg
