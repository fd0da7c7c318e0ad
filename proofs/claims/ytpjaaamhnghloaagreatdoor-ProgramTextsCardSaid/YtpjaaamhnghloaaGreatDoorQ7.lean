import Derived.Test.YtpjaaamhnghloaaGreatDoorQ5
import Derived.Test.YtpjaaamhnghloaaGreatDoorQ6
import Derived.Test.YtpjaaamhnghloaaGreatDoorQQ
set_option linter.all false
namespace Go.Skm.Prg
open Go Go.Skm Go.Proofs Go.RowKit Go.Shelf
variable {g:List UInt8}{x:V3}{B Pb bi bw ga gc ic im m oi ow wc wn:Nat}{Q:Exit -> Act -> World -> Prop}{w0:World}{a0:Act}{va vh vn:Value}{ns:List (List UInt8)}{hs:List V3}{l:List (Ac × Value)}{p:Ac × Value}
section
variable {W w:World}{B Pb:Nat}{vn vh va:Value}{ns:List (List UInt8)}{hs:List V3}{l:List (Ac × Value)}
theorem Lc(h:Own W B Pb vn vh va ns hs l)(a:oW W w vn.ownBlock vh.ownBlock):w.heap[Pb]?=some (.cells #[vn,vh,va] 26 (0,0)):=
 (a.block Pb h.lt (λe=>(h.blk (.inl e.symm)).2.2 rfl) λe=>(h.blk (.inr (.inl e.symm))).2.2 rfl).trans h.box
theorem Own.both(h:Own W B Pb vn vh va ns hs l){v' a:Value}(j:oW W w vn.ownBlock vh.ownBlock)(b:xU w B ([] ++ ⟨9,1,v',ns.length+1,nmC ns ++ [.string (ba g)]⟩::⟨66,3,a,hs.length+1,hs.flatMap WQ ++ WQ x⟩::wo va l::l.map F6)) :
    Own ((w.setCell ⟨Pb,0,none⟩ v').setCell ⟨Pb,1,none⟩ a) B Pb v' a va (ns++[g]) (hs++[x]) l:=by
  have e:([]++⟨9,1,v',ns.length+1,nmC ns++[.string (ba g)]⟩::⟨66,3,a,hs.length+1,hs.flatMap WQ++WQ x⟩::wo va l::l.map F6:List Rw)=yP v' a va (ns++[g]) (hs++[x]) l:=by simp[yP,Jb,JC,nmC,WQ]
  rw[e]at b;obtain⟨i,f⟩:=Ep (k:=0) (v:=v') (Lc h j) b Io;obtain⟨d,c⟩:=Ep (k:=1) (v:=a) i f Io;exact⟨d,h.base,c⟩
end
def tN:Array Oper:=#[
 ⟨some 30,.move (.tmp 0),95,"program.go:257",#[],none⟩,
 ⟨some 31,.move (.tmp 0),95,"program.go:257",#[⟨29,.gcOnly .lateStores⟩],none⟩,
 ⟨some 32,.move (.tmp 0),95,"program.go:257",#[],none⟩,
 ⟨some 33,.nilCheck (.tmp 32),0,"program.go:257",#[⟨2,.data⟩],none⟩,
 ⟨some 34,.fieldAddr 26 (.tmp 33) 0,0,"program.go:257",#[⟨3,.data⟩],none⟩,
 ⟨some 35,.load 22 (.tmp 34),22,"program.go:257",#[⟨4,.data⟩],none⟩,
 ⟨some 36,.move (.tmp 5),22,"program.go:257",#[],none⟩,
 ⟨some 37,.indexAddr 22 (.tmp 36) (.const (.int .i64 1)),0,"program.go:257",#[⟨6,.data⟩],none⟩,
 ⟨some 38,.load 9 (.tmp 37),9,"program.go:257",#[⟨7,.data⟩],none⟩,
 ⟨some 39,.buildSlice 22 1 #[(0,.tmp 38)],22,"program.go:257",#[⟨8,.data⟩],none⟩,
 ⟨some 40,.call {callee:=.builtin .append,args:=#[.tmp 35,.tmp 39],argTypes:=#[22,22]},22,"program.go:257",#[⟨5,.data⟩,⟨9,.data⟩],none⟩,
 ⟨some 41,.move (.tmp 0),95,"program.go:257",#[],none⟩,
 ⟨some 42,.nilCheck (.tmp 41),0,"program.go:257",#[⟨11,.data⟩],none⟩,
 ⟨some 43,.fieldAddr 26 (.tmp 42) 1,0,"program.go:257",#[⟨12,.data⟩],none⟩,
 ⟨some 44,.load 23 (.tmp 43),23,"program.go:257",#[⟨13,.data⟩],none⟩,
 ⟨some 45,.move (.tmp 6),59,"program.go:257",#[],none⟩,
 ⟨some 46,.indexAddr 59 (.tmp 45) (.const (.int .i64 0)),0,"program.go:257",#[⟨15,.data⟩],none⟩,
 ⟨some 47,.load 3 (.tmp 46),3,"program.go:257",#[⟨16,.data⟩],none⟩,
 ⟨some 48,.move (.tmp 6),59,"program.go:257",#[],none⟩,
 ⟨some 49,.indexAddr 59 (.tmp 48) (.const (.int .i64 1)),0,"program.go:257",#[⟨18,.data⟩],none⟩,
 ⟨some 50,.load 3 (.tmp 49),3,"program.go:257",#[⟨19,.data⟩],none⟩,
 ⟨some 51,.move (.tmp 6),59,"program.go:257",#[],none⟩,
 ⟨some 52,.indexAddr 59 (.tmp 51) (.const (.int .i64 2)),0,"program.go:257",#[⟨21,.data⟩],none⟩,
 ⟨some 53,.load 3 (.tmp 52),3,"program.go:257",#[⟨22,.data⟩],none⟩,
 ⟨some 54,.build 66 #[(0,.tmp 47),(1,.tmp 50),(2,.tmp 53)],66,"program.go:257",#[⟨17,.data⟩,⟨20,.data⟩,⟨23,.data⟩],none⟩,
 ⟨some 55,.buildSlice 23 1 #[(0,.tmp 54)],23,"program.go:257",#[⟨24,.data⟩],none⟩,
 ⟨some 56,.call {callee:=.builtin .append,args:=#[.tmp 44,.tmp 55],argTypes:=#[23,23]},23,"program.go:257",#[⟨14,.data⟩,⟨25,.data⟩,⟨10,.chain⟩],none⟩,
 ⟨some 57,.nilCheck (.tmp 30),0,"program.go:257",#[⟨0,.data⟩,⟨0,.phase⟩,⟨1,.textOnly .lateStores⟩,⟨2,.phase⟩,⟨3,.phase⟩,⟨4,.phase⟩,⟨5,.phase⟩,⟨6,.phase⟩,⟨7,.phase⟩,⟨8,.phase⟩,⟨9,.phase⟩,⟨10,.phase⟩,⟨11,.textOnly .lateStores⟩,⟨12,.textOnly .lateStoresUnsure⟩,⟨13,.textOnly .lateStoresUnsure⟩,⟨14,.phase⟩,⟨15,.textOnly .lateStores⟩,⟨16,.textOnly .lateStoresUnsure⟩,⟨17,.phase⟩,⟨18,.textOnly .lateStores⟩,⟨19,.textOnly .lateStoresUnsure⟩,⟨20,.phase⟩,⟨21,.textOnly .lateStores⟩,⟨22,.textOnly .lateStoresUnsure⟩,⟨23,.phase⟩,⟨24,.textOnly .lateStoresUnsure⟩,⟨25,.textOnly .lateStoresUnsure⟩,⟨26,.phase⟩],none⟩,
 ⟨some 58,.fieldAddr 26 (.tmp 57) 0,0,"program.go:257",#[⟨27,.data⟩,⟨0,.phase⟩,⟨1,.textOnly .lateStores⟩,⟨2,.phase⟩,⟨3,.phase⟩,⟨4,.phase⟩,⟨5,.phase⟩,⟨6,.phase⟩,⟨7,.phase⟩,⟨8,.phase⟩,⟨9,.phase⟩,⟨10,.phase⟩,⟨11,.textOnly .lateStores⟩,⟨12,.textOnly .lateStoresUnsure⟩,⟨13,.textOnly .lateStoresUnsure⟩,⟨14,.phase⟩,⟨15,.textOnly .lateStores⟩,⟨16,.textOnly .lateStoresUnsure⟩,⟨17,.phase⟩,⟨18,.textOnly .lateStores⟩,⟨19,.textOnly .lateStoresUnsure⟩,⟨20,.phase⟩,⟨21,.textOnly .lateStores⟩,⟨22,.textOnly .lateStoresUnsure⟩,⟨23,.phase⟩,⟨24,.textOnly .lateStoresUnsure⟩,⟨25,.textOnly .lateStoresUnsure⟩,⟨26,.phase⟩],none⟩,
 ⟨none,.store 22 (.tmp 58) (.tmp 40),0,"program.go:257",#[⟨28,.data⟩,⟨10,.data⟩,⟨26,.chain⟩,⟨0,.phase⟩,⟨1,.textOnly .lateStores⟩,⟨2,.phase⟩,⟨3,.phase⟩,⟨4,.phase⟩,⟨5,.phase⟩,⟨6,.phase⟩,⟨7,.phase⟩,⟨8,.phase⟩,⟨9,.phase⟩,⟨10,.phase⟩,⟨11,.textOnly .lateStores⟩,⟨12,.textOnly .lateStoresUnsure⟩,⟨13,.textOnly .lateStoresUnsure⟩,⟨14,.phase⟩,⟨15,.textOnly .lateStores⟩,⟨16,.textOnly .lateStoresUnsure⟩,⟨17,.phase⟩,⟨18,.textOnly .lateStores⟩,⟨19,.textOnly .lateStoresUnsure⟩,⟨20,.phase⟩,⟨21,.textOnly .lateStores⟩,⟨22,.textOnly .lateStoresUnsure⟩,⟨23,.phase⟩,⟨24,.textOnly .lateStoresUnsure⟩,⟨25,.textOnly .lateStoresUnsure⟩,⟨26,.phase⟩],none⟩,
 ⟨some 59,.nilCheck (.tmp 31),0,"program.go:257",#[⟨1,.data⟩,⟨0,.phase⟩,⟨1,.phase⟩,⟨2,.phase⟩,⟨3,.phase⟩,⟨4,.phase⟩,⟨5,.phase⟩,⟨6,.phase⟩,⟨7,.phase⟩,⟨8,.phase⟩,⟨9,.phase⟩,⟨10,.phase⟩,⟨11,.phase⟩,⟨12,.phase⟩,⟨13,.phase⟩,⟨14,.phase⟩,⟨15,.phase⟩,⟨16,.phase⟩,⟨17,.phase⟩,⟨18,.phase⟩,⟨19,.phase⟩,⟨20,.phase⟩,⟨21,.phase⟩,⟨22,.phase⟩,⟨23,.phase⟩,⟨24,.phase⟩,⟨25,.phase⟩,⟨26,.phase⟩,⟨27,.phase⟩,⟨28,.phase⟩,⟨29,.phase⟩],none⟩,
 ⟨some 60,.fieldAddr 26 (.tmp 59) 1,0,"program.go:257",#[⟨30,.data⟩,⟨0,.phase⟩,⟨1,.phase⟩,⟨2,.phase⟩,⟨3,.phase⟩,⟨4,.phase⟩,⟨5,.phase⟩,⟨6,.phase⟩,⟨7,.phase⟩,⟨8,.phase⟩,⟨9,.phase⟩,⟨10,.phase⟩,⟨11,.phase⟩,⟨12,.phase⟩,⟨13,.phase⟩,⟨14,.phase⟩,⟨15,.phase⟩,⟨16,.phase⟩,⟨17,.phase⟩,⟨18,.phase⟩,⟨19,.phase⟩,⟨20,.phase⟩,⟨21,.phase⟩,⟨22,.phase⟩,⟨23,.phase⟩,⟨24,.phase⟩,⟨25,.phase⟩,⟨26,.phase⟩,⟨27,.phase⟩,⟨28,.phase⟩,⟨29,.phase⟩],none⟩,
 ⟨none,.store 23 (.tmp 60) (.tmp 56),0,"program.go:257",#[⟨31,.data⟩,⟨26,.data⟩,⟨29,.chain⟩,⟨0,.phase⟩,⟨1,.phase⟩,⟨2,.phase⟩,⟨3,.phase⟩,⟨4,.phase⟩,⟨5,.phase⟩,⟨6,.phase⟩,⟨7,.phase⟩,⟨8,.phase⟩,⟨9,.phase⟩,⟨10,.phase⟩,⟨11,.phase⟩,⟨12,.phase⟩,⟨13,.phase⟩,⟨14,.phase⟩,⟨15,.phase⟩,⟨16,.phase⟩,⟨17,.phase⟩,⟨18,.phase⟩,⟨19,.phase⟩,⟨20,.phase⟩,⟨21,.phase⟩,⟨22,.phase⟩,⟨23,.phase⟩,⟨24,.phase⟩,⟨25,.phase⟩,⟨26,.phase⟩,⟨27,.phase⟩,⟨28,.phase⟩,⟨29,.phase⟩],none⟩]
def aeY(Pb:Nat)(vn vh wv iv:Value)(bw ow bi oi:Nat)(g:List UInt8)(x:V3):Nat->Value
 |0=>.pointer (some ⟨Pb,0,none⟩)
 |1=>.pointer (some ⟨Pb,0,none⟩)
 |2=>.pointer (some ⟨Pb,0,none⟩)
 |3=>.pointer (some ⟨Pb,0,none⟩)
 |4=>.pointer (some ⟨Pb,0,none⟩)
 |5=>vn
 |6=>wv
 |7=>.pointer (some ⟨bw,ow+1,none⟩)
 |8=>.string (ba g)
 |11=>.pointer (some ⟨Pb,0,none⟩)
 |12=>.pointer (some ⟨Pb,0,none⟩)
 |13=>.pointer (some ⟨Pb,1,none⟩)
 |14=>vh
 |15=>iv
 |16=>.pointer (some ⟨bi,oi,none⟩)
 |17=>.int .i64 x.x
 |18=>iv
 |19=>.pointer (some ⟨bi,oi+1,none⟩)
 |20=>.int .i64 x.y
 |21=>iv
 |22=>.pointer (some ⟨bi,oi+2,none⟩)
 |23=>.int .i64 x.z
 |24=>.agg #[.int .i64 x.x,.int .i64 x.y,.int .i64 x.z]
 |27=>.pointer (some ⟨Pb,0,none⟩)
 |28=>.pointer (some ⟨Pb,0,none⟩)
 |30=>.pointer (some ⟨Pb,0,none⟩)
 |31=>.pointer (some ⟨Pb,1,none⟩)
 |_=>undef
def ajm(k:Nat):Bool:=k==5||k==8||k==14||k==17||k==20||k==23
theorem agZ 
    (ha:a0.tmps.size=146)(t0:a0.tmps.getD 0 undef=.pointer (some ⟨Pb,0,none⟩))(t5:a0.tmps.getD 5 undef=.slice (some ⟨bw,ow,none⟩) wn wc)(hw:1<wn)(I:w0.cell? ⟨bw,ow+1,none⟩=some (.string (ba g)))(X:vn.ownBlock≠some bw)(V:vh.ownBlock≠some bw)(t6:a0.tmps.getD 6 undef=.slice (some ⟨bi,oi,none⟩) im ic)(him:2<im)(h0:w0.cell? ⟨bi,oi,none⟩=some (.int .i64 x.x))(h1:w0.cell? ⟨bi,oi+1,none⟩=some (.int .i64 x.y))(h2:w0.cell? ⟨bi,oi+2,none⟩=some (.int .i64 x.z))(D:vn.ownBlock≠some bi)(C:vh.ownBlock≠some bi)
    (h:Own w0 B Pb vn vh va ns hs l)(hB:B<=w0.heap.size)(hn:ns.length+1<=1000000)(T:hs.length+1<=1000000)
    (post:∀(a:Act) (w:World) (v' A:Value),a.tmps.size=a0.tmps.size->a.defers=a0.defers->(∀t,t<30\/60<t->a.tmps.getD t undef=a0.tmps.getD t undef)->Own ((w.setCell ⟨Pb,0,none⟩ v').setCell ⟨Pb,1,none⟩ A) B Pb v' A va (ns++[g]) (hs++[x]) l->oW w0 w vn.ownBlock vh.ownBlock ->
      (∀g,v'.ownBlock=some g->vn.ownBlock=some g\/w0.heap.size<=g)->(∀g,A.ownBlock=some g->vh.ownBlock=some g\/w0.heap.size<=g)->Q .normal a ((w.setCell ⟨Pb,0,none⟩ v').setCell ⟨Pb,1,none⟩ A)) :
    (Code.region 6 tN true).wpIn (FW none) m Tryz.prog Q a0 w0:=by
  obtain⟨i0,hi,O,N,M⟩:=info_parts info9;obtain⟨i1,U,S,R,P⟩:=info_parts aeO;have c0:w0.cell? ⟨Pb,0,none⟩=some vn:=by simp[World.cell?,h.box]
  have c1:w0.cell? ⟨Pb,1,none⟩=some vh:=by simp[World.cell?,h.box]
  have nb:vn.ownBlock≠some Pb:=λe=>(h.blk (.inl e)).2.2 rfl;have nc:vh.ownBlock≠some Pb:=λe=>(h.blk (.inr (.inl e))).2.2 rfl
  refine aeW zB rfl (by rw[ha];rfl) (aeY Pb vn vh (.slice (some ⟨bw,ow,none⟩) wn wc) (.slice (some ⟨bi,oi,none⟩) im ic) bw ow bi oi g x) ajm (iB:=9) (iA:=10) (iS:=29) (jB:=25) (jA:=26) (jS:=32) δ (B:=B) (pre:=[]) (r:=Jb vn ns) (s:=JC vh hs) (post:=wo va l::l.map F6) (n1:=[.string (ba g)]) (n2:=WQ x) (sa:=⟨Pb,0,none⟩) (sb:=⟨Pb,1,none⟩) h.rows hB
   22 i0 _ 16 Tryz.underlying22 hi O N M rfl (show 0<1 by decide) δ 23 i1 _ 24 Tryz.underlying23 U S R P rfl (show 0<3 by decide) δ rfl (by simp[Value.oneCell']) hn rfl (by simp[WQ,Value.oneCell']) T rfl rfl rfl rfl rfl rfl ?_ ?_ ?_ ?_ ?_ ?_
  .intro L val a w i o f nk n u d G;have hi:i<33:=(qAa.1 f).1;have F:=λ(c:Addr->Option Value) h=>uO (w:=w) (qs:=[9,10,29,25,26,32]) (ts:=[0,5,6]) (kv:=aeY Pb vn vh (.slice (some ⟨bw,ow,none⟩) wn wc) (.slice (some ⟨bi,oi,none⟩) im ic) bw ow bi oi g x) (sl:=λ|0=>.pointer (some ⟨Pb,0,none⟩) |5=>.slice (some ⟨bw,ow,none⟩) wn wc |6=>.slice (some ⟨bi,oi,none⟩) im ic |_=>undef) (cell:=c) rfl (by intro t H;simp at H;rcases H with rfl|rfl|rfl;exact t0;exact t5;exact t6) f nk n u d h;have Q:=F (λ_=>none) λ_ _ h=>by cases h
   rcases(show i=0\/i=1\/i=2\/i=3\/i=4\/i=5\/i=6\/i=7\/i=8\/i=9\/i=10\/i=11\/i=12\/i=13\/i=14\/i=15\/i=16\/i=17\/i=18\/i=19\/i=20\/i=21\/i=22\/i=23\/i=24\/i=25\/i=26\/i=27\/i=28\/i=29\/i=30\/i=31\/i=32 by omega)with rfl|rfl|rfl|rfl|rfl|rfl|rfl|rfl|rfl|rfl|rfl|rfl|rfl|rfl|rfl|rfl|rfl|rfl|rfl|rfl|rfl|rfl|rfl|rfl|rfl|rfl|rfl|rfl|rfl|rfl|rfl|rfl|rfl;all_goals (have b:=f;simp[tN]at b;subst b)
   all_goals first
    |exact absurd δ nk
    |exact Q rfl
    |exact Q (if_pos ⟨δ,ω⟩)
    |exact F (cl2 w0 vn.ownBlock vh.ownBlock) (λv x h=>G rfl v x (mX h).1 (mX h).2.1 (mX h).2.2) (acH c0 nb nc)
    |exact F (cl2 w0 vn.ownBlock vh.ownBlock) (λv x h=>G rfl v x (mX h).1 (mX h).2.1 (mX h).2.2) (acH I X V)
    |exact F (cl2 w0 vn.ownBlock vh.ownBlock) (λv x h=>G rfl v x (mX h).1 (mX h).2.1 (mX h).2.2) (acH c1 nb nc)
    |exact F (cl2 w0 vn.ownBlock vh.ownBlock) (λv x h=>G rfl v x (mX h).1 (mX h).2.1 (mX h).2.2) (acH h0 D C)
    |exact F (cl2 w0 vn.ownBlock vh.ownBlock) (λv x h=>G rfl v x (mX h).1 (mX h).2.1 (mX h).2.2) (acH h1 D C)
    |exact F (cl2 w0 vn.ownBlock vh.ownBlock) (λv x h=>G rfl v x (mX h).1 (mX h).2.1 (mX h).2.2) (acH h2 D C)
    |skip
   .have g17:a.eval (.tmp 47)=.int .i64 x.x:=(d.at_ ⟨17,.data⟩ σ rfl 47 rfl).trans (u 17 (n ⟨17,.data⟩ σ rfl) δ);have g20:a.eval (.tmp 50)=.int .i64 x.y:=(d.at_ ⟨20,.data⟩ σ rfl 50 rfl).trans (u 20 (n ⟨20,.data⟩ σ rfl) δ);have g23:a.eval (.tmp 53)=.int .i64 x.z:=(d.at_ ⟨23,.data⟩ σ rfl 53 rfl).trans (u 23 (n ⟨23,.data⟩ σ rfl) δ);refine qY rfl rfl ?_;show _=okV (.agg #[.int .i64 x.x,.int .i64 x.y,.int .i64 x.z]) w;simp[execOp,go_sem,fA g17,fA g20,fA g23]
  .rintro L val a w k o f (rfl|rfl) n u d
   .have b:=f;simp[tN]at b;subst b;have g8:a.eval (.tmp 38)=.string (ba g):=(d.at_ ⟨8,.data⟩ σ rfl 38 rfl).trans (u 8 (n ⟨8,.data⟩ σ rfl) δ);exact⟨rfl,by simp[Oper.about],(λc h=>by cases h),by simp[execOp,go_sem,fA g8,Jb]⟩
   .have b:=f;simp[tN]at b;subst b;have g24:a.eval (.tmp 54)=.agg #[.int .i64 x.x,.int .i64 x.y,.int .i64 x.z]:=(d.at_ ⟨24,.data⟩ σ rfl 54 rfl).trans (u 24 (n ⟨24,.data⟩ σ rfl) δ);exact⟨rfl,by simp[Oper.about],(λc h=>by cases h),by simp[execOp,go_sem,fA g24,JC,WQ]⟩
  .rintro L val a w k o f (rfl|rfl) n u d
   .have b:=f;simp[tN]at b;subst b;have g5:a.eval (.tmp 35)=vn:=(d.at_ ⟨5,.data⟩ σ rfl 35 rfl).trans (u 5 (n ⟨5,.data⟩ σ rfl) δ);have g9:a.eval (.tmp 39)=val 9:=d.at_ ⟨9,.data⟩ σ rfl 39 rfl;refine⟨rfl,by simp[Oper.about,resolve,Target.leads],(λc h=>by cases h),λv' w' j=>?_⟩;simp only[execOp,resolve,invoke,builtin,Sem.run_bind,Sem.run_pure,qRa,List.map_toArray,List.map_cons,List.map_nil,g5,g9];have j:(Builtin.append_ #[22,22] 22 #[vn,val 9]).run Tryz.prog w=.ok v' w':=j;rw[j];rfl
   .have b:=f;simp[tN]at b;subst b;have g14:a.eval (.tmp 44)=vh:=(d.at_ ⟨14,.data⟩ σ rfl 44 rfl).trans (u 14 (n ⟨14,.data⟩ σ rfl) δ);have g25:a.eval (.tmp 55)=val 25:=d.at_ ⟨25,.data⟩ σ rfl 55 rfl;refine⟨rfl,by simp[Oper.about,resolve,Target.leads],(λc h=>by cases h),λv' w' j=>?_⟩;simp only[execOp,resolve,invoke,builtin,Sem.run_bind,Sem.run_pure,qRa,List.map_toArray,List.map_cons,List.map_nil,g14,g25];have j:(Builtin.append_ #[23,23] 23 #[vh,val 25]).run Tryz.prog w=.ok v' w':=j;rw[j];rfl
  .intro L val a w o f n u d K J E;have b:=f;simp[tN]at b;subst b;have g28:a.eval (.tmp 58)=.pointer (some ⟨Pb,0,none⟩):=(d.at_ ⟨28,.data⟩ σ rfl 58 rfl).trans (u 28 (n ⟨28,.data⟩ σ rfl) δ);have g10:a.eval (.tmp 40)=val 10:=d.at_ ⟨10,.data⟩ σ rfl 40 rfl;have q:=qw (t:=22) (k:=0) info22 (Lc h E) (show 0<3 by decide) K J;refine qY rfl rfl ?_;simp only[execOp,g28,g10];simp[q]
  .intro L val a w o f n u d K J E;have b:=f;simp[tN]at b;subst b;have Z:a.eval (.tmp 60)=.pointer (some ⟨Pb,1,none⟩):=(d.at_ ⟨31,.data⟩ σ rfl 60 rfl).trans (u 31 (n ⟨31,.data⟩ σ rfl) δ);have g26:a.eval (.tmp 56)=val 26:=d.at_ ⟨26,.data⟩ σ rfl 56 rfl;have q:=qw (t:=23) (k:=1) info23 (setCell_at (k:=0) (val 10) (Lc h E)) (show 1<3 by decide) K J;refine qY rfl rfl ?_;simp only[execOp,Z,g26];simp[q]
  .intro val a w Y I hR f1 f2;refine post a w (val 10) (val 26) Y.size Y.defers (λt H=>Y.keep t λi o f e=>?_) (h.both I hR) I f1 f2;exact dsO (lo:=30) (hi:=60) rfl f e H
def x9:Array Oper:=#[
 ⟨some 73,.move (.tmp 0),95,"program.go:262",#[],none⟩,
 ⟨some 74,.move (.tmp 0),95,"program.go:262",#[],none⟩,
 ⟨some 75,.nilCheck (.tmp 74),0,"program.go:262",#[⟨1,.data⟩],none⟩,
 ⟨some 76,.fieldAddr 26 (.tmp 75) 2,0,"program.go:262",#[⟨2,.data⟩],none⟩,
 ⟨some 77,.load 24 (.tmp 76),24,"program.go:262",#[⟨3,.data⟩],none⟩,
 ⟨some 78,.move (.tmp 5),22,"program.go:262",#[],none⟩,
 ⟨some 79,.indexAddr 22 (.tmp 78) (.const (.int .i64 1)),0,"program.go:262",#[⟨5,.data⟩],none⟩,
 ⟨some 80,.load 9 (.tmp 79),9,"program.go:262",#[⟨6,.data⟩],none⟩,
 ⟨some 81,.move (.tmp 8),59,"program.go:262",#[],none⟩,
 ⟨some 82,.indexAddr 59 (.tmp 81) (.const (.int .i64 0)),0,"program.go:262",#[⟨8,.data⟩],none⟩,
 ⟨some 83,.load 3 (.tmp 82),3,"program.go:262",#[⟨9,.data⟩],none⟩,
 ⟨some 84,.build 72 #[(0,.tmp 80),(1,.tmp 83)],72,"program.go:262",#[⟨7,.data⟩,⟨10,.data⟩],none⟩,
 ⟨some 85,.buildSlice 24 1 #[(0,.tmp 84)],24,"program.go:262",#[⟨11,.data⟩],none⟩,
 ⟨some 86,.call {callee:=.builtin .append,args:=#[.tmp 77,.tmp 85],argTypes:=#[24,24]},24,"program.go:262",#[⟨4,.data⟩,⟨12,.data⟩],none⟩,
 ⟨some 87,.nilCheck (.tmp 73),0,"program.go:262",#[⟨0,.data⟩,⟨0,.phase⟩,⟨1,.phase⟩,⟨2,.phase⟩,⟨3,.phase⟩,⟨4,.phase⟩,⟨5,.phase⟩,⟨6,.phase⟩,⟨7,.phase⟩,⟨8,.phase⟩,⟨9,.phase⟩,⟨10,.phase⟩,⟨11,.phase⟩,⟨12,.phase⟩,⟨13,.phase⟩],none⟩,
 ⟨some 88,.fieldAddr 26 (.tmp 87) 2,0,"program.go:262",#[⟨14,.data⟩,⟨0,.phase⟩,⟨1,.phase⟩,⟨2,.phase⟩,⟨3,.phase⟩,⟨4,.phase⟩,⟨5,.phase⟩,⟨6,.phase⟩,⟨7,.phase⟩,⟨8,.phase⟩,⟨9,.phase⟩,⟨10,.phase⟩,⟨11,.phase⟩,⟨12,.phase⟩,⟨13,.phase⟩],none⟩,
 ⟨none,.store 24 (.tmp 88) (.tmp 86),0,"program.go:262",#[⟨15,.data⟩,⟨13,.data⟩,⟨13,.chain⟩,⟨0,.phase⟩,⟨1,.phase⟩,⟨2,.phase⟩,⟨3,.phase⟩,⟨4,.phase⟩,⟨5,.phase⟩,⟨6,.phase⟩,⟨7,.phase⟩,⟨8,.phase⟩,⟨9,.phase⟩,⟨10,.phase⟩,⟨11,.phase⟩,⟨12,.phase⟩,⟨13,.phase⟩],none⟩]
def abg(Pb:Nat)(va wv iv:Value)(bw ow bi oi:Nat)(g:List UInt8)(k:Int):Nat->Value
 |0=>.pointer (some ⟨Pb,0,none⟩)
 |1=>.pointer (some ⟨Pb,0,none⟩)
 |2=>.pointer (some ⟨Pb,0,none⟩)
 |3=>.pointer (some ⟨Pb,2,none⟩)
 |4=>va
 |5=>wv
 |6=>.pointer (some ⟨bw,ow+1,none⟩)
 |7=>.string (ba g)
 |8=>iv
 |9=>.pointer (some ⟨bi,oi,none⟩)
 |10=>.int .i64 k
 |11=>.agg #[.string (ba g),.int .i64 k,.slice none 0 0]
 |14=>.pointer (some ⟨Pb,0,none⟩)
 |15=>.pointer (some ⟨Pb,2,none⟩)
 |_=>undef
theorem aeZ{k:Int}
    (Z:a0.tmps.size=146)(t0:a0.tmps.getD 0 undef=.pointer (some ⟨Pb,0,none⟩))(R:a0.tmps.getD 5 undef=.slice (some ⟨bw,ow,none⟩) wn wc)(hw:1<wn)(y:w0.cell? ⟨bw,ow+1,none⟩=some (.string (ba g)))(F:va.ownBlock≠some bw)(P:a0.tmps.getD 8 undef=.slice (some ⟨bi,oi,none⟩) im ic)(X:0<im)(h0:w0.cell? ⟨bi,oi,none⟩=some (.int .i64 k))(D:va.ownBlock≠some bi)
    (h:Own w0 B Pb vn vh va ns hs l)(hB:B<=w0.heap.size)(V:l.length+1<=1000000)
    (post:∀(a:Act) (w:World) (v':Value),a.tmps.size=a0.tmps.size->a.defers=a0.defers->(∀t,t<73\/88<t->a.tmps.getD t undef=a0.tmps.getD t undef)->Own (w.setCell ⟨Pb,2,none⟩ v') B Pb vn vh v' ns hs (l++[(⟨g,k,[]⟩,.slice none 0 0)])->w0.grownBy w va.ownBlock ->
      (∀g,v'.ownBlock=some g->va.ownBlock=some g\/w0.heap.size<=g)->Q .normal a (w.setCell ⟨Pb,2,none⟩ v')) :
    (Code.region 11 x9 true).wpIn (FW none) m Tryz.prog Q a0 w0:=by
  obtain⟨i0,hi,C,A,z⟩:=info_parts aeP;have c0:w0.cell? ⟨Pb,2,none⟩=some va:=by simp[World.cell?,h.box]
  have U:va.ownBlock≠some Pb:=λe=>(h.blk (.inr (.inr (.inl e)))).2.2 rfl
  refine F5 zB rfl (by rw[Z];rfl) (abg Pb va (.slice (some ⟨bw,ow,none⟩) wn wc) (.slice (some ⟨bi,oi,none⟩) im ic) bw ow bi oi g k) (iB:=12) (iA:=13) (iS:=16) ⟨δ,δ,δ⟩ (B:=B) (pre:=[Jb vn ns,JC vh hs]) (r:=wo va l) (post:=l.map F6) (news:=[.string (ba g),.int .i64 k,.slice none 0 0]) (sa:=⟨Pb,2,none⟩) h.rows hB
   24 i0 _ 48 Tryz.underlying24 hi C A z rfl (show 0<3 by decide) δ rfl (by simp[Value.oneCell']) V rfl rfl ⟨_,rfl⟩ ?_ ?_ ?_ ?_ ?_
  .intro L val a w i o f n1 n2 N s n d O;have hi:i<17:=(qAa.1 f).1;have Q:=uO (w:=w) (qs:=[12,13,16]) (ts:=[0,5,8]) (kv:=abg Pb va (.slice (some ⟨bw,ow,none⟩) wn wc) (.slice (some ⟨bi,oi,none⟩) im ic) bw ow bi oi g k) (sl:=λ|0=>.pointer (some ⟨Pb,0,none⟩) |5=>.slice (some ⟨bw,ow,none⟩) wn wc |8=>.slice (some ⟨bi,oi,none⟩) im ic |_=>undef) (cell:=cl1 w0 va.ownBlock) rfl (by intro t v;simp at v;rcases v with rfl|rfl|rfl;exact t0;exact R;exact P) f (by simp[n1,n2,N]) s (λj h q=>n j h (λe=>q (by simp[e])) (λe=>q (by simp[e])) λe=>q (by simp[e])) d λad x h=>O ad x (vF h).1 (vF h).2;rcases(show i=0\/i=1\/i=2\/i=3\/i=4\/i=5\/i=6\/i=7\/i=8\/i=9\/i=10\/i=11\/i=12\/i=13\/i=14\/i=15\/i=16 by omega)with rfl|rfl|rfl|rfl|rfl|rfl|rfl|rfl|rfl|rfl|rfl|rfl|rfl|rfl|rfl|rfl|rfl;all_goals (have b:=f;simp[x9]at b;subst b)
   all_goals first
    |exact absurd rfl n1
    |exact absurd rfl n2
    |exact absurd rfl N
    |exact Q rfl
    |exact Q (if_pos ⟨δ,ω⟩)
    |exact Q (sQ c0 U)
    |exact Q (sQ y F)
    |exact Q (sQ h0 D)
    |skip
   .have g7:a.eval (.tmp 80)=.string (ba g):=(d.at_ ⟨7,.data⟩ σ rfl 80 rfl).trans (n 7 (s ⟨7,.data⟩ σ rfl) δ δ δ);have M:a.eval (.tmp 83)=.int .i64 k:=(d.at_ ⟨10,.data⟩ σ rfl 83 rfl).trans (n 10 (s ⟨10,.data⟩ σ rfl) δ δ δ);refine qY rfl rfl ?_;show _=okV (.agg #[.string (ba g),.int .i64 k,.slice none 0 0]) w;simp[execOp,go_sem,fA g7,fA M]
  .intro L val a w o f s n d;have b:=f;simp[x9]at b;subst b;have K:a.eval (.tmp 84)=.agg #[.string (ba g),.int .i64 k,.slice none 0 0]:=(d.at_ ⟨11,.data⟩ σ rfl 84 rfl).trans (n 11 (s ⟨11,.data⟩ σ rfl) δ δ δ);exact⟨rfl,by simp[Oper.about],(λc h=>by cases h),by simp[execOp,go_sem,fA K,wo]⟩
  .intro L val a w o f s n d;have b:=f;simp[x9]at b;subst b;have g4:a.eval (.tmp 77)=va:=(d.at_ ⟨4,.data⟩ σ rfl 77 rfl).trans (n 4 (s ⟨4,.data⟩ σ rfl) δ δ δ);have J:a.eval (.tmp 85)=val 12:=d.at_ ⟨12,.data⟩ σ rfl 85 rfl;refine⟨rfl,by simp[Oper.about,resolve,Target.leads],(λc h=>by cases h),λv' w' u=>?_⟩;simp only[execOp,resolve,invoke,builtin,Sem.run_bind,Sem.run_pure,qRa,List.map_toArray,List.map_cons,List.map_nil,g4,J];have u:(Builtin.append_ #[24,24] 24 #[va,val 12]).run Tryz.prog w=.ok v' w':=u;rw[u];rfl
  .intro L val a w o f s n d T S O E;have b:=f;simp[x9]at b;subst b;have H:a.eval (.tmp 88)=.pointer (some ⟨Pb,2,none⟩):=(d.at_ ⟨15,.data⟩ σ rfl 88 rfl).trans (n 15 (s ⟨15,.data⟩ σ rfl) δ δ δ);have I:a.eval (.tmp 86)=val 13:=d.at_ ⟨13,.data⟩ σ rfl 86 rfl;have q:=qw (t:=24) (k:=2) info24 (uN h (r:=wo va l) (by simp[yP]) E) (show 2<3 by decide) T S;refine qY rfl rfl ?_;simp only[execOp,H,I];simp[q]
  .intro val a w n G y hR Y;refine post a w (val 13) G.size G.defers (λt v=>G.keep t λi o f e=>?_) (h.act y hR) y Y;exact dsO (lo:=73) (hi:=88) rfl f e v
def JD:Array Oper:=#[
 ⟨some 106,.move (.tmp 0),95,"program.go:267",#[],none⟩,
 ⟨some 107,.nilCheck (.tmp 106),0,"program.go:267",#[⟨0,.data⟩],none⟩,
 ⟨some 108,.fieldAddr 26 (.tmp 107) 2,0,"program.go:267",#[⟨1,.data⟩],none⟩,
 ⟨some 109,.load 24 (.tmp 108),24,"program.go:267",#[⟨2,.data⟩],none⟩,
 ⟨some 110,.move (.tmp 0),95,"program.go:267",#[],none⟩,
 ⟨some 111,.nilCheck (.tmp 110),0,"program.go:267",#[⟨4,.data⟩],none⟩,
 ⟨some 112,.fieldAddr 26 (.tmp 111) 2,0,"program.go:267",#[⟨5,.data⟩],none⟩,
 ⟨some 113,.load 24 (.tmp 112),24,"program.go:267",#[⟨6,.data⟩],none⟩,
 ⟨some 114,.call {callee:=.builtin .len,args:=#[.tmp 113],argTypes:=#[24]},3,"program.go:267",#[⟨7,.data⟩],none⟩,
 ⟨some 115,.binOp .sub 3 (.tmp 114) (.const (.int .i64 1)) 3,3,"program.go:267",#[⟨8,.data⟩],none⟩,
 ⟨some 116,.indexAddr 24 (.tmp 109) (.tmp 115),0,"program.go:267",#[⟨3,.data⟩,⟨9,.data⟩],none⟩,
 ⟨some 12,.assign (.tmp 116),136,"program.go:267",#[⟨10,.data⟩,⟨0,.phase⟩,⟨1,.phase⟩,⟨2,.phase⟩,⟨3,.phase⟩,⟨4,.phase⟩,⟨5,.phase⟩,⟨6,.phase⟩,⟨7,.phase⟩,⟨8,.phase⟩,⟨9,.phase⟩,⟨10,.phase⟩],none⟩]
def abh(Pb:Nat)(va:Value)(ga n:Nat):Nat->Value
 |0=>.pointer (some ⟨Pb,0,none⟩)
 |1=>.pointer (some ⟨Pb,0,none⟩)
 |2=>.pointer (some ⟨Pb,2,none⟩)
 |3=>va
 |4=>.pointer (some ⟨Pb,0,none⟩)
 |5=>.pointer (some ⟨Pb,0,none⟩)
 |6=>.pointer (some ⟨Pb,2,none⟩)
 |7=>va
 |8=>.int .i64 ((n:Int)+1)
 |9=>.int .i64 (n:Int)
 |10=>.pointer (some ⟨ga,n*3,none⟩)
 |11=>.pointer (some ⟨ga,n*3,none⟩)
 |_=>undef
theorem ae0 
    (z:a0.tmps.size=146)(t0:a0.tmps.getD 0 undef=.pointer (some ⟨Pb,0,none⟩))(h:Own w0 B Pb vn vh va ns hs (l++[p]))(v:va=.slice (some ⟨ga,0,none⟩) (l.length+1) gc)(J:l.length<=1000000)
    (post:∀a:Act,a.tmps.size=a0.tmps.size->a.defers=a0.defers->(∀t,t≠12->t<106\/116<t->a.tmps.getD t undef=a0.tmps.getD t undef)->a.tmps.getD 12 undef=.pointer (some ⟨ga,l.length*3,none⟩)->Q .normal a {w0 with drawn:=w0.drawn+1}) :
    (Code.region 16 JD true).wpIn (FW none) m Tryz.prog Q a0 w0:=by
  have c0:w0.cell? ⟨Pb,2,none⟩=some (.slice (some ⟨ga,0,none⟩) (l.length+1) gc):=by rw[<-v];simp[World.cell?,h.box]
  have I:IntKind.i64.wrap (l.length:Int)=(l.length:Int):=wrap_eq ω ω;refine acF (abh Pb (.slice (some ⟨ga,0,none⟩) (l.length+1) gc) ga l.length) zB rfl (by rw[z];rfl) ?_ ?_
  .intro L val a i o k s f n;have hi:i<12:=(qAa.1 k).1;have Q:=uO (w:={w0 with drawn:=w0.drawn+1}) (qs:=[]) (ts:=[0]) (kv:=abh Pb (.slice (some ⟨ga,0,none⟩) (l.length+1) gc) ga l.length) (sl:=λ|0=>.pointer (some ⟨Pb,0,none⟩) |_=>undef) (cell:=w0.cell?) rfl (by intro t y;simp at y;subst y;exact t0) k σ s (λj h _=>f j h) n (λ_ _ h=>h);rcases(show i=0\/i=1\/i=2\/i=3\/i=4\/i=5\/i=6\/i=7\/i=8\/i=9\/i=10\/i=11 by omega)with rfl|rfl|rfl|rfl|rfl|rfl|rfl|rfl|rfl|rfl|rfl|rfl;all_goals (have r:=k;simp[JD]at r;subst r)
   all_goals first
    |exact Q rfl
    |exact Q c0
    |skip
   .have G:a.eval (.tmp 113)=.slice (some ⟨ga,0,none⟩) (l.length+1) gc:=(n.at_ ⟨7,.data⟩ σ rfl 113 rfl).trans (f 7 (s ⟨7,.data⟩ σ rfl));refine⟨rfl,by simp[Oper.about,resolve,Target.leads],(λc h=>by cases h),?_⟩;show _=okV (.int .i64 ((l.length:Int)+1)) {w0 with drawn:=w0.drawn+1};simp[execOp,resolve,invoke,builtin,go_sem,fA G]
   .have F:a.eval (.tmp 114)=.int .i64 ((l.length:Int)+1):=(n.at_ ⟨8,.data⟩ σ rfl 114 rfl).trans (f 8 (s ⟨8,.data⟩ σ rfl));have q:=I;refine qY rfl rfl ?_;show _=okV (.int .i64 (l.length:Int)) {w0 with drawn:=w0.drawn+1};simp only[execOp,F];simp[go_sem,q]
   .have H:a.eval (.tmp 109)=.slice (some ⟨ga,0,none⟩) (l.length+1) gc:=(n.at_ ⟨3,.data⟩ σ rfl 109 rfl).trans (f 3 (s ⟨3,.data⟩ σ rfl));have E:a.eval (.tmp 115)=.int .i64 (l.length:Int):=(n.at_ ⟨9,.data⟩ σ rfl 115 rfl).trans (f 9 (s ⟨9,.data⟩ σ rfl));have q:=(show(l.length:Int)<l.length+1 by omega);refine qY rfl rfl ?_;show _=okV (.pointer (some ⟨ga,l.length*3,none⟩)) {w0 with drawn:=w0.drawn+1};simp only[execOp,H,E];simp[Instr.indexAt,go_sem,q]
  .intro L val a b f u;refine post a u.size u.defers (λt C y=>u.keep t λi o k e=>?_) ((u.at 11 (d:=12) rfl (b 11 δ)).trans (f 11 (b 11 δ)));have D:((List.range 12).all λi=>match JD[i]?.bind (·.dst)with |some d=>Nat.beq d 12||(Nat.ble 106 d&&Nat.ble d 116) |none=>true)=true:=rfl;have A:=List.all_eq_true.1 D i (List.mem_range.2 (qAa.1 k).1);simp only[k,qOb,e,Bool.or_eq_true,Nat.beq_eq,qBa,Nat.ble_eq]at A;omega
def yc:Array Oper:=#[
 ⟨some 117,.move (.tmp 12),136,"program.go:268",#[],none⟩,
 ⟨some 118,.move (.tmp 12),136,"program.go:268",#[],none⟩,
 ⟨some 119,.nilCheck (.tmp 118),0,"program.go:268",#[⟨1,.data⟩],none⟩,
 ⟨some 120,.fieldAddr 72 (.tmp 119) 2,0,"program.go:268",#[⟨2,.data⟩],none⟩,
 ⟨some 121,.load 70 (.tmp 120),70,"program.go:268",#[⟨3,.data⟩],none⟩,
 ⟨some 122,.move (.tmp 10),59,"program.go:268",#[],none⟩,
 ⟨some 123,.indexAddr 59 (.tmp 122) (.const (.int .i64 0)),0,"program.go:268",#[⟨5,.data⟩],none⟩,
 ⟨some 124,.load 3 (.tmp 123),3,"program.go:268",#[⟨6,.data⟩],none⟩,
 ⟨some 125,.move (.tmp 10),59,"program.go:268",#[],none⟩,
 ⟨some 126,.indexAddr 59 (.tmp 125) (.const (.int .i64 1)),0,"program.go:268",#[⟨8,.data⟩],none⟩,
 ⟨some 127,.load 3 (.tmp 126),3,"program.go:268",#[⟨9,.data⟩],none⟩,
 ⟨some 128,.move (.tmp 10),59,"program.go:268",#[],none⟩,
 ⟨some 129,.indexAddr 59 (.tmp 128) (.const (.int .i64 2)),0,"program.go:268",#[⟨11,.data⟩],none⟩,
 ⟨some 130,.load 3 (.tmp 129),3,"program.go:268",#[⟨12,.data⟩],none⟩,
 ⟨some 131,.build 66 #[(0,.tmp 124),(1,.tmp 127),(2,.tmp 130)],66,"program.go:268",#[⟨7,.data⟩,⟨10,.data⟩,⟨13,.data⟩],none⟩,
 ⟨some 132,.move (.tmp 10),59,"program.go:268",#[],none⟩,
 ⟨some 133,.indexAddr 59 (.tmp 132) (.const (.int .i64 3)),0,"program.go:268",#[⟨15,.data⟩],none⟩,
 ⟨some 134,.load 3 (.tmp 133),3,"program.go:268",#[⟨16,.data⟩],none⟩,
 ⟨some 135,.move (.tmp 10),59,"program.go:268",#[],none⟩,
 ⟨some 136,.indexAddr 59 (.tmp 135) (.const (.int .i64 4)),0,"program.go:268",#[⟨18,.data⟩],none⟩,
 ⟨some 137,.load 3 (.tmp 136),3,"program.go:268",#[⟨19,.data⟩],none⟩,
 ⟨some 138,.move (.tmp 10),59,"program.go:268",#[],none⟩,
 ⟨some 139,.indexAddr 59 (.tmp 138) (.const (.int .i64 5)),0,"program.go:268",#[⟨21,.data⟩],none⟩,
 ⟨some 140,.load 3 (.tmp 139),3,"program.go:268",#[⟨22,.data⟩],none⟩,
 ⟨some 141,.build 82 #[(0,.tmp 131),(1,.tmp 134),(2,.tmp 137),(3,.tmp 140)],82,"program.go:268",#[⟨14,.data⟩,⟨17,.data⟩,⟨20,.data⟩,⟨23,.data⟩],none⟩,
 ⟨some 142,.buildSlice 70 1 #[(0,.tmp 141)],70,"program.go:268",#[⟨24,.data⟩],none⟩,
 ⟨some 143,.call {callee:=.builtin .append,args:=#[.tmp 121,.tmp 142],argTypes:=#[70,70]},70,"program.go:268",#[⟨4,.data⟩,⟨25,.data⟩],none⟩,
 ⟨some 144,.nilCheck (.tmp 117),0,"program.go:268",#[⟨0,.data⟩,⟨0,.phase⟩,⟨1,.phase⟩,⟨2,.phase⟩,⟨3,.phase⟩,⟨4,.phase⟩,⟨5,.phase⟩,⟨6,.phase⟩,⟨7,.phase⟩,⟨8,.phase⟩,⟨9,.phase⟩,⟨10,.phase⟩,⟨11,.phase⟩,⟨12,.phase⟩,⟨13,.phase⟩,⟨14,.phase⟩,⟨15,.phase⟩,⟨16,.phase⟩,⟨17,.phase⟩,⟨18,.phase⟩,⟨19,.phase⟩,⟨20,.phase⟩,⟨21,.phase⟩,⟨22,.phase⟩,⟨23,.phase⟩,⟨24,.phase⟩,⟨25,.phase⟩,⟨26,.phase⟩],none⟩,
 ⟨some 145,.fieldAddr 72 (.tmp 144) 2,0,"program.go:268",#[⟨27,.data⟩,⟨0,.phase⟩,⟨1,.phase⟩,⟨2,.phase⟩,⟨3,.phase⟩,⟨4,.phase⟩,⟨5,.phase⟩,⟨6,.phase⟩,⟨7,.phase⟩,⟨8,.phase⟩,⟨9,.phase⟩,⟨10,.phase⟩,⟨11,.phase⟩,⟨12,.phase⟩,⟨13,.phase⟩,⟨14,.phase⟩,⟨15,.phase⟩,⟨16,.phase⟩,⟨17,.phase⟩,⟨18,.phase⟩,⟨19,.phase⟩,⟨20,.phase⟩,⟨21,.phase⟩,⟨22,.phase⟩,⟨23,.phase⟩,⟨24,.phase⟩,⟨25,.phase⟩,⟨26,.phase⟩],none⟩,
 ⟨none,.store 70 (.tmp 145) (.tmp 143),0,"program.go:268",#[⟨28,.data⟩,⟨26,.data⟩,⟨26,.chain⟩,⟨0,.phase⟩,⟨1,.phase⟩,⟨2,.phase⟩,⟨3,.phase⟩,⟨4,.phase⟩,⟨5,.phase⟩,⟨6,.phase⟩,⟨7,.phase⟩,⟨8,.phase⟩,⟨9,.phase⟩,⟨10,.phase⟩,⟨11,.phase⟩,⟨12,.phase⟩,⟨13,.phase⟩,⟨14,.phase⟩,⟨15,.phase⟩,⟨16,.phase⟩,⟨17,.phase⟩,⟨18,.phase⟩,⟨19,.phase⟩,⟨20,.phase⟩,⟨21,.phase⟩,⟨22,.phase⟩,⟨23,.phase⟩,⟨24,.phase⟩,⟨25,.phase⟩,⟨26,.phase⟩],none⟩]
def abj(pv iv:Value)(bi oi ga n:Nat)(x:Mv):Nat->Value
 |0=>.pointer (some ⟨ga,n*3,none⟩)
 |1=>.pointer (some ⟨ga,n*3,none⟩)
 |2=>.pointer (some ⟨ga,n*3,none⟩)
 |3=>.pointer (some ⟨ga,n*3+2,none⟩)
 |4=>pv
 |5=>iv
 |6=>.pointer (some ⟨bi,oi,none⟩)
 |7=>.int .i64 x.to.x
 |8=>iv
 |9=>.pointer (some ⟨bi,oi+1,none⟩)
 |10=>.int .i64 x.to.y
 |11=>iv
 |12=>.pointer (some ⟨bi,oi+2,none⟩)
 |13=>.int .i64 x.to.z
 |14=>.agg #[.int .i64 x.to.x,.int .i64 x.to.y,.int .i64 x.to.z]
 |15=>iv
 |16=>.pointer (some ⟨bi,oi+3,none⟩)
 |17=>.int .i64 x.wait
 |18=>iv
 |19=>.pointer (some ⟨bi,oi+4,none⟩)
 |20=>.int .i64 x.fl
 |21=>iv
 |22=>.pointer (some ⟨bi,oi+5,none⟩)
 |23=>.int .i64 x.rise
 |24=>.agg #[.int .i64 x.to.x,.int .i64 x.to.y,.int .i64 x.to.z,.int .i64 x.wait,.int .i64 x.fl,.int .i64 x.rise]
 |27=>.pointer (some ⟨ga,n*3,none⟩)
 |28=>.pointer (some ⟨ga,n*3+2,none⟩)
 |_=>undef
theorem ae1{x:Mv} 
    (ha:a0.tmps.size=146)(K:a0.tmps.getD 12 undef=.pointer (some ⟨ga,l.length*3,none⟩))(M:a0.tmps.getD 10 undef=.slice (some ⟨bi,oi,none⟩) im ic)(him:5<im)(h0:w0.cell? ⟨bi,oi,none⟩=some (.int .i64 x.to.x))(h1:w0.cell? ⟨bi,oi+1,none⟩=some (.int .i64 x.to.y))(h2:w0.cell? ⟨bi,oi+2,none⟩=some (.int .i64 x.to.z))(h3:w0.cell? ⟨bi,oi+3,none⟩=some (.int .i64 x.wait))(h4:w0.cell? ⟨bi,oi+4,none⟩=some (.int .i64 x.fl))(h5:w0.cell? ⟨bi,oi+5,none⟩=some (.int .i64 x.rise))(u:p.2.ownBlock≠some bi)
    (h:Own w0 B Pb vn vh va ns hs (l++[p]))(hB:B<=w0.heap.size)(F:va=.slice (some ⟨ga,0,none⟩) (l.length+1) gc)(hn:p.1.dG.length+1<=1000000)
    (post:∀(a:Act) (w:World) (v':Value),a.tmps.size=a0.tmps.size->a.defers=a0.defers->(∀t,t<117\/145<t->a.tmps.getD t undef=a0.tmps.getD t undef)->Own (w.setCell ⟨ga,l.length*3+2,none⟩ v') B Pb vn vh va ns hs (l++[({p.1 with dG:=p.1.dG++[x]},v')])->w0.grownBy w p.2.ownBlock ->
      (∀g,v'.ownBlock=some g->p.2.ownBlock=some g\/w0.heap.size<=g)->Q .normal a (w.setCell ⟨ga,l.length*3+2,none⟩ v')) :
    (Code.region 17 yc true).wpIn (FW none) m Tryz.prog Q a0 w0:=by
  obtain⟨i0,hi,P,O,N⟩:=info_parts aeQ;have H:xU w0 B ((Jb vn ns::JC vh hs::wo va (l++[p])::l.map F6)++F6 p::[]):=by simpa[yP] using h.rows
  have G:=h.rows.own (wo va (l++[p])) (by simp[yP]);have C:(wo va (l++[p])).v.ownBlock=some ga:=by rw[F];rfl
  have na:p.2.ownBlock≠some ga:=H.mid (wo va (l++[p])) σ ga C;have ca:w0.cell? ⟨ga,l.length*3+2,none⟩=some p.2:=PS G C (by show(Y5 (l++[p]))[l.length*3+2]?=_;rw[Ox,List.getElem?_append_right (by rw[F7];omega),F7,show l.length*3+2-l.length*3=2 by omega];rfl)
  refine F5 zB rfl (by rw[ha];rfl) (abj p.2 (.slice (some ⟨bi,oi,none⟩) im ic) bi oi ga l.length x) (iB:=25) (iA:=26) (iS:=29) ⟨δ,δ,δ⟩ (B:=B) (pre:=Jb vn ns::JC vh hs::wo va (l++[p])::l.map F6) (r:=F6 p) (post:=[]) (news:=mvC x) (sa:=⟨ga,l.length*3+2,none⟩) H hB
   70 i0 _ 48 Tryz.underlying70 hi P O N rfl (show 0<6 by decide) δ rfl (by simp[mvC,Value.oneCell']) hn rfl rfl ⟨_,rfl⟩ ?_ ?_ ?_ ?_ ?_
  .intro L val a w i o A n1 n2 n3 n f d hr;have hi:i<30:=(qAa.1 A).1;have Q:=uO (w:=w) (qs:=[25,26,29]) (ts:=[10,12]) (kv:=abj p.2 (.slice (some ⟨bi,oi,none⟩) im ic) bi oi ga l.length x) (sl:=λ|10=>.slice (some ⟨bi,oi,none⟩) im ic |12=>.pointer (some ⟨ga,l.length*3,none⟩) |_=>undef) (cell:=cl1 w0 p.2.ownBlock) rfl (by intro t J;simp at J;rcases J with rfl|rfl;exact M;exact K) A (by simp[n1,n2,n3]) n (λj h q=>f j h (λe=>q (by simp[e])) (λe=>q (by simp[e])) λe=>q (by simp[e])) d λad x h=>hr ad x (vF h).1 (vF h).2;rcases(show i=0\/i=1\/i=2\/i=3\/i=4\/i=5\/i=6\/i=7\/i=8\/i=9\/i=10\/i=11\/i=12\/i=13\/i=14\/i=15\/i=16\/i=17\/i=18\/i=19\/i=20\/i=21\/i=22\/i=23\/i=24\/i=25\/i=26\/i=27\/i=28\/i=29 by omega)with rfl|rfl|rfl|rfl|rfl|rfl|rfl|rfl|rfl|rfl|rfl|rfl|rfl|rfl|rfl|rfl|rfl|rfl|rfl|rfl|rfl|rfl|rfl|rfl|rfl|rfl|rfl|rfl|rfl|rfl;all_goals (have b:=A;simp[yc]at b;subst b)
   all_goals first
    |exact absurd rfl n1
    |exact absurd rfl n2
    |exact absurd rfl n3
    |exact Q rfl
    |exact Q (if_pos ⟨δ,ω⟩)
    |exact Q (sQ ca na)
    |exact Q (sQ h0 u)
    |exact Q (sQ h1 u)
    |exact Q (sQ h2 u)
    |exact Q (sQ h3 u)
    |exact Q (sQ h4 u)
    |exact Q (sQ h5 u)
    |skip
   .have g7:a.eval (.tmp 124)=.int .i64 x.to.x:=(d.at_ ⟨7,.data⟩ σ rfl 124 rfl).trans (f 7 (n ⟨7,.data⟩ σ rfl) δ δ δ);have g10:a.eval (.tmp 127)=.int .i64 x.to.y:=(d.at_ ⟨10,.data⟩ σ rfl 127 rfl).trans (f 10 (n ⟨10,.data⟩ σ rfl) δ δ δ);have g13:a.eval (.tmp 130)=.int .i64 x.to.z:=(d.at_ ⟨13,.data⟩ σ rfl 130 rfl).trans (f 13 (n ⟨13,.data⟩ σ rfl) δ δ δ);refine qY rfl rfl ?_;show _=okV (.agg #[.int .i64 x.to.x,.int .i64 x.to.y,.int .i64 x.to.z]) w;simp[execOp,go_sem,fA g7,fA g10,fA g13]
   .have g14:a.eval (.tmp 131)=.agg #[.int .i64 x.to.x,.int .i64 x.to.y,.int .i64 x.to.z]:=(d.at_ ⟨14,.data⟩ σ rfl 131 rfl).trans (f 14 (n ⟨14,.data⟩ σ rfl) δ δ δ);have g17:a.eval (.tmp 134)=.int .i64 x.wait:=(d.at_ ⟨17,.data⟩ σ rfl 134 rfl).trans (f 17 (n ⟨17,.data⟩ σ rfl) δ δ δ);have Z:a.eval (.tmp 137)=.int .i64 x.fl:=(d.at_ ⟨20,.data⟩ σ rfl 137 rfl).trans (f 20 (n ⟨20,.data⟩ σ rfl) δ δ δ);have Y:a.eval (.tmp 140)=.int .i64 x.rise:=(d.at_ ⟨23,.data⟩ σ rfl 140 rfl).trans (f 23 (n ⟨23,.data⟩ σ rfl) δ δ δ);refine qY rfl rfl ?_;show _=okV (.agg #[.int .i64 x.to.x,.int .i64 x.to.y,.int .i64 x.to.z,.int .i64 x.wait,.int .i64 x.fl,.int .i64 x.rise]) w;simp[execOp,go_sem,fA g14,fA g17,fA Z,fA Y]
  .intro L val a w o A n f d;have b:=A;simp[yc]at b;subst b;have X:a.eval (.tmp 141)=.agg #[.int .i64 x.to.x,.int .i64 x.to.y,.int .i64 x.to.z,.int .i64 x.wait,.int .i64 x.fl,.int .i64 x.rise]:=(d.at_ ⟨24,.data⟩ σ rfl 141 rfl).trans (f 24 (n ⟨24,.data⟩ σ rfl) δ δ δ);exact⟨rfl,by simp[Oper.about],(λc h=>by cases h),by simp[execOp,go_sem,fA X,F6,mvC]⟩
  .intro L val a w o A n f d;have b:=A;simp[yc]at b;subst b;have g4:a.eval (.tmp 121)=p.2:=(d.at_ ⟨4,.data⟩ σ rfl 121 rfl).trans (f 4 (n ⟨4,.data⟩ σ rfl) δ δ δ);have V:a.eval (.tmp 142)=val 25:=d.at_ ⟨25,.data⟩ σ rfl 142 rfl;refine⟨rfl,by simp[Oper.about,resolve,Target.leads],(λc h=>by cases h),λv' w' E=>?_⟩;simp only[execOp,resolve,invoke,builtin,Sem.run_bind,Sem.run_pure,qRa,List.map_toArray,List.map_cons,List.map_nil,g4,V];have E:(Builtin.append_ #[70,70] 70 #[p.2,val 25]).run Tryz.prog w=.ok v' w':=E;rw[E];rfl
  .intro L val a w o A n f d o1 o2 hr R;have b:=A;simp[yc]at b;subst b;have T:a.eval (.tmp 145)=.pointer (some ⟨ga,l.length*3+2,none⟩):=(d.at_ ⟨28,.data⟩ σ rfl 145 rfl).trans (f 28 (n ⟨28,.data⟩ σ rfl) δ δ δ);have U:a.eval (.tmp 143)=val 26:=d.at_ ⟨26,.data⟩ σ rfl 143 rfl;obtain⟨I,s,D⟩:=TW G C;have s:w.heap[ga]?=some (.cells I 72 (0,0)):=(R.block ga (qAa.1 s).1 (λe=>na e.symm)).trans s;have D:(l++[p]).length*3<=I.size:=D;have q:=qw (t:=70) (k:=l.length*3+2) aeR s (by simp at D;omega) o1 o2;refine qY rfl rfl ?_;simp only[execOp,T,U];simp[q]
  .intro val a w f S hg hR hf;refine post a w (val 26) S.size S.defers (λt J=>S.keep t λi o A e=>?_) (h.move F hg hR) hg hf;exact dsO (lo:=117) (hi:=145) rfl A e J
end Go.Skm.Prg
