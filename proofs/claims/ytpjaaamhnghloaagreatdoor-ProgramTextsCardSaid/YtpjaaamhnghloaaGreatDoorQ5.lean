import Derived.Test.YtpjaaamhnghloaaGreatDoorQQ
import Derived.Test.YtpjaaamhnghloaaGreatDoorAll3
set_option linter.all false
namespace Go.Skm.Prg
open Go Go.Skm Go.Proofs Go.RowKit Go.Shelf
variable {g:List UInt8}{v va vh vn:Value}{B Pb bi bw ic im m oi ow wc wn:Nat}{Q:Exit -> Act -> World -> Prop}{w0:World}{a0:Act}{ns:List (List UInt8)}{hs:List V3}{l:List (Ac × Value)}
theorem info9:(Tryz.prog.info? 9).map (λi=>(i.zero,i.size,i.bytes))=some (some (.string ByteArray.empty),1,16):=τ
theorem aeO:(Tryz.prog.info? 66).map (λi=>(i.zero,i.size,i.bytes))=some (some (.agg #[.int .i64 0,.int .i64 0,.int .i64 0]),3,24):=τ
theorem aeP:(Tryz.prog.info? 72).map (λi=>(i.zero,i.size,i.bytes))=some (some (.agg #[.string ByteArray.empty,.int .i64 0,.slice none 0 0]),3,48):=τ
theorem aeQ:(Tryz.prog.info? 82).map (λi=>(i.zero,i.size,i.bytes))=some (some (.agg #[.int .i64 0,.int .i64 0,.int .i64 0,.int .i64 0,.int .i64 0,.int .i64 0]),6,48):=τ
theorem info22:(Tryz.prog.info? 22).map (λi=>(i.zero,i.size,i.bytes))=some (some (.slice none 0 0),1,24):=τ
theorem info23:(Tryz.prog.info? 23).map (λi=>(i.zero,i.size,i.bytes))=some (some (.slice none 0 0),1,24):=τ
theorem info24:(Tryz.prog.info? 24).map (λi=>(i.zero,i.size,i.bytes))=some (some (.slice none 0 0),1,24):=τ
theorem aeR:(Tryz.prog.info? 70).map (λi=>(i.zero,i.size,i.bytes))=some (some (.slice none 0 0),1,24):=τ
theorem qw{t e:TypeId}{j:Nat}{w:World}{g k:Nat}{xs:Array Value}(hinfo:(Tryz.prog.info? t).map (λi=>(i.zero,i.size,i.bytes))=some (some (.slice none 0 0),1,j))
    (x:w.heap[g]?=some (.cells xs e (0,0)))(s:k<xs.size)(d:v.cells=#[v])(q:v.oneCell'=true) :
    (Instr.storeAt t (.pointer (some ⟨g,k,none⟩)) v).run Tryz.prog w=.ok () (w.setCell ⟨g,k,none⟩ v):=by
  obtain⟨i0,hi,p,f,n⟩:=info_parts hinfo;have a:w.heap[g]?=some (.cells xs.toList.toArray e (0,0)):=by simpa using x
  have:=qN (P:=Tryz.prog) (t:=t) (b:=g) (o:=k) (c:=v) hi (by rw[d,f];rfl) a (.inl rfl) (by rw[d];simp;omega) (λu h=>by rw[d]at h;simp at h;rw[h];exact q);have e:=OU xs.toList k v (by simpa using s);have r:v.cells.toList=[v]:=by rw[d]
  have y:=setCell_eq (i:=k) (v:=v) a;rw[r,e]at this;rw[this,y]
theorem fA{a:Act}{t:Nat}(h:a.eval (.tmp t)=v):a.tmps[t]?.getD undef=v:=by rw[<-h];show _=a.tmps.getD t undef;rw[qAb]
def xW:Array Oper:=#[
 ⟨some 56,.fieldAddr 26 (.tmp 4) 0,0,"ref.go:229",#[],none⟩,
 ⟨some 57,.load 22 (.tmp 56),22,"ref.go:229",#[⟨0,.data⟩],none⟩,
 ⟨some 58,.move (.tmp 7),22,"ref.go:229",#[],none⟩,
 ⟨some 59,.indexAddr 22 (.tmp 58) (.const (.int .i64 1)),0,"ref.go:229",#[⟨2,.data⟩],none⟩,
 ⟨some 60,.load 9 (.tmp 59),9,"ref.go:229",#[⟨3,.data⟩],none⟩,
 ⟨some 61,.buildSlice 22 1 #[(0,.tmp 60)],22,"ref.go:229",#[⟨4,.data⟩],none⟩,
 ⟨some 62,.call {callee:=.builtin .append,args:=#[.tmp 57,.tmp 61],argTypes:=#[22,22]},22,"ref.go:229",#[⟨1,.data⟩,⟨5,.data⟩],none⟩,
 ⟨some 63,.fieldAddr 26 (.tmp 4) 0,0,"ref.go:229",#[⟨0,.phase⟩,⟨1,.phase⟩,⟨2,.phase⟩,⟨3,.phase⟩,⟨4,.phase⟩,⟨5,.phase⟩,⟨6,.phase⟩],none⟩,
 ⟨none,.store 22 (.tmp 63) (.tmp 62),0,"ref.go:229",#[⟨7,.data⟩,⟨6,.data⟩,⟨6,.chain⟩,⟨0,.phase⟩,⟨1,.phase⟩,⟨2,.phase⟩,⟨3,.phase⟩,⟨4,.phase⟩,⟨5,.phase⟩,⟨6,.phase⟩],none⟩]
def abb(Pb:Nat)(vn wv:Value)(bw ow:Nat)(g:List UInt8):Nat->Value
 |0=>.pointer (some ⟨Pb,0,none⟩)
 |1=>vn
 |2=>wv
 |3=>.pointer (some ⟨bw,ow+1,none⟩)
 |4=>.string (ba g)
 |7=>.pointer (some ⟨Pb,0,none⟩)
 |_=>undef
theorem aeS 
    (R:a0.tmps.size=165)(J:a0.tmps.getD 4 undef=.pointer (some ⟨Pb,0,none⟩))(I:a0.tmps.getD 7 undef=.slice (some ⟨bw,ow,none⟩) wn wc)(Z:1<wn)(y:w0.cell? ⟨bw,ow+1,none⟩=some (.string (ba g)))(E:vn.ownBlock≠some bw)
    (h:Own w0 B Pb vn vh va ns hs l)(T:B<=w0.heap.size)(O:ns.length+1<=1000000)
    (post:∀(a:Act) (w:World) (v':Value),a.tmps.size=a0.tmps.size->a.defers=a0.defers->(∀t,t<56\/63<t->a.tmps.getD t undef=a0.tmps.getD t undef)->Own (w.setCell ⟨Pb,0,none⟩ v') B Pb v' vh va (ns++[g]) hs l->w0.grownBy w vn.ownBlock ->
      (∀g,v'.ownBlock=some g->vn.ownBlock=some g\/w0.heap.size<=g)->Q .normal a (w.setCell ⟨Pb,0,none⟩ v')) :
    (Code.region 18 xW true).wpIn (FW none) m Tryz.prog Q a0 w0:=by
  obtain⟨i0,hi,C,A,z⟩:=info_parts info9;have c0:w0.cell? ⟨Pb,0,none⟩=some vn:=by simp[World.cell?,h.box]
  have N:vn.ownBlock≠some Pb:=λe=>(h.blk (.inl e)).2.2 rfl
  refine F5 zB rfl (by rw[R];rfl) (abb Pb vn (.slice (some ⟨bw,ow,none⟩) wn wc) bw ow g) (iB:=5) (iA:=6) (iS:=8) ⟨δ,δ,δ⟩ (B:=B) (pre:=[]) (r:=Jb vn ns) (post:=[JC vh hs,wo va l]++l.map F6) (news:=[.string (ba g)]) (sa:=⟨Pb,0,none⟩) h.rows T
   22 i0 _ 16 Tryz.underlying22 hi C A z rfl (show 0<1 by decide) δ rfl (by simp[Value.oneCell']) O rfl rfl ⟨_,rfl⟩ ?_ ?_ ?_ ?_ ?_
  .intro L val a w i o d n1 n2 G p n f H;have hi:i<9:=(qAa.1 d).1;have Q:=uO (w:=w) (qs:=[5,6,8]) (ts:=[4,7]) (kv:=abb Pb vn (.slice (some ⟨bw,ow,none⟩) wn wc) bw ow g) (sl:=λ|4=>.pointer (some ⟨Pb,0,none⟩) |7=>.slice (some ⟨bw,ow,none⟩) wn wc |_=>undef) (cell:=cl1 w0 vn.ownBlock) rfl (by intro t u;simp at u;rcases u with rfl|rfl;exact J;exact I) d (by simp[n1,n2,G]) p (λj h q=>n j h (λe=>q (by simp[e])) (λe=>q (by simp[e])) λe=>q (by simp[e])) f λY x h=>H Y x (vF h).1 (vF h).2;rcases(show i=0\/i=1\/i=2\/i=3\/i=4\/i=5\/i=6\/i=7\/i=8 by omega)with rfl|rfl|rfl|rfl|rfl|rfl|rfl|rfl|rfl;all_goals (have b:=d;simp[xW]at b;subst b)
   all_goals first
    |exact absurd rfl n1
    |exact absurd rfl n2
    |exact absurd rfl G
    |exact Q rfl
    |exact Q (if_pos ⟨δ,ω⟩)
    |exact Q (sQ c0 N)
    |exact Q (sQ y E)
  .intro L val a w o d p n f;have b:=d;simp[xW]at b;subst b;have W:a.eval (.tmp 60)=.string (ba g):=(f.at_ ⟨4,.data⟩ σ rfl 60 rfl).trans (n 4 (p ⟨4,.data⟩ σ rfl) δ δ δ);exact⟨rfl,by simp[Oper.about],(λc h=>by cases h),by simp[execOp,go_sem,fA W,Jb]⟩
  .intro L val a w o d p n f;have b:=d;simp[xW]at b;subst b;have X:a.eval (.tmp 57)=vn:=(f.at_ ⟨1,.data⟩ σ rfl 57 rfl).trans (n 1 (p ⟨1,.data⟩ σ rfl) δ δ δ);have V:a.eval (.tmp 61)=val 5:=f.at_ ⟨5,.data⟩ σ rfl 61 rfl;refine⟨rfl,by simp[Oper.about,resolve,Target.leads],(λc h=>by cases h),λv' w' s=>?_⟩;simp only[execOp,resolve,invoke,builtin,Sem.run_bind,Sem.run_pure,qRa,List.map_toArray,List.map_cons,List.map_nil,X,V];have s:(Builtin.append_ #[22,22] 22 #[vn,val 5]).run Tryz.prog w=.ok v' w':=s;rw[s];rfl
  .intro L val a w o d p n f M K H D;have b:=d;simp[xW]at b;subst b;have U:a.eval (.tmp 63)=.pointer (some ⟨Pb,0,none⟩):=(f.at_ ⟨7,.data⟩ σ rfl 63 rfl).trans (n 7 (p ⟨7,.data⟩ σ rfl) δ δ δ);have g6:a.eval (.tmp 62)=val 6:=f.at_ ⟨6,.data⟩ σ rfl 62 rfl;have q:=qw (t:=22) (k:=0) info22 (uN h (r:=Jb vn ns) (by simp[yP]) D) (show 0<3 by decide) M K;refine qY rfl rfl ?_;simp only[execOp,U,g6];simp[q]
  .intro val a w n F y S P;refine post a w (val 6) F.size F.defers (λt u=>F.keep t λi o d e=>?_) (h.name y S) y P;exact dsO (lo:=56) (hi:=63) rfl d e u
def xX:Array Oper:=#[
 ⟨some 64,.fieldAddr 26 (.tmp 4) 1,0,"ref.go:230",#[],none⟩,
 ⟨some 65,.load 23 (.tmp 64),23,"ref.go:230",#[⟨0,.data⟩],none⟩,
 ⟨some 66,.move (.tmp 9),59,"ref.go:230",#[],none⟩,
 ⟨some 67,.indexAddr 59 (.tmp 66) (.const (.int .i64 0)),0,"ref.go:230",#[⟨2,.data⟩],none⟩,
 ⟨some 68,.load 3 (.tmp 67),3,"ref.go:230",#[⟨3,.data⟩],none⟩,
 ⟨some 69,.move (.tmp 9),59,"ref.go:230",#[],none⟩,
 ⟨some 70,.indexAddr 59 (.tmp 69) (.const (.int .i64 1)),0,"ref.go:230",#[⟨5,.data⟩],none⟩,
 ⟨some 71,.load 3 (.tmp 70),3,"ref.go:230",#[⟨6,.data⟩],none⟩,
 ⟨some 72,.move (.tmp 9),59,"ref.go:230",#[],none⟩,
 ⟨some 73,.indexAddr 59 (.tmp 72) (.const (.int .i64 2)),0,"ref.go:230",#[⟨8,.data⟩],none⟩,
 ⟨some 74,.load 3 (.tmp 73),3,"ref.go:230",#[⟨9,.data⟩],none⟩,
 ⟨some 75,.build 66 #[(0,.tmp 68),(1,.tmp 71),(2,.tmp 74)],66,"ref.go:230",#[⟨4,.data⟩,⟨7,.data⟩,⟨10,.data⟩],none⟩,
 ⟨some 76,.buildSlice 23 1 #[(0,.tmp 75)],23,"ref.go:230",#[⟨11,.data⟩],none⟩,
 ⟨some 77,.call {callee:=.builtin .append,args:=#[.tmp 65,.tmp 76],argTypes:=#[23,23]},23,"ref.go:230",#[⟨1,.data⟩,⟨12,.data⟩],none⟩,
 ⟨some 78,.fieldAddr 26 (.tmp 4) 1,0,"ref.go:230",#[⟨0,.phase⟩,⟨1,.phase⟩,⟨2,.phase⟩,⟨3,.phase⟩,⟨4,.phase⟩,⟨5,.phase⟩,⟨6,.phase⟩,⟨7,.phase⟩,⟨8,.phase⟩,⟨9,.phase⟩,⟨10,.phase⟩,⟨11,.phase⟩,⟨12,.phase⟩,⟨13,.phase⟩],none⟩,
 ⟨none,.store 23 (.tmp 78) (.tmp 77),0,"ref.go:230",#[⟨14,.data⟩,⟨13,.data⟩,⟨13,.chain⟩,⟨0,.phase⟩,⟨1,.phase⟩,⟨2,.phase⟩,⟨3,.phase⟩,⟨4,.phase⟩,⟨5,.phase⟩,⟨6,.phase⟩,⟨7,.phase⟩,⟨8,.phase⟩,⟨9,.phase⟩,⟨10,.phase⟩,⟨11,.phase⟩,⟨12,.phase⟩,⟨13,.phase⟩],none⟩]
def abd(Pb:Nat)(vh iv:Value)(bi oi:Nat)(x:V3):Nat->Value
 |0=>.pointer (some ⟨Pb,1,none⟩)
 |1=>vh
 |2=>iv
 |3=>.pointer (some ⟨bi,oi,none⟩)
 |4=>.int .i64 x.x
 |5=>iv
 |6=>.pointer (some ⟨bi,oi+1,none⟩)
 |7=>.int .i64 x.y
 |8=>iv
 |9=>.pointer (some ⟨bi,oi+2,none⟩)
 |10=>.int .i64 x.z
 |11=>.agg #[.int .i64 x.x,.int .i64 x.y,.int .i64 x.z]
 |14=>.pointer (some ⟨Pb,1,none⟩)
 |_=>undef
theorem aeT{x:V3}
    (Z:a0.tmps.size=165)(S:a0.tmps.getD 4 undef=.pointer (some ⟨Pb,0,none⟩))(R:a0.tmps.getD 9 undef=.slice (some ⟨bi,oi,none⟩) im ic)(X:2<im)(h0:w0.cell? ⟨bi,oi,none⟩=some (.int .i64 x.x))(h1:w0.cell? ⟨bi,oi+1,none⟩=some (.int .i64 x.y))(h2:w0.cell? ⟨bi,oi+2,none⟩=some (.int .i64 x.z))(s:vh.ownBlock≠some bi)
    (h:Own w0 B Pb vn vh va ns hs l)(hB:B<=w0.heap.size)(W:hs.length+1<=1000000)
    (post:∀(a:Act) (w:World) (v':Value),a.tmps.size=a0.tmps.size->a.defers=a0.defers->(∀t,t<64\/78<t->a.tmps.getD t undef=a0.tmps.getD t undef)->Own (w.setCell ⟨Pb,1,none⟩ v') B Pb vn v' va ns (hs++[x]) l->w0.grownBy w vh.ownBlock ->
      (∀g,v'.ownBlock=some g->vh.ownBlock=some g\/w0.heap.size<=g)->Q .normal a (w.setCell ⟨Pb,1,none⟩ v')) :
    (Code.region 19 xX true).wpIn (FW none) m Tryz.prog Q a0 w0:=by
  obtain⟨i0,hi,E,D,C⟩:=info_parts aeO;have c0:w0.cell? ⟨Pb,1,none⟩=some vh:=by simp[World.cell?,h.box]
  have V:vh.ownBlock≠some Pb:=λe=>(h.blk (.inr (.inl e))).2.2 rfl
  refine F5 zB rfl (by rw[Z];rfl) (abd Pb vh (.slice (some ⟨bi,oi,none⟩) im ic) bi oi x) (iB:=12) (iA:=13) (iS:=15) ⟨δ,δ,δ⟩ (B:=B) (pre:=[Jb vn ns]) (r:=JC vh hs) (post:=[wo va l]++l.map F6) (news:=WQ x) (sa:=⟨Pb,1,none⟩) h.rows hB
   23 i0 _ 24 Tryz.underlying23 hi E D C rfl (show 0<3 by decide) δ rfl (by simp[WQ,Value.oneCell']) W rfl rfl ⟨_,rfl⟩ ?_ ?_ ?_ ?_ ?_
  .intro L val a w i o f n1 n2 N p n d O;have hi:i<16:=(qAa.1 f).1;have Q:=uO (w:=w) (qs:=[12,13,15]) (ts:=[4,9]) (kv:=abd Pb vh (.slice (some ⟨bi,oi,none⟩) im ic) bi oi x) (sl:=λ|4=>.pointer (some ⟨Pb,0,none⟩) |9=>.slice (some ⟨bi,oi,none⟩) im ic |_=>undef) (cell:=cl1 w0 vh.ownBlock) rfl (by intro t A;simp at A;rcases A with rfl|rfl;exact S;exact R) f (by simp[n1,n2,N]) p (λj h q=>n j h (λe=>q (by simp[e])) (λe=>q (by simp[e])) λe=>q (by simp[e])) d λad x h=>O ad x (vF h).1 (vF h).2;rcases(show i=0\/i=1\/i=2\/i=3\/i=4\/i=5\/i=6\/i=7\/i=8\/i=9\/i=10\/i=11\/i=12\/i=13\/i=14\/i=15 by omega)with rfl|rfl|rfl|rfl|rfl|rfl|rfl|rfl|rfl|rfl|rfl|rfl|rfl|rfl|rfl|rfl;all_goals (have b:=f;simp[xX]at b;subst b)
   all_goals first
    |exact absurd rfl n1
    |exact absurd rfl n2
    |exact absurd rfl N
    |exact Q rfl
    |exact Q (if_pos ⟨δ,ω⟩)
    |exact Q (sQ c0 V)
    |exact Q (sQ h0 s)
    |exact Q (sQ h1 s)
    |exact Q (sQ h2 s)
    |skip
   .have g4:a.eval (.tmp 68)=.int .i64 x.x:=(d.at_ ⟨4,.data⟩ σ rfl 68 rfl).trans (n 4 (p ⟨4,.data⟩ σ rfl) δ δ δ);have g7:a.eval (.tmp 71)=.int .i64 x.y:=(d.at_ ⟨7,.data⟩ σ rfl 71 rfl).trans (n 7 (p ⟨7,.data⟩ σ rfl) δ δ δ);have M:a.eval (.tmp 74)=.int .i64 x.z:=(d.at_ ⟨10,.data⟩ σ rfl 74 rfl).trans (n 10 (p ⟨10,.data⟩ σ rfl) δ δ δ);refine qY rfl rfl ?_;show _=okV (.agg #[.int .i64 x.x,.int .i64 x.y,.int .i64 x.z]) w;simp[execOp,go_sem,fA g4,fA g7,fA M]
  .intro L val a w o f p n d;have b:=f;simp[xX]at b;subst b;have K:a.eval (.tmp 75)=.agg #[.int .i64 x.x,.int .i64 x.y,.int .i64 x.z]:=(d.at_ ⟨11,.data⟩ σ rfl 75 rfl).trans (n 11 (p ⟨11,.data⟩ σ rfl) δ δ δ);exact⟨rfl,by simp[Oper.about],(λc h=>by cases h),by simp[execOp,go_sem,fA K,JC,WQ]⟩
  .intro L val a w o f p n d;have b:=f;simp[xX]at b;subst b;have g1:a.eval (.tmp 65)=vh:=(d.at_ ⟨1,.data⟩ σ rfl 65 rfl).trans (n 1 (p ⟨1,.data⟩ σ rfl) δ δ δ);have J:a.eval (.tmp 76)=val 12:=d.at_ ⟨12,.data⟩ σ rfl 76 rfl;refine⟨rfl,by simp[Oper.about,resolve,Target.leads],(λc h=>by cases h),λv' w' u=>?_⟩;simp only[execOp,resolve,invoke,builtin,Sem.run_bind,Sem.run_pure,qRa,List.map_toArray,List.map_cons,List.map_nil,g1,J];have u:(Builtin.append_ #[23,23] 23 #[vh,val 12]).run Tryz.prog w=.ok v' w':=u;rw[u];rfl
  .intro L val a w o f p n d U T O F;have b:=f;simp[xX]at b;subst b;have H:a.eval (.tmp 78)=.pointer (some ⟨Pb,1,none⟩):=(d.at_ ⟨14,.data⟩ σ rfl 78 rfl).trans (n 14 (p ⟨14,.data⟩ σ rfl) δ δ δ);have I:a.eval (.tmp 77)=val 13:=d.at_ ⟨13,.data⟩ σ rfl 77 rfl;have q:=qw (t:=23) (k:=1) info23 (uN h (r:=JC vh hs) (by simp[yP]) F) (show 1<3 by decide) U T;refine qY rfl rfl ?_;simp only[execOp,H,I];simp[q]
  .intro val a w n G P hR Y;refine post a w (val 13) G.size G.defers (λt A=>G.keep t λi o f e=>?_) (h.home P hR) P Y;exact dsO (lo:=64) (hi:=78) rfl f e A
def xY:Array Oper:=#[
 ⟨some 89,.fieldAddr 26 (.tmp 4) 2,0,"ref.go:232",#[],none⟩,
 ⟨some 90,.load 24 (.tmp 89),24,"ref.go:232",#[⟨0,.data⟩],none⟩,
 ⟨some 91,.move (.tmp 7),22,"ref.go:232",#[],none⟩,
 ⟨some 92,.indexAddr 22 (.tmp 91) (.const (.int .i64 1)),0,"ref.go:232",#[⟨2,.data⟩],none⟩,
 ⟨some 93,.load 9 (.tmp 92),9,"ref.go:232",#[⟨3,.data⟩],none⟩,
 ⟨some 94,.move (.tmp 9),59,"ref.go:232",#[],none⟩,
 ⟨some 95,.indexAddr 59 (.tmp 94) (.const (.int .i64 0)),0,"ref.go:232",#[⟨5,.data⟩],none⟩,
 ⟨some 96,.load 3 (.tmp 95),3,"ref.go:232",#[⟨6,.data⟩],none⟩,
 ⟨some 97,.build 72 #[(0,.tmp 93),(1,.tmp 96)],72,"ref.go:232",#[⟨4,.data⟩,⟨7,.data⟩],none⟩,
 ⟨some 98,.buildSlice 24 1 #[(0,.tmp 97)],24,"ref.go:232",#[⟨8,.data⟩],none⟩,
 ⟨some 99,.call {callee:=.builtin .append,args:=#[.tmp 90,.tmp 98],argTypes:=#[24,24]},24,"ref.go:232",#[⟨1,.data⟩,⟨9,.data⟩],none⟩,
 ⟨some 100,.fieldAddr 26 (.tmp 4) 2,0,"ref.go:232",#[⟨0,.phase⟩,⟨1,.phase⟩,⟨2,.phase⟩,⟨3,.phase⟩,⟨4,.phase⟩,⟨5,.phase⟩,⟨6,.phase⟩,⟨7,.phase⟩,⟨8,.phase⟩,⟨9,.phase⟩,⟨10,.phase⟩],none⟩,
 ⟨none,.store 24 (.tmp 100) (.tmp 99),0,"ref.go:232",#[⟨11,.data⟩,⟨10,.data⟩,⟨10,.chain⟩,⟨0,.phase⟩,⟨1,.phase⟩,⟨2,.phase⟩,⟨3,.phase⟩,⟨4,.phase⟩,⟨5,.phase⟩,⟨6,.phase⟩,⟨7,.phase⟩,⟨8,.phase⟩,⟨9,.phase⟩,⟨10,.phase⟩],none⟩]
def abe(Pb:Nat)(va wv iv:Value)(bw ow bi oi:Nat)(g:List UInt8)(k:Int):Nat->Value
 |0=>.pointer (some ⟨Pb,2,none⟩)
 |1=>va
 |2=>wv
 |3=>.pointer (some ⟨bw,ow+1,none⟩)
 |4=>.string (ba g)
 |5=>iv
 |6=>.pointer (some ⟨bi,oi,none⟩)
 |7=>.int .i64 k
 |8=>.agg #[.string (ba g),.int .i64 k,.slice none 0 0]
 |11=>.pointer (some ⟨Pb,2,none⟩)
 |_=>undef
theorem aeU{k:Int}
    (W:a0.tmps.size=165)(O:a0.tmps.getD 4 undef=.pointer (some ⟨Pb,0,none⟩))(N:a0.tmps.getD 7 undef=.slice (some ⟨bw,ow,none⟩) wn wc)(hw:1<wn)(y:w0.cell? ⟨bw,ow+1,none⟩=some (.string (ba g)))(F:va.ownBlock≠some bw)(M:a0.tmps.getD 9 undef=.slice (some ⟨bi,oi,none⟩) im ic)(U:0<im)(Z:w0.cell? ⟨bi,oi,none⟩=some (.int .i64 k))(D:va.ownBlock≠some bi)
    (h:Own w0 B Pb vn vh va ns hs l)(Y:B<=w0.heap.size)(T:l.length+1<=1000000)
    (post:∀(a:Act) (w:World) (v':Value),a.tmps.size=a0.tmps.size->a.defers=a0.defers->(∀t,t<89\/100<t->a.tmps.getD t undef=a0.tmps.getD t undef)->Own (w.setCell ⟨Pb,2,none⟩ v') B Pb vn vh v' ns hs (l++[(⟨g,k,[]⟩,.slice none 0 0)])->w0.grownBy w va.ownBlock ->
      (∀g,v'.ownBlock=some g->va.ownBlock=some g\/w0.heap.size<=g)->Q .normal a (w.setCell ⟨Pb,2,none⟩ v')) :
    (Code.region 21 xY true).wpIn (FW none) m Tryz.prog Q a0 w0:=by
  obtain⟨i0,hi,C,A,z⟩:=info_parts aeP;have c0:w0.cell? ⟨Pb,2,none⟩=some va:=by simp[World.cell?,h.box]
  have S:va.ownBlock≠some Pb:=λe=>(h.blk (.inr (.inr (.inl e)))).2.2 rfl
  refine F5 zB rfl (by rw[W];rfl) (abe Pb va (.slice (some ⟨bw,ow,none⟩) wn wc) (.slice (some ⟨bi,oi,none⟩) im ic) bw ow bi oi g k) (iB:=9) (iA:=10) (iS:=12) ⟨δ,δ,δ⟩ (B:=B) (pre:=[Jb vn ns,JC vh hs]) (r:=wo va l) (post:=l.map F6) (news:=[.string (ba g),.int .i64 k,.slice none 0 0]) (sa:=⟨Pb,2,none⟩) h.rows Y
   24 i0 _ 48 Tryz.underlying24 hi C A z rfl (show 0<3 by decide) δ rfl (by simp[Value.oneCell']) T rfl rfl ⟨_,rfl⟩ ?_ ?_ ?_ ?_ ?_
  .intro L val a w i o f n1 n2 J p n d K;have hi:i<13:=(qAa.1 f).1;have Q:=uO (w:=w) (qs:=[9,10,12]) (ts:=[4,7,9]) (kv:=abe Pb va (.slice (some ⟨bw,ow,none⟩) wn wc) (.slice (some ⟨bi,oi,none⟩) im ic) bw ow bi oi g k) (sl:=λ|4=>.pointer (some ⟨Pb,0,none⟩) |7=>.slice (some ⟨bw,ow,none⟩) wn wc |9=>.slice (some ⟨bi,oi,none⟩) im ic |_=>undef) (cell:=cl1 w0 va.ownBlock) rfl (by intro t u;simp at u;rcases u with rfl|rfl|rfl;exact O;exact N;exact M) f (by simp[n1,n2,J]) p (λj h q=>n j h (λe=>q (by simp[e])) (λe=>q (by simp[e])) λe=>q (by simp[e])) d λad x h=>K ad x (vF h).1 (vF h).2;rcases(show i=0\/i=1\/i=2\/i=3\/i=4\/i=5\/i=6\/i=7\/i=8\/i=9\/i=10\/i=11\/i=12 by omega)with rfl|rfl|rfl|rfl|rfl|rfl|rfl|rfl|rfl|rfl|rfl|rfl|rfl;all_goals (have b:=f;simp[xY]at b;subst b)
   all_goals first
    |exact absurd rfl n1
    |exact absurd rfl n2
    |exact absurd rfl J
    |exact Q rfl
    |exact Q (if_pos ⟨δ,ω⟩)
    |exact Q (sQ c0 S)
    |exact Q (sQ y F)
    |exact Q (sQ Z D)
    |skip
   .have g4:a.eval (.tmp 93)=.string (ba g):=(d.at_ ⟨4,.data⟩ σ rfl 93 rfl).trans (n 4 (p ⟨4,.data⟩ σ rfl) δ δ δ);have g7:a.eval (.tmp 96)=.int .i64 k:=(d.at_ ⟨7,.data⟩ σ rfl 96 rfl).trans (n 7 (p ⟨7,.data⟩ σ rfl) δ δ δ);refine qY rfl rfl ?_;show _=okV (.agg #[.string (ba g),.int .i64 k,.slice none 0 0]) w;simp[execOp,go_sem,fA g4,fA g7]
  .intro L val a w o f p n d;have b:=f;simp[xY]at b;subst b;have g8:a.eval (.tmp 97)=.agg #[.string (ba g),.int .i64 k,.slice none 0 0]:=(d.at_ ⟨8,.data⟩ σ rfl 97 rfl).trans (n 8 (p ⟨8,.data⟩ σ rfl) δ δ δ);exact⟨rfl,by simp[Oper.about],(λc h=>by cases h),by simp[execOp,go_sem,fA g8,wo]⟩
  .intro L val a w o f p n d;have b:=f;simp[xY]at b;subst b;have g1:a.eval (.tmp 90)=va:=(d.at_ ⟨1,.data⟩ σ rfl 90 rfl).trans (n 1 (p ⟨1,.data⟩ σ rfl) δ δ δ);have g9:a.eval (.tmp 98)=val 9:=d.at_ ⟨9,.data⟩ σ rfl 98 rfl;refine⟨rfl,by simp[Oper.about,resolve,Target.leads],(λc h=>by cases h),λv' w' s=>?_⟩;simp only[execOp,resolve,invoke,builtin,Sem.run_bind,Sem.run_pure,qRa,List.map_toArray,List.map_cons,List.map_nil,g1,g9];have s:(Builtin.append_ #[24,24] 24 #[va,val 9]).run Tryz.prog w=.ok v' w':=s;rw[s];rfl
  .intro L val a w o f p n d R P K E;have b:=f;simp[xY]at b;subst b;have H:a.eval (.tmp 100)=.pointer (some ⟨Pb,2,none⟩):=(d.at_ ⟨11,.data⟩ σ rfl 100 rfl).trans (n 11 (p ⟨11,.data⟩ σ rfl) δ δ δ);have I:a.eval (.tmp 99)=val 10:=d.at_ ⟨10,.data⟩ σ rfl 99 rfl;have q:=qw (t:=24) (k:=2) info24 (uN h (r:=wo va l) (by simp[yP]) E) (show 2<3 by decide) R P;refine qY rfl rfl ?_;simp only[execOp,H,I];simp[q]
  .intro val a w n G y X V;refine post a w (val 10) G.size G.defers (λt u=>G.keep t λi o f e=>?_) (h.act y X) y V;exact dsO (lo:=89) (hi:=100) rfl f e u
def xZ:Array Oper:=#[
 ⟨some 121,.fieldAddr 26 (.tmp 4) 2,0,"ref.go:235",#[],none⟩,
 ⟨some 122,.load 24 (.tmp 121),24,"ref.go:235",#[⟨0,.data⟩],none⟩,
 ⟨some 123,.move (.tmp 11),3,"ref.go:235",#[],none⟩,
 ⟨some 124,.fieldAddr 26 (.tmp 4) 2,0,"ref.go:235",#[],none⟩,
 ⟨some 125,.load 24 (.tmp 124),24,"ref.go:235",#[⟨3,.data⟩],none⟩,
 ⟨some 126,.move (.tmp 11),3,"ref.go:235",#[],none⟩,
 ⟨some 127,.indexAddr 24 (.tmp 125) (.tmp 126),0,"ref.go:235",#[⟨4,.data⟩,⟨5,.data⟩],none⟩,
 ⟨some 128,.fieldAddr 72 (.tmp 127) 2,0,"ref.go:235",#[⟨6,.data⟩],none⟩,
 ⟨some 129,.load 70 (.tmp 128),70,"ref.go:235",#[⟨7,.data⟩],none⟩,
 ⟨some 130,.move (.tmp 9),59,"ref.go:235",#[],none⟩,
 ⟨some 131,.indexAddr 59 (.tmp 130) (.const (.int .i64 0)),0,"ref.go:235",#[⟨9,.data⟩],none⟩,
 ⟨some 132,.load 3 (.tmp 131),3,"ref.go:235",#[⟨10,.data⟩],none⟩,
 ⟨some 133,.move (.tmp 9),59,"ref.go:235",#[],none⟩,
 ⟨some 134,.indexAddr 59 (.tmp 133) (.const (.int .i64 1)),0,"ref.go:235",#[⟨12,.data⟩],none⟩,
 ⟨some 135,.load 3 (.tmp 134),3,"ref.go:235",#[⟨13,.data⟩],none⟩,
 ⟨some 136,.move (.tmp 9),59,"ref.go:235",#[],none⟩,
 ⟨some 137,.indexAddr 59 (.tmp 136) (.const (.int .i64 2)),0,"ref.go:235",#[⟨15,.data⟩],none⟩,
 ⟨some 138,.load 3 (.tmp 137),3,"ref.go:235",#[⟨16,.data⟩],none⟩,
 ⟨some 139,.build 66 #[(0,.tmp 132),(1,.tmp 135),(2,.tmp 138)],66,"ref.go:235",#[⟨11,.data⟩,⟨14,.data⟩,⟨17,.data⟩],none⟩,
 ⟨some 140,.move (.tmp 9),59,"ref.go:235",#[],none⟩,
 ⟨some 141,.indexAddr 59 (.tmp 140) (.const (.int .i64 3)),0,"ref.go:235",#[⟨19,.data⟩],none⟩,
 ⟨some 142,.load 3 (.tmp 141),3,"ref.go:235",#[⟨20,.data⟩],none⟩,
 ⟨some 143,.move (.tmp 9),59,"ref.go:235",#[],none⟩,
 ⟨some 144,.indexAddr 59 (.tmp 143) (.const (.int .i64 4)),0,"ref.go:235",#[⟨22,.data⟩],none⟩,
 ⟨some 145,.load 3 (.tmp 144),3,"ref.go:235",#[⟨23,.data⟩],none⟩,
 ⟨some 146,.move (.tmp 9),59,"ref.go:235",#[],none⟩,
 ⟨some 147,.indexAddr 59 (.tmp 146) (.const (.int .i64 5)),0,"ref.go:235",#[⟨25,.data⟩],none⟩,
 ⟨some 148,.load 3 (.tmp 147),3,"ref.go:235",#[⟨26,.data⟩],none⟩,
 ⟨some 149,.build 82 #[(0,.tmp 139),(1,.tmp 142),(2,.tmp 145),(3,.tmp 148)],82,"ref.go:235",#[⟨18,.data⟩,⟨21,.data⟩,⟨24,.data⟩,⟨27,.data⟩],none⟩,
 ⟨some 150,.buildSlice 70 1 #[(0,.tmp 149)],70,"ref.go:235",#[⟨28,.data⟩],none⟩,
 ⟨some 151,.call {callee:=.builtin .append,args:=#[.tmp 129,.tmp 150],argTypes:=#[70,70]},70,"ref.go:235",#[⟨8,.data⟩,⟨29,.data⟩],none⟩,
 ⟨some 152,.indexAddr 24 (.tmp 122) (.tmp 123),0,"ref.go:235",#[⟨1,.data⟩,⟨2,.data⟩,⟨0,.phase⟩,⟨1,.phase⟩,⟨2,.phase⟩,⟨3,.phase⟩,⟨4,.phase⟩,⟨5,.phase⟩,⟨6,.phase⟩,⟨7,.phase⟩,⟨8,.phase⟩,⟨9,.phase⟩,⟨10,.phase⟩,⟨11,.phase⟩,⟨12,.phase⟩,⟨13,.phase⟩,⟨14,.phase⟩,⟨15,.phase⟩,⟨16,.phase⟩,⟨17,.phase⟩,⟨18,.phase⟩,⟨19,.phase⟩,⟨20,.phase⟩,⟨21,.phase⟩,⟨22,.phase⟩,⟨23,.phase⟩,⟨24,.phase⟩,⟨25,.phase⟩,⟨26,.phase⟩,⟨27,.phase⟩,⟨28,.phase⟩,⟨29,.phase⟩,⟨30,.phase⟩],none⟩,
 ⟨some 153,.fieldAddr 72 (.tmp 152) 2,0,"ref.go:235",#[⟨31,.data⟩,⟨0,.phase⟩,⟨1,.phase⟩,⟨2,.phase⟩,⟨3,.phase⟩,⟨4,.phase⟩,⟨5,.phase⟩,⟨6,.phase⟩,⟨7,.phase⟩,⟨8,.phase⟩,⟨9,.phase⟩,⟨10,.phase⟩,⟨11,.phase⟩,⟨12,.phase⟩,⟨13,.phase⟩,⟨14,.phase⟩,⟨15,.phase⟩,⟨16,.phase⟩,⟨17,.phase⟩,⟨18,.phase⟩,⟨19,.phase⟩,⟨20,.phase⟩,⟨21,.phase⟩,⟨22,.phase⟩,⟨23,.phase⟩,⟨24,.phase⟩,⟨25,.phase⟩,⟨26,.phase⟩,⟨27,.phase⟩,⟨28,.phase⟩,⟨29,.phase⟩,⟨30,.phase⟩],none⟩,
 ⟨none,.store 70 (.tmp 153) (.tmp 151),0,"ref.go:235",#[⟨32,.data⟩,⟨30,.data⟩,⟨30,.chain⟩,⟨0,.phase⟩,⟨1,.phase⟩,⟨2,.phase⟩,⟨3,.phase⟩,⟨4,.phase⟩,⟨5,.phase⟩,⟨6,.phase⟩,⟨7,.phase⟩,⟨8,.phase⟩,⟨9,.phase⟩,⟨10,.phase⟩,⟨11,.phase⟩,⟨12,.phase⟩,⟨13,.phase⟩,⟨14,.phase⟩,⟨15,.phase⟩,⟨16,.phase⟩,⟨17,.phase⟩,⟨18,.phase⟩,⟨19,.phase⟩,⟨20,.phase⟩,⟨21,.phase⟩,⟨22,.phase⟩,⟨23,.phase⟩,⟨24,.phase⟩,⟨25,.phase⟩,⟨26,.phase⟩,⟨27,.phase⟩,⟨28,.phase⟩,⟨29,.phase⟩,⟨30,.phase⟩],none⟩]
def abf(Pb:Nat)(pv va iv:Value)(bi oi ga n:Nat)(x:Mv):Nat->Value
 |0=>.pointer (some ⟨Pb,2,none⟩)
 |1=>va
 |2=>.int .i64 (n:Int)
 |3=>.pointer (some ⟨Pb,2,none⟩)
 |4=>va
 |5=>.int .i64 (n:Int)
 |6=>.pointer (some ⟨ga,n*3,none⟩)
 |7=>.pointer (some ⟨ga,n*3+2,none⟩)
 |8=>pv
 |9=>iv
 |10=>.pointer (some ⟨bi,oi,none⟩)
 |11=>.int .i64 x.to.x
 |12=>iv
 |13=>.pointer (some ⟨bi,oi+1,none⟩)
 |14=>.int .i64 x.to.y
 |15=>iv
 |16=>.pointer (some ⟨bi,oi+2,none⟩)
 |17=>.int .i64 x.to.z
 |18=>.agg #[.int .i64 x.to.x,.int .i64 x.to.y,.int .i64 x.to.z]
 |19=>iv
 |20=>.pointer (some ⟨bi,oi+3,none⟩)
 |21=>.int .i64 x.wait
 |22=>iv
 |23=>.pointer (some ⟨bi,oi+4,none⟩)
 |24=>.int .i64 x.fl
 |25=>iv
 |26=>.pointer (some ⟨bi,oi+5,none⟩)
 |27=>.int .i64 x.rise
 |28=>.agg #[.int .i64 x.to.x,.int .i64 x.to.y,.int .i64 x.to.z,.int .i64 x.wait,.int .i64 x.fl,.int .i64 x.rise]
 |31=>.pointer (some ⟨ga,n*3,none⟩)
 |32=>.pointer (some ⟨ga,n*3+2,none⟩)
 |_=>undef
theorem aeV{p:Ac × Value}{x:Mv}{f H:Nat}
    (ha:a0.tmps.size=165)(t4:a0.tmps.getD 4 undef=.pointer (some ⟨Pb,0,none⟩))(N:a0.tmps.getD 11 undef=.int .i64 (l.length:Int))(t9:a0.tmps.getD 9 undef=.slice (some ⟨bi,oi,none⟩) im ic)(him:5<im)(h0:w0.cell? ⟨bi,oi,none⟩=some (.int .i64 x.to.x))(h1:w0.cell? ⟨bi,oi+1,none⟩=some (.int .i64 x.to.y))(h2:w0.cell? ⟨bi,oi+2,none⟩=some (.int .i64 x.to.z))(h3:w0.cell? ⟨bi,oi+3,none⟩=some (.int .i64 x.wait))(h4:w0.cell? ⟨bi,oi+4,none⟩=some (.int .i64 x.fl))(h5:w0.cell? ⟨bi,oi+5,none⟩=some (.int .i64 x.rise))(A:p.2.ownBlock≠some bi)
    (h:Own w0 B Pb vn vh va ns hs (l++[p]))(hB:B<=w0.heap.size)(D:va=.slice (some ⟨f,0,none⟩) (l.length+1) H)(hn:p.1.dG.length+1<=1000000)
    (post:∀(a:Act) (w:World) (v':Value),a.tmps.size=a0.tmps.size->a.defers=a0.defers->(∀t,t<121\/153<t->a.tmps.getD t undef=a0.tmps.getD t undef)->Own (w.setCell ⟨f,l.length*3+2,none⟩ v') B Pb vn vh va ns hs (l++[({p.1 with dG:=p.1.dG++[x]},v')])->w0.grownBy w p.2.ownBlock ->
      (∀g,v'.ownBlock=some g->p.2.ownBlock=some g\/w0.heap.size<=g)->Q .normal a (w.setCell ⟨f,l.length*3+2,none⟩ v')) :
    (Code.region 24 xZ true).wpIn (FW none) m Tryz.prog Q a0 w0:=by
  obtain⟨i0,hi,R,P,O⟩:=info_parts aeQ;have c0:w0.cell? ⟨Pb,2,none⟩=some (.slice (some ⟨f,0,none⟩) (l.length+1) H):=by rw[<-D];simp[World.cell?,h.box]
  have nb:p.2.ownBlock≠some Pb:=λe=>(h.blk (.inr (.inr (.inr ⟨p,σ,e⟩)))).2.2 rfl;have J:xU w0 B ((Jb vn ns::JC vh hs::wo va (l++[p])::l.map F6)++F6 p::[]):=by simpa[yP] using h.rows
  have I:=h.rows.own (wo va (l++[p])) (by simp[yP]);have E:(wo va (l++[p])).v.ownBlock=some f:=by rw[D];rfl
  have na:p.2.ownBlock≠some f:=J.mid (wo va (l++[p])) σ f E;have ca:w0.cell? ⟨f,l.length*3+2,none⟩=some p.2:=PS I E (by show(Y5 (l++[p]))[l.length*3+2]?=_;rw[Ox,List.getElem?_append_right (by rw[F7];omega),F7,show l.length*3+2-l.length*3=2 by omega];rfl)
  refine F5 zB rfl (by rw[ha];rfl) (abf Pb p.2 (.slice (some ⟨f,0,none⟩) (l.length+1) H) (.slice (some ⟨bi,oi,none⟩) im ic) bi oi f l.length x) (iB:=29) (iA:=30) (iS:=33) ⟨δ,δ,δ⟩ (B:=B) (pre:=Jb vn ns::JC vh hs::wo va (l++[p])::l.map F6) (r:=F6 p) (post:=[]) (news:=mvC x) (sa:=⟨f,l.length*3+2,none⟩) J hB
   70 i0 _ 48 Tryz.underlying70 hi R P O rfl (show 0<6 by decide) δ rfl (by simp[mvC,Value.oneCell']) hn rfl rfl ⟨_,rfl⟩ ?_ ?_ ?_ ?_ ?_
  .intro L val a w i o C n1 n2 n3 s n d hr;have hi:i<34:=(qAa.1 C).1;have Q:=uO (w:=w) (qs:=[29,30,33]) (ts:=[4,9,11]) (kv:=abf Pb p.2 (.slice (some ⟨f,0,none⟩) (l.length+1) H) (.slice (some ⟨bi,oi,none⟩) im ic) bi oi f l.length x) (sl:=λ|4=>.pointer (some ⟨Pb,0,none⟩) |9=>.slice (some ⟨bi,oi,none⟩) im ic |11=>.int .i64 (l.length:Int) |_=>undef) (cell:=cl1 w0 p.2.ownBlock) rfl (by intro t M;simp at M;rcases M with rfl|rfl|rfl;exact t4;exact t9;exact N) C (by simp[n1,n2,n3]) s (λj h q=>n j h (λe=>q (by simp[e])) (λe=>q (by simp[e])) λe=>q (by simp[e])) d λad x h=>hr ad x (vF h).1 (vF h).2;rcases(show i=0\/i=1\/i=2\/i=3\/i=4\/i=5\/i=6\/i=7\/i=8\/i=9\/i=10\/i=11\/i=12\/i=13\/i=14\/i=15\/i=16\/i=17\/i=18\/i=19\/i=20\/i=21\/i=22\/i=23\/i=24\/i=25\/i=26\/i=27\/i=28\/i=29\/i=30\/i=31\/i=32\/i=33 by omega)with rfl|rfl|rfl|rfl|rfl|rfl|rfl|rfl|rfl|rfl|rfl|rfl|rfl|rfl|rfl|rfl|rfl|rfl|rfl|rfl|rfl|rfl|rfl|rfl|rfl|rfl|rfl|rfl|rfl|rfl|rfl|rfl|rfl|rfl;all_goals (have b:=C;simp[xZ]at b;subst b)
   all_goals first
    |exact absurd rfl n1
    |exact absurd rfl n2
    |exact absurd rfl n3
    |exact Q rfl
    |exact Q (if_pos ⟨δ,ω⟩)
    |exact Q (sQ c0 nb)
    |exact Q (sQ ca na)
    |exact Q (sQ h0 A)
    |exact Q (sQ h1 A)
    |exact Q (sQ h2 A)
    |exact Q (sQ h3 A)
    |exact Q (sQ h4 A)
    |exact Q (sQ h5 A)
    |skip
   .have g4:a.eval (.tmp 125)=.slice (some ⟨f,0,none⟩) (l.length+1) H:=(d.at_ ⟨4,.data⟩ σ rfl 125 rfl).trans (n 4 (s ⟨4,.data⟩ σ rfl) δ δ δ);have g5:a.eval (.tmp 126)=.int .i64 (l.length:Int):=(d.at_ ⟨5,.data⟩ σ rfl 126 rfl).trans (n 5 (s ⟨5,.data⟩ σ rfl) δ δ δ);have q:=(show(l.length:Int)<l.length+1 by omega);refine qY rfl rfl ?_;show _=okV (.pointer (some ⟨f,l.length*3,none⟩)) w;simp only[execOp,g4,g5];simp[Instr.indexAt,go_sem,q]
   .have g11:a.eval (.tmp 132)=.int .i64 x.to.x:=(d.at_ ⟨11,.data⟩ σ rfl 132 rfl).trans (n 11 (s ⟨11,.data⟩ σ rfl) δ δ δ);have g14:a.eval (.tmp 135)=.int .i64 x.to.y:=(d.at_ ⟨14,.data⟩ σ rfl 135 rfl).trans (n 14 (s ⟨14,.data⟩ σ rfl) δ δ δ);have g17:a.eval (.tmp 138)=.int .i64 x.to.z:=(d.at_ ⟨17,.data⟩ σ rfl 138 rfl).trans (n 17 (s ⟨17,.data⟩ σ rfl) δ δ δ);refine qY rfl rfl ?_;show _=okV (.agg #[.int .i64 x.to.x,.int .i64 x.to.y,.int .i64 x.to.z]) w;simp[execOp,go_sem,fA g11,fA g14,fA g17]
   .have g18:a.eval (.tmp 139)=.agg #[.int .i64 x.to.x,.int .i64 x.to.y,.int .i64 x.to.z]:=(d.at_ ⟨18,.data⟩ σ rfl 139 rfl).trans (n 18 (s ⟨18,.data⟩ σ rfl) δ δ δ);have g21:a.eval (.tmp 142)=.int .i64 x.wait:=(d.at_ ⟨21,.data⟩ σ rfl 142 rfl).trans (n 21 (s ⟨21,.data⟩ σ rfl) δ δ δ);have Z:a.eval (.tmp 145)=.int .i64 x.fl:=(d.at_ ⟨24,.data⟩ σ rfl 145 rfl).trans (n 24 (s ⟨24,.data⟩ σ rfl) δ δ δ);have Y:a.eval (.tmp 148)=.int .i64 x.rise:=(d.at_ ⟨27,.data⟩ σ rfl 148 rfl).trans (n 27 (s ⟨27,.data⟩ σ rfl) δ δ δ);refine qY rfl rfl ?_;show _=okV (.agg #[.int .i64 x.to.x,.int .i64 x.to.y,.int .i64 x.to.z,.int .i64 x.wait,.int .i64 x.fl,.int .i64 x.rise]) w;simp[execOp,go_sem,fA g18,fA g21,fA Z,fA Y]
   .have g1:a.eval (.tmp 122)=.slice (some ⟨f,0,none⟩) (l.length+1) H:=(d.at_ ⟨1,.data⟩ σ rfl 122 rfl).trans (n 1 (s ⟨1,.data⟩ σ rfl) δ δ δ);have g2:a.eval (.tmp 123)=.int .i64 (l.length:Int):=(d.at_ ⟨2,.data⟩ σ rfl 123 rfl).trans (n 2 (s ⟨2,.data⟩ σ rfl) δ δ δ);have q:=(show(l.length:Int)<l.length+1 by omega);refine qY rfl rfl ?_;show _=okV (.pointer (some ⟨f,l.length*3,none⟩)) w;simp only[execOp,g1,g2];simp[Instr.indexAt,go_sem,q]
  .intro L val a w o C s n d;have b:=C;simp[xZ]at b;subst b;have X:a.eval (.tmp 149)=.agg #[.int .i64 x.to.x,.int .i64 x.to.y,.int .i64 x.to.z,.int .i64 x.wait,.int .i64 x.fl,.int .i64 x.rise]:=(d.at_ ⟨28,.data⟩ σ rfl 149 rfl).trans (n 28 (s ⟨28,.data⟩ σ rfl) δ δ δ);exact⟨rfl,by simp[Oper.about],(λc h=>by cases h),by simp[execOp,go_sem,fA X,F6,mvC]⟩
  .intro L val a w o C s n d;have b:=C;simp[xZ]at b;subst b;have g8:a.eval (.tmp 129)=p.2:=(d.at_ ⟨8,.data⟩ σ rfl 129 rfl).trans (n 8 (s ⟨8,.data⟩ σ rfl) δ δ δ);have W:a.eval (.tmp 150)=val 29:=d.at_ ⟨29,.data⟩ σ rfl 150 rfl;refine⟨rfl,by simp[Oper.about,resolve,Target.leads],(λc h=>by cases h),λv' w' G=>?_⟩;simp only[execOp,resolve,invoke,builtin,Sem.run_bind,Sem.run_pure,qRa,List.map_toArray,List.map_cons,List.map_nil,g8,W];have G:(Builtin.append_ #[70,70] 70 #[p.2,val 29]).run Tryz.prog w=.ok v' w':=G;rw[G];rfl
  .intro L val a w o C s n d o1 o2 hr S;have b:=C;simp[xZ]at b;subst b;have U:a.eval (.tmp 153)=.pointer (some ⟨f,l.length*3+2,none⟩):=(d.at_ ⟨32,.data⟩ σ rfl 153 rfl).trans (n 32 (s ⟨32,.data⟩ σ rfl) δ δ δ);have V:a.eval (.tmp 151)=val 30:=d.at_ ⟨30,.data⟩ σ rfl 151 rfl;obtain⟨K,u,F⟩:=TW I E;have u:w.heap[f]?=some (.cells K 72 (0,0)):=(S.block f (qAa.1 u).1 (λe=>na e.symm)).trans u;have F:(l++[p]).length*3<=K.size:=F;have q:=qw (t:=70) (k:=l.length*3+2) aeR u (by simp at F;omega) o1 o2;refine qY rfl rfl ?_;simp only[execOp,U,V];simp[q]
  .intro val a w n T hg hR hf;refine post a w (val 30) T.size T.defers (λt M=>T.keep t λi o C e=>?_) (h.move D hg hR) hg hf;exact dsO (lo:=121) (hi:=153) rfl C e M
end Go.Skm.Prg
