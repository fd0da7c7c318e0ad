import Derived.Test.YtpjaaamhnghloaaGreatDoorQ2
import Derived.Test.YtpjaaamhnghloaaGreatDoorLays
import Derived.Shelf.Small.Strs
set_option linter.all false
namespace Go.Skm.Prg
open Go Go.Skm Go.Proofs Go.RowKit Go.Shelf
section
attribute [local go_sem] Oper.semAt_some Bv
theorem P5(s:List UInt8)(W:World):Calls Tryz.prog 73 #[.string (ba s),.int .u8 10] W λe W'=>e=.returned (.int .i64 (Lib.indexByte s 10))/\W'=W:=Any.strings_IndexByte Tryz.lays137 (ba s) 10 W
def Oy:Array Oper:=#[
 ⟨some 12,.load 9 (.tmp 1),9,"iter.go:23",#[],none⟩,
 ⟨some 13,.move (.tmp 4),3,"iter.go:23",#[],none⟩,
 ⟨some 14,.binOp .add 3 (.tmp 13) (.const (.int .i64 1)) 3,3,"iter.go:23",#[⟨1,.data⟩],none⟩,
 ⟨some 15,.slice 9 (.tmp 12) none (some (.tmp 14)) none,9,"iter.go:23",#[⟨0,.data⟩,⟨2,.data⟩],none⟩,
 ⟨some 16,.load 9 (.tmp 1),9,"iter.go:23",#[],none⟩,
 ⟨some 17,.move (.tmp 4),3,"iter.go:23",#[],none⟩,
 ⟨some 18,.binOp .add 3 (.tmp 17) (.const (.int .i64 1)) 3,3,"iter.go:23",#[⟨5,.data⟩],none⟩,
 ⟨some 19,.slice 9 (.tmp 16) (some (.tmp 18)) none none,9,"iter.go:23",#[⟨4,.data⟩,⟨6,.data⟩],none⟩,
 ⟨some 3,.assign (.tmp 15),9,"iter.go:23",#[⟨3,.data⟩,⟨0,.phase⟩,⟨1,.phase⟩,⟨2,.phase⟩,⟨3,.phase⟩,⟨4,.textOnly .lateStores⟩,⟨5,.textOnly .lateStores⟩,⟨6,.textOnly .lateStores⟩,⟨7,.textOnly .lateStoresUnsure⟩],none⟩,
 ⟨none,.store 9 (.tmp 1) (.tmp 19),0,"iter.go:23",#[⟨7,.data⟩,⟨8,.chain⟩,⟨0,.phase⟩,⟨1,.phase⟩,⟨2,.phase⟩,⟨3,.phase⟩,⟨4,.phase⟩,⟨5,.phase⟩,⟨6,.phase⟩,⟨7,.phase⟩,⟨8,.phase⟩],none⟩]
def ae7(x y:List UInt8):Nat->Value
 |0=>.string (ba (x++10::y))
 |1=>.int .i64 (x.length:Int)
 |2=>.int .i64 ((x.length+1:Nat):Int)
 |3=>.string (ba (x++[10]))
 |4=>.string (ba (x++10::y))
 |5=>.int .i64 (x.length:Int)
 |6=>.int .i64 ((x.length+1:Nat):Int)
 |7=>.string (ba y)
 |8=>.string (ba (x++[10]))
 |_=>undef
theorem ahb(x y:List UInt8):(ba (x++10::y)).extract 0 (x.length+1)=ba (x++[10]):=by rw[ba_eq];simp[ba,ByteArray.data_extract,List.extract_eq_take_drop,List.take_append];exact List.take_of_length_le ω
theorem ahc(x y:List UInt8):(ba (x++10::y)).extract (x.length+1) (ba (x++10::y)).size=ba y:=by rw[ba_eq];simp[ba,ByteArray.data_extract,List.extract_eq_take_drop,List.drop_append,ByteArray.size];rw[List.drop_eq_nil_of_le ω,List.nil_append,List.take_of_length_le ω]
theorem ahd{m:Nat}{Q:Exit->Act->World->Prop}{w0:World}{u:Act}{Bx:Nat}{x y:List UInt8}(W:x.length<=100000)(K:u.tmps.size=25)(D:u.tmps.getD 1 undef=.pointer (some ⟨Bx,0,none⟩))(I:u.tmps.getD 4 undef=.int .i64 (x.length:Int))(F:w0.heap[Bx]?=some (.cells #[.string (ba (x ++ 10::y))] 9 (0,0)))
    (post:∀a:Act,a.tmps.size=u.tmps.size->a.defers=u.defers->(∀t,t≠3->t<12\/19<t->a.tmps.getD t undef=u.tmps.getD t undef)->a.tmps.getD 3 undef=.string (ba (x++[10]))->Q .normal a (({w0 with drawn:=w0.drawn+1}:World).setCell ⟨Bx,0,none⟩ (.string (ba y)))) :
    (Code.region 4 Oy true).wpIn (FW none) m Tryz.prog Q u w0:=by
  have c0:w0.cell? ⟨Bx,0,none⟩=some (.string (ba (x++10::y))):=by simp[World.cell?,F]
  have V:w0.frozen? ⟨Bx,0,none⟩=false:=by simp[World.frozen?,F]
  have G:IntKind.i64.wrap ((x.length:Int)+1)=((x.length+1:Nat):Int):=cZ x.length ω;have J:(ba (x++10::y)).size=x.length+1+y.length:=by show(x++10::y).toArray.size=_;simp;omega
  refine FY (λi=>decide (i≠9)) (ae7 x y) (λL _ w=>(L 9=true->∀j,j<9->L j=true)/\w=if L 9=true then({w0 with drawn:=w0.drawn+1}:World).setCell ⟨Bx,0,none⟩ (.string (ba y))else {w0 with drawn:=w0.drawn+1}) zB rfl (by rw[K];rfl) ?_ ?_ ?_ ⟨λh=>(by cases h),rfl⟩ ?_
  .rintro L val w i hi z v ⟨s,f⟩;have p:i≠9:=by simpa using z
   have e9:(L 9||(9:Nat)==i)=L 9:=by
    have:((9:Nat)==i)=false:=by simpa using λe:9=i=>p e.symm
    rw[this,Bool.or_false]
   refine⟨λh j E=>?_,?_⟩
   .have:=s (e9▸h) j E;simp only[this,Bool.true_or]
   .simp only[e9];exact f
  .rintro L val a w i o r z v b g k ⟨s,f⟩;have p:i≠9:=by simpa using z
   have hi:i<10:=(qAa.1 r).1;have C:L 9=false:=by
    cases e:L 9 with
    |false=>rfl
    |true=>rw[s e i ω]at v;cases v
   rw[C]at f;simp only[Bool.false_eq_true,if_false]at f;subst f;have B:=(k.out 1 rfl).trans D;have H:=(k.out 4 rfl).trans I;have g:∀j,L j=true->j≠9->val j=ae7 x y j:=λj h M=>g j h (by simpa using M);rcases(show i=0\/i=1\/i=2\/i=3\/i=4\/i=5\/i=6\/i=7\/i=8 by omega)with rfl|rfl|rfl|rfl|rfl|rfl|rfl|rfl|rfl;all_goals (have l:=r;simp only[Oy,List.getElem?_toArray,List.getElem?_cons_zero,List.getElem?_cons_succ,qOa]at l;subst l)
   .have q:=c0;refine qY rfl rfl ?_;show _=okV (.string (ba (x++10::y))) {w0 with drawn:=w0.drawn+1};simp only[execOp,B];simp[Instr.loadAt,go_sem,q]
   .refine qY rfl rfl ?_;show _=okV (.int .i64 (x.length:Int)) {w0 with drawn:=w0.drawn+1};simp only[execOp,H];rfl
   .have T:a.eval (.tmp 13)=.int .i64 (x.length:Int):=(k.at_ ⟨1,.data⟩ σ rfl 13 rfl).trans (g 1 (b ⟨1,.data⟩ σ rfl) δ);have q:=G;refine qY rfl rfl ?_;show _=okV (.int .i64 ((x.length+1:Nat):Int)) {w0 with drawn:=w0.drawn+1};simp only[execOp,T];simp[go_sem,q]
   .have U:a.eval (.tmp 12)=.string (ba (x++10::y)):=(k.at_ ⟨0,.data⟩ σ rfl 12 rfl).trans (g 0 (b ⟨0,.data⟩ σ rfl) δ);have S:a.eval (.tmp 14)=.int .i64 ((x.length+1:Nat):Int):=(k.at_ ⟨2,.data⟩ σ rfl 14 rfl).trans (g 2 (b ⟨2,.data⟩ σ rfl) δ);refine qY rfl rfl ?_;show _=okV (.string (ba (x++[10]))) {w0 with drawn:=w0.drawn+1};simp only[execOp,U];simp[go_sem,fA S];rw[if_pos ⟨ω,ω⟩,ahb]
   .have q:=c0;refine qY rfl rfl ?_;show _=okV (.string (ba (x++10::y))) {w0 with drawn:=w0.drawn+1};simp only[execOp,B];simp[Instr.loadAt,go_sem,q]
   .refine qY rfl rfl ?_;show _=okV (.int .i64 (x.length:Int)) {w0 with drawn:=w0.drawn+1};simp only[execOp,H];rfl
   .have O:a.eval (.tmp 17)=.int .i64 (x.length:Int):=(k.at_ ⟨5,.data⟩ σ rfl 17 rfl).trans (g 5 (b ⟨5,.data⟩ σ rfl) δ);have q:=G;refine qY rfl rfl ?_;show _=okV (.int .i64 ((x.length+1:Nat):Int)) {w0 with drawn:=w0.drawn+1};simp only[execOp,O];simp[go_sem,q]
   .have P:a.eval (.tmp 16)=.string (ba (x++10::y)):=(k.at_ ⟨4,.data⟩ σ rfl 16 rfl).trans (g 4 (b ⟨4,.data⟩ σ rfl) δ);have g6:a.eval (.tmp 18)=.int .i64 ((x.length+1:Nat):Int):=(k.at_ ⟨6,.data⟩ σ rfl 18 rfl).trans (g 6 (b ⟨6,.data⟩ σ rfl) δ);refine qY rfl rfl ?_;show _=okV (.string (ba y)) {w0 with drawn:=w0.drawn+1};simp only[execOp,P];simp[go_sem,fA g6];rw[if_pos ⟨ω,ω⟩,ahc]
   .have R:a.eval (.tmp 15)=.string (ba (x++[10])):=(k.at_ ⟨3,.data⟩ σ rfl 15 rfl).trans (g 3 (b ⟨3,.data⟩ σ rfl) δ);refine qY rfl rfl ?_;show _=okV (.string (ba (x++[10]))) {w0 with drawn:=w0.drawn+1};simp only[execOp,R];rfl
  .rintro L val a w i o r z v b Y g k ⟨s,f⟩;have p:i=9:=by simpa using z
   subst p;rw[v]at f;simp only[Bool.false_eq_true,if_false]at f;subst f;have B:=(k.out 1 rfl).trans D;have l:=r;simp only[Oy,List.getElem?_toArray,List.getElem?_cons_zero,List.getElem?_cons_succ,qOa]at l;subst l;have N:a.eval (.tmp 19)=.string (ba y):=(k.at_ ⟨7,.data⟩ σ rfl 19 rfl).trans (g 7 (b ⟨7,.data⟩ σ rfl) δ);refine⟨rfl,by simp[Oper.about],(λc h=>by cases h),undef,_,.inr ⟨rfl,?_⟩,λ_ j E=>?_,rfl⟩
   .simp only[execOp,N,B];simp[Instr.storeAt,go_sem,c0,V]
   .have hp:L j=true:=by
      rcases(show j=0\/j=1\/j=2\/j=3\/j=4\/j=5\/j=6\/j=7\/j=8 by omega)with rfl|rfl|rfl|rfl|rfl|rfl|rfl|rfl|rfl
      .exact b ⟨0,.phase⟩ σ rfl
      .exact b ⟨1,.phase⟩ σ rfl
      .exact b ⟨2,.phase⟩ σ rfl
      .exact b ⟨3,.phase⟩ σ rfl
      .exact b ⟨4,.phase⟩ σ rfl
      .exact b ⟨5,.phase⟩ σ rfl
      .exact b ⟨6,.phase⟩ σ rfl
      .exact b ⟨7,.phase⟩ σ rfl
      .exact b ⟨8,.phase⟩ σ rfl
    show(L j||j==9)=true;rw[hp];rfl
  .rintro L val a w n g A ⟨s,f⟩;rw[n 9 δ]at f;simp only[if_true]at f;subst f;refine post a A.size A.defers (λt Z X=>A.keep t λi o r e=>?_) ((A.at 8 (d:=3) rfl (n 8 δ)).trans (g 8 (n 8 δ) rfl));have s:((List.range 10).all λi=>match Oy[i]?.bind (·.dst)with |some d=>Nat.beq d 3||(Nat.ble 12 d&&Nat.ble d 19) |none=>true)=true:=rfl;have f:=List.all_eq_true.1 s i (List.mem_range.2 (qAa.1 r).1);simp only[r,qOb,e,Bool.or_eq_true,Nat.beq_eq,qBa,Nat.ble_eq]at f;omega
theorem Uf:∀t:List UInt8,(∃x y,t=x++10::y/\(10:UInt8) ∉ x/\Lib.indexByte t 10=x.length)\/((10:UInt8) ∉ t/\Lib.indexByte t 10=-1)
 |[]=>.inr ⟨σ,rfl⟩
 |b::t=>by
  by_cases h:b=10
  .subst h;exact .inl ⟨[],t,rfl,σ,by simp[Lib.indexByte]⟩
  .have d:(b==10)=false:=by simpa using h
   rcases Uf t with⟨x,y,rfl,c,a⟩ |⟨c,a⟩
   .refine .inl ⟨b::x,y,rfl,by simp[c,Ne.symm h],?_⟩;rw[Lib.indexByte,d,a];have:((x.length:Int)==-1)=false:=by simpa using (by omega:¬(x.length:Int)=-1)
    simp[this]
   .refine .inr ⟨by simp[c,Ne.symm h],?_⟩;rw[Lib.indexByte,d,a];rfl
theorem alZ:List.range 25=[0,1,2,3,4,5,6,7,8,9,10,11,12,13,14,15,16,17,18,19,20,21,22,23,24]:=rfl
def aqP(Bx l:Nat)(a:Act):Prop:=a.tmps.size=25/\a.defers=[]/\a.tmps.getD 0 undef=.func (.yield l) #[] #[]/\a.tmps.getD 1 undef=.pointer (some ⟨Bx,0,none⟩)
def aqQ(Bx l:Nat)(n:Nat)(J:List (List UInt8)->World->Prop)(a:Act)(W:World):Prop:=aqP Bx l a/\∃t,J (fl t) W/\W.heap[Bx]?=some (.cells #[.string (ba t)] 9 (0,0))/\t.length<=n
def P6(Bx:Nat)(W:World):Nat:=match W.heap[Bx]? with
 |some (.cells cs _ _)=>(match cs.getD 0 undef with |.string b=>b.size |_=>0)
 |_=>0
set_option maxHeartbeats 2000000 in
theorem ZF{W0:World}{Bx l:Nat}(s:List UInt8)(X:s.length<=100000)(J:List (List UInt8)->World->Prop)(Jx:World->Prop)
    (D:∀r W W',J r W->(∀b,b≠Bx->W'.heap[b]?=W.heap[b]?)->W'.heap.size=W.heap.size->W'.os=W.os->W'.tape=W.tape->W'.output=W.output->J r W')
    (i:∀x r W,J (x::r) W->x.length<=100001->YieldAt (FW none) 0 Tryz.prog l #[.string (ba x)] W λe W'=>W'.heap[Bx]?=W.heap[Bx]?/\((e=.returned (.bool true)/\J r W')\/(e=.returned (.bool false)/\Jx W')))
    (A:J (fl s) W0)(f:W0.heap[Bx]?=some (.cells #[.string (ba s)] 9 (0,0))) :
    Calls Tryz.prog 72 #[.func (.yield l) #[] #[],.pointer (some ⟨Bx,0,none⟩)] W0 λe W'=>(∃v,e=.returned v)/\(J [] W'\/Jx W'):=by
  have R:(FW none).fn 73:=trivial;refine jv (rd:=none) (n:=0) (callsIn_of_wp_marks Tryz.func72 rfl trivial ?_);simp only[Tryz.ntmps72,List.size_toArray,qLl,List.length_nil,Nat.reduceAdd,Nat.reduceSub,Array.replicate_succ,Array.replicate_zero,List.push_toArray,List.append_toArray,List.nil_append,List.cons_append]
  gi_wp2
  refine wpIn_loop (aqQ Bx l s.length J) (λ_ W=>P6 Bx W) ?_ ?_
  .exact⟨⟨rfl,rfl,rfl,rfl⟩,s,A,f,qNr _⟩
  clear A f;rintro a W ⟨⟨B,N,t0,E⟩,t,A,f,Y⟩;obtain⟨u,I,rfl⟩:=tV a B N;rw[I]at t0 E;rw[alZ];simp only[List.map_cons,List.map_nil,t0,E];clear B N t0 E I;have c0:W.cell? ⟨Bx,0,none⟩=some (.string (ba t)):=by simp[World.cell?,f]
  have S:W.frozen? ⟨Bx,0,none⟩=false:=by simp[World.frozen?,f]
  have Q:(ba t).size=t.length:=rfl;have HB:Hid (W.heap[Bx]?=some (.cells #[.string (ba t)] 9 (0,0))):=f;clear f;have K:P6 Bx W=t.length:=by unfold P6;rw[HB.out];rfl
  rcases Uf t with⟨x,y,j,F,hi⟩ |⟨F,hi⟩
  .have P:t.length=x.length+1+y.length:=by rw[j];simp;omega
   have HT:Hid (t=x++10::y):=j;clear j
   gi_wp2
   refine⟨rfl,(bW none (P5 t W)).mono ?_⟩;rintro e W' ⟨rfl,rfl⟩;rw[hi];dsimp only
   gi_wp2
   refine ahd (x:=x) (y:=y) ω (by rfl) (by rfl) (by rfl) (HT.out▸HB.out) ?_;intro a L hd G M;have q0:a.tmps.getD 0 undef=.func (.yield l) #[] #[]:=G 0 ω ω;have q1:a.tmps.getD 1 undef=.pointer (some ⟨Bx,0,none⟩):=G 1 ω ω;obtain⟨V,C,rfl⟩:=tV a (n:=25) L hd;rw[C]at q0 q1 M;obtain⟨W1,g⟩:∃W1,({W' with drawn:=W'.drawn+1}:World).setCell ⟨Bx,0,none⟩ (.string (ba y))=W1:=⟨_,rfl⟩;have p:W1.heap[Bx]?=some (.cells #[.string (ba y)] 9 (0,0)):=by rw[<-g];have:=setCell_at (W:={W' with drawn:=W'.drawn+1}) (k:=0) (.string (ba y)) HB.out;simpa using this
   have z:J ((x++[10])::fl y) W1:=by rw[<-agU y F,<-HT.out,<-g];exact D _ _ _ A (λb f=>Below.heap_setCell _ _ _ b f) (by simp[World.setCell]) rfl rfl rfl
   rw[g];clear g A HB c0 S G L hd C;rw[alZ];simp only[List.map_cons,List.map_nil,q0,q1,M]
   gi_wp2
   obtain⟨fn,tm,U,T,c,H⟩:=i _ _ _ z (by simp;omega);rw[c];refine⟨λh=>(by cases h),RoundIn.mono H ?_⟩;rintro e W2 ⟨o,⟨rfl,w⟩ |⟨rfl,q⟩⟩
   .dsimp only;have d:=o.trans p
    gi_wp2
    refine⟨⟨⟨rfl,rfl,rfl,rfl⟩,_,w,d,ω⟩,?_⟩;have B:P6 Bx W2=y.length:=by unfold P6;rw[d];rfl
    rw[B];omega
   .dsimp only
    gi_wp2
    show LeavesInM (FW none) 0 Tryz.prog Tryz.f72 _ _ [] .returning _;exact⟨_,results_none rfl _ _ _,⟨_,rfl⟩,.inr q⟩
  .by_cases m:t=[]
   .subst m
    gi_wp2
    show LeavesInM (FW none) 0 Tryz.prog Tryz.f72 _ _ [] .returning _;exact⟨_,results_none rfl _ _ _,⟨_,rfl⟩,.inl A⟩
   .have O:=List.length_pos_iff.2 m
    gi_wp2
    refine⟨rfl,(bW none (P5 t W)).mono ?_⟩;rintro e W' ⟨rfl,rfl⟩;rw[hi];dsimp only;have p:(W'.setCell ⟨Bx,0,none⟩ (.string ⟨#[]⟩)).heap[Bx]?=some (.cells #[.string (ba [])] 9 (0,0)):=by have:=setCell_at (k:=0) (.string ⟨#[]⟩) HB.out;simp at this;exact this
    have z:J (t::fl []) (W'.setCell ⟨Bx,0,none⟩ (.string ⟨#[]⟩)):=by
     have:fl t=t::fl []:=by rw[ajl F m,ajk]
     rw[<-this];exact D _ _ _ A (λb f=>Below.heap_setCell _ _ _ b f) (by simp[World.setCell]) rfl rfl rfl
    gi_wp2
    obtain⟨fn,tm,U,T,c,H⟩:=i _ _ _ z ω;rw[c];refine⟨λh=>(by cases h),RoundIn.mono H ?_⟩;rintro e W2 ⟨o,⟨rfl,w⟩ |⟨rfl,q⟩⟩
    .dsimp only;have d:=o.trans p
     gi_wp2
     refine⟨⟨⟨rfl,rfl,rfl,rfl⟩,_,w,d,σ⟩,?_⟩;have B:P6 Bx W2=0:=by unfold P6;rw[d];rfl
     rw[B];omega
    .dsimp only
     gi_wp2
     show LeavesInM (FW none) 0 Tryz.prog Tryz.f72 _ _ [] .returning _;exact⟨_,results_none rfl _ _ _,⟨_,rfl⟩,.inr q⟩
end
section
attribute [local go_sem] Oper.semAt_some Bv
def prA : Code:=.region 3 #[⟨some 5,.assign (.tmp 8),9,"program.go:278",#[],none⟩] false
def prB : Code:=.block 1 (.seq (.region 4 #[⟨some 9,.move (.tmp 5),9,"program.go:279",#[],none⟩,⟨some 10,.call {callee:=.value (.func 40),args:=#[.tmp 9,.const (.string ⟨#[10]⟩)],argTypes:=#[9,9]},9,"program.go:279",#[⟨0,.data⟩],none⟩,⟨some 11,.call {callee:=.value (.func 39),args:=#[.tmp 4,.tmp 10],argTypes:=#[95,9]},4,"program.go:279",#[⟨1,.data⟩,⟨1,.chain⟩],none⟩,⟨some 12,.unOp .not 4 (.tmp 11),4,"program.go:279",#[⟨2,.data⟩],none⟩] false) (.cond (.tmp 12) (.seq (.region 5 #[⟨some 13,.build 26 #[],26,"program.go:280",#[],none⟩,⟨none,.store 26 (.tmp 2) (.tmp 13),0,"program.go:280",#[⟨0,.data⟩,⟨0,.phase⟩],none⟩,⟨none,.store 29 (.tmp 3) (.const (.int .i64 6)),0,"program.go:280",#[⟨1,.chain⟩,⟨0,.phase⟩,⟨1,.phase⟩],none⟩] false) (.ret)) (.skip)))
theorem St.other{W w:World}{B Pb g:Nat}{D:Nat->Prop}{q:Pg}(h:St W B Pb D q)(d:∀c,c≠g->w.heap[c]?=W.heap[c]?)(n:¬D g)(hp:g≠Pb):St w B Pb D q:=by obtain⟨f,i,j,l,a,m,hd⟩:=h.own;exact⟨f,i,j,l,⟨(d Pb λe=>hp e.symm).trans a.box,a.base,a.rows.keep λr k b o=>d b λe=>n (e▸hd b (aa9 k o))⟩,m,hd⟩
structure JP (w:World) (s:List UInt8) (rec:Loop) (r:List (List UInt8)) (W:World):Prop where
 st:∃q done,fl s=done++r/\iw N8 ⟨[],[],[]⟩ (done.map trimB)=some q/\St W (w.heap.size+2) (w.heap.size+2) (λb=>w.heap.size+5<b) q
 low:Below w.heap.size w W
 b0:W.heap[w.heap.size]?=some (.cells #[.slice none 0 0,.slice none 0 0,.slice none 0 0] 26 (0,0))
 b1:W.heap[w.heap.size+1]?=some (.cells #[.int .i64 0] 29 (0,0))
 hd:W.heap[w.heap.size+4]?=some (.deferred (some []))
 hl:W.heap[w.heap.size+5]?=some (.loop rec)
structure JX (w:World) (s:List UInt8) (rec:Loop) (W:World):Prop where
 no:iw N8 ⟨[],[],[]⟩ (vC s)=none
 low:Below w.heap.size w W
 b0:W.heap[w.heap.size]?=some (.cells #[.slice none 0 0,.slice none 0 0,.slice none 0 0] 26 (0,0))
 b1:W.heap[w.heap.size+1]?=some (.cells #[.int .i64 6] 29 (0,0))
 hd:W.heap[w.heap.size+4]?=some (.deferred (some []))
 hl:W.heap[w.heap.size+5]?=some (.loop { rec with state:=.done,pending:=some .ret })
theorem al0:List.range 25=[0,1,2,3,4,5,6,7,8,9,10,11,12,13,14,15,16,17,18,19,20,21,22,23,24]:=rfl
section
variable {gl:Option (List (Nat × Obj))}{X:Ext} (hX:Mine X) (Vy:Reads X) (hC:dS Tryz.prog tab gl (run tab X)) {w:World} (hgl:∀p∈gl.getD [],p.1<w.heap.size/\w.heap[p.1]?=some p.2)
include hX hC hgl
theorem acL(x:List UInt8)(g:x.length<=1000000){W:World}(d:Below w.heap.size w W):Calls Tryz.prog 40 #[.string (ba x),.string ⟨#[10]⟩] W λe W'=>e=.returned (.string (ba (trimB x)))/\Below W.heap.size W W':=by
 refine(XZ hC (f:=40) (fi:=ajt) τ (t:=9) τ rfl (xs:=[.str (ba x),.str ⟨#[10]⟩]) (M:=λb=>b<w.heap.size) (c40 X hX x g) (Bq hgl d) (λb a=>Nat.lt_of_lt_of_le a d.size) rfl λi x hi=>?_).mono ?_
 .match i,hi with
  |0,hi=>cases hi;exact .str _
  |1,hi=>cases hi;exact .str _
  |i+2,hi=>simp at hi
 .rintro e W' ⟨c,M',rfl,h,-,a⟩;cases h;grind
include Vy in
set_option maxHeartbeats 2000000 in
theorem X6(s:List UInt8)(hs:s.length<=99999){c:Loop}{fn D:Nat}{tm:Array Value}(j:c={state:=.ready,pending:=none,fn:=fn,tmps:=tm,params:=#[8],assign:=prA,body:=prB,defers:=D})(Q:tm.size=25)
    (t2:tm.getD 2 undef=.pointer (some ⟨w.heap.size,0,none⟩))(t3:tm.getD 3 undef=.pointer (some ⟨w.heap.size+1,0,none⟩))(t4:tm.getD 4 undef=.pointer (some ⟨w.heap.size+2,0,none⟩))
    (x:List UInt8)(r:List (List UInt8))(W:World)(hJ:JP w s c (x::r) W) :
    YieldAt (FW none) 0 Tryz.prog (w.heap.size+5) #[.string (ba x)] W λe W'=>W'.heap[w.heap.size+3]?=W.heap[w.heap.size+3]?/\((e=.returned (.bool true)/\JP w s c r W')\/(e=.returned (.bool false)/\JX w s c W')):=by
  obtain⟨⟨q,done,G,Z,V⟩,A,n,v,hd,hl⟩:=hJ;have hxl:x.length<=100000:=by have:=aeI (s:=s) (x:=x) (by rw[G];simp);omega
  have htl:(trimB x).length<=100000:=by
   unfold trimB;split
   .rw[List.length_dropLast];omega
   .exact hxl
  have h40:(FW (some (w.heap.size+5))).fn 40:=trivial;have h39:(FW (some (w.heap.size+5))).fn 39:=trivial;have hL:w.heap.size+5<W.heap.size:=(qAa.1 hl).1;refine⟨fn,tm.setIfInBounds 8 (.string (ba x)),prA,prB,?_,?_⟩
  .have:=run_yield (P:=Tryz.prog) (args:=#[.string (ba x)]) hl (by rw[j];rfl);rw[j]at this;dsimp only at this;simp at this;exact this
  refine roundIn_of_wpIn trivial ?_;have aiO:(FW none).inRound (w.heap.size+5)=FW (some (w.heap.size+5)):=rfl;rw[aiO];have M:(tm.setIfInBounds 8 (.string (ba x))).getD 2 undef=.pointer (some ⟨w.heap.size,0,none⟩):=by rw[<-t2];simp[qAb]
  have L:(tm.setIfInBounds 8 (.string (ba x))).getD 3 undef=.pointer (some ⟨w.heap.size+1,0,none⟩):=by rw[<-t3];simp[qAb]
  have K:(tm.setIfInBounds 8 (.string (ba x))).getD 4 undef=.pointer (some ⟨w.heap.size+2,0,none⟩):=by rw[<-t4];simp[qAb]
  have J:(tm.setIfInBounds 8 (.string (ba x))).getD 8 undef=.string (ba x):=by simp[qAb,Q]
  have O:(tm.setIfInBounds 8 (.string (ba x))).size=25:=by simp[Q]
  generalize f:({tmps:=tm.setIfInBounds 8 (.string (ba x)),defers:=[]}:Act)=a0;have e1:a0.tmps.size=25:=by rw[<-f];exact O
  have e2:a0.defers=[]:=by rw[<-f]
  have M:a0.tmps.getD 2 undef=.pointer (some ⟨w.heap.size,0,none⟩):=by rw[<-f];exact M
  have L:a0.tmps.getD 3 undef=.pointer (some ⟨w.heap.size+1,0,none⟩):=by rw[<-f];exact L
  have K:a0.tmps.getD 4 undef=.pointer (some ⟨w.heap.size+2,0,none⟩):=by rw[<-f];exact K
  have J:a0.tmps.getD 8 undef=.string (ba x):=by rw[<-f];exact J
  clear f;obtain⟨u,hu,rfl⟩:=tV a0 e1 e2;rw[hu]at M L K J;rw[al0];simp only[List.map_cons,List.map_nil,M,L,K,J];clear hu e1 e2 M L K J O;unfold prA
  gi_wp2
  refine⟨_,run_beginRound (P:=Tryz.prog) hl (by rw[j]),?_⟩;obtain⟨W1,l⟩:∃W1,W.putObj (w.heap.size+5) (.loop {c with state:=.busy})=W1:=⟨_,rfl⟩;rw[l];have hs1:W1.heap.size=W.heap.size:=by rw[<-l];exact World.putObj_size
  have t:∀b,b≠w.heap.size+5->W1.heap[b]?=W.heap[b]?:=λb p=>by rw[<-l];exact World.putObj_heap_other p
  have Y:W1.heap[w.heap.size+5]?=some (.loop {c with state:=.busy}):=by rw[<-l];exact World.putObj_heap_same hL
  have U:St W1 (w.heap.size+2) (w.heap.size+2) (λb=>w.heap.size+5<b) q:=V.other t ω ω;have hlow1:Below w.heap.size w W1:=by
   have:Below w.heap.size W W1:=by rw[<-l];exact⟨rfl,rfl,rfl,by rw[World.putObj_size];exact qNr _,λb p=>World.putObj_heap_other ω⟩
   exact A.trans this
  have hws:w.heap.size+5<W1.heap.size:=ω
  have hkW:∀b,b≠w.heap.size+5->W1.heap[b]?=W.heap[b]?:=t;have HJ:Hid (W.heap[w.heap.size]?=some (.cells #[.slice none 0 0,.slice none 0 0,.slice none 0 0] 26 (0,0))/\W.heap[w.heap.size+1]?=some (.cells #[.int .i64 0] 29 (0,0))/\W.heap[w.heap.size+4]?=some (.deferred (some []))/\fl s=done++x::r/\iw N8 ⟨[],[],[]⟩ (done.map trimB)=some q):=⟨n,v,hd,G,Z⟩;clear l V n v hd hl A G Z;unfold prB
  gi_wp2
  refine⟨rfl,(bW (some (w.heap.size+5)) (acL hX hC hgl x ω hlow1)).mono ?_⟩;rintro e W2 ⟨rfl,i⟩;dsimp only
  gi_wp2
  have acI:=i.size;have hlow2:=hlow1.trans (i.mono hlow1.size);have T:=(U.below i).mono (D':=λb=>w.heap.size+5<b/\b<W2.heap.size) λb _ I _ h4=>⟨h4,I⟩;have hsz:Sz q (mW (done.map trimB)):=by have:=Ov Zx _ _ _ 0 HJ.out.2.2.2.2 Vq;rwa[qNz]at this
  have aqK:mW (done.map trimB)<=100000:=by have h1:=Vp s;rw[<-Vs,HJ.out.2.2.2.1,List.map_append,PL]at h1;omega
  refine⟨rfl,(bW (some (w.heap.size+5)) (acK hX Vy hC hgl (trimB x) htl hlow2 (B:=w.heap.size+2) (D:=λb=>w.heap.size+5<b/\b<W2.heap.size) T ω (λb p=>⟨ω,p.2⟩) hsz ω
   (λe W3=>(e=.returned (.bool false)/\N8 q (trimB x)=none/\Below W2.heap.size W2 W3)\/∃H,e=.returned (.bool true)/\N8 q (trimB x)=some H/\Kp W2 W3 (λb=>w.heap.size+5<b/\b<W2.heap.size) (w.heap.size+2)/\St W3 (w.heap.size+2) (w.heap.size+2) (λb=>(w.heap.size+5<b/\b<W2.heap.size)\/W2.heap.size<=b) H)
   (λh W' p=>.inl ⟨rfl,h,p⟩) λH h W' hk hs=>.inr ⟨H,rfl,h,hk,hs⟩)).mono ?_⟩
  have hstep:iw N8 ⟨[],[],[]⟩ ((done++[x]).map trimB)=N8 q (trimB x):=by rw[List.map_append,sO,HJ.out.2.2.2.2];simp only[List.map_cons,List.map_nil,qOb,iw];cases N8 q (trimB x)<;>rfl
  have al1:fl s=(done++[x])++r:=by rw[HJ.out.2.2.2.1];simp
  rintro e W3 (⟨rfl,hno,z⟩ |⟨H,rfl,N,y,R⟩)
  .have d:∀b,b<W.heap.size->b≠w.heap.size+5->W3.heap[b]?=W.heap[b]?:=λb h1 I=>(z.block b ω).trans ((i.block b ω).trans (t b I));have E:=(z.block (w.heap.size+5) ω).trans ((i.block (w.heap.size+5) ω).trans Y);have RV:=z.size;have C:=hlow2.trans (z.mono hlow2.size);have n:=(d w.heap.size ω ω).trans HJ.out.1;have v:=(d (w.heap.size+1) ω ω).trans HJ.out.2.1;have hd:=(d (w.heap.size+4) ω ω).trans HJ.out.2.2.1;obtain⟨⟨c0,f0⟩,⟨c1,f1⟩,c2,f2⟩:=Vw (x0:=.slice none 0 0) (x1:=.slice none 0 0) n;obtain⟨s0,s1,s2,s3⟩:=iO (.slice none 0 0) (.slice none 0 0) (.slice none 0 0) n;have m:=(s2 (w.heap.size+1) ω).trans v;have c3:(((W3.setCell ⟨w.heap.size,0,none⟩ (.slice none 0 0)).setCell ⟨w.heap.size,1,none⟩ (.slice none 0 0)).setCell ⟨w.heap.size,2,none⟩ (.slice none 0 0)).cell? ⟨w.heap.size+1,0,none⟩=some (.int .i64 0):=by
    have:(Ip W3 w.heap.size (.slice none 0 0) (.slice none 0 0) (.slice none 0 0)).cell? ⟨w.heap.size+1,0,none⟩=some (.int .i64 0):=by simp only[World.cell?,m];rfl
    exact this
   have f3:(((W3.setCell ⟨w.heap.size,0,none⟩ (.slice none 0 0)).setCell ⟨w.heap.size,1,none⟩ (.slice none 0 0)).setCell ⟨w.heap.size,2,none⟩ (.slice none 0 0)).frozen? ⟨w.heap.size+1,0,none⟩=false:=by
    have:(Ip W3 w.heap.size (.slice none 0 0) (.slice none 0 0) (.slice none 0 0)).frozen? ⟨w.heap.size+1,0,none⟩=false:=by simp only[World.frozen?,m];rfl
    exact this
   dsimp only
   gi_wp2
   obtain⟨W4,g⟩:∃W4,(Ip W3 w.heap.size (.slice none 0 0) (.slice none 0 0) (.slice none 0 0)).setCell ⟨w.heap.size+1,0,none⟩ (.int .i64 6)=W4:=⟨_,rfl⟩;have g4:=jw (Ip W3 w.heap.size (.slice none 0 0) (.slice none 0 0) (.slice none 0 0)) (w.heap.size+1) 0 (.int .i64 6);have hs4:W4.heap.size=W3.heap.size:=by rw[<-g];simp[World.setCell]
   have F:∀b,b≠w.heap.size->b≠w.heap.size+1->W4.heap[b]?=W3.heap[b]?:=λb h1 I=>by rw[<-g];exact(Below.heap_setCell _ _ _ b I).trans (s2 b h1)
   have aqR:W4.heap[w.heap.size]?=some (.cells #[.slice none 0 0,.slice none 0 0,.slice none 0 0] 26 (0,0)):=by rw[<-g];exact(Below.heap_setCell _ _ _ _ σ).trans s0
   have aqS:W4.heap[w.heap.size+1]?=some (.cells #[.int .i64 6] 29 (0,0)):=by have:=setCell_at (k:=0) (.int .i64 6) m;rw[g]at this;simpa using this
   have X7:Below w.heap.size w W4:=(C.trans (s1 _ (qNr _))).trans (by rw[<-g];exact(Below.refl _ _).setCell σ _);have hl4:=(F (w.heap.size+5) ω ω).trans E;show roundPost Tryz.prog (w.heap.size+5) _ .ret _ (_:World);refine⟨_,_,run_endRound (P:=Tryz.prog) (some .ret) (g▸hl4),?_⟩;rw[show((((W3.setCell ⟨w.heap.size,0,none⟩ (.slice none 0 0)).setCell ⟨w.heap.size,1,none⟩ (.slice none 0 0)).setCell ⟨w.heap.size,2,none⟩ (.slice none 0 0)).setCell ⟨w.heap.size+1,0,none⟩ (.int .i64 6))=W4 from g];have a:∀(o:Obj) (b:Nat),b≠w.heap.size+5->(W4.putObj (w.heap.size+5) o).heap[b]?=W4.heap[b]?:=λo b h=>World.putObj_heap_other h;refine⟨(a _ _ ω).trans ((F _ ω ω).trans (d _ ω ω)),.inr ⟨rfl,?_⟩⟩;refine⟨?_,⟨X7.os,X7.tape,X7.output,by rw[World.putObj_size];exact X7.size,λb p=>(a _ b ω).trans (X7.block b p)⟩,(a _ _ ω).trans aqR,(a _ _ ω).trans aqS,(a _ _ ω).trans ((F _ ω ω).trans hd),?_⟩
   .rw[<-Vs,al1,List.map_append,sO,hstep,hno];rfl
   .exact World.putObj_heap_same ω
  .have hD5:¬(w.heap.size+5<w.heap.size+5/\w.heap.size+5<W2.heap.size):=ω
   have d:∀b,b<W.heap.size->b<w.heap.size+5->b≠w.heap.size+2->W3.heap[b]?=W.heap[b]?:=λb h1 I h3=>(y.block b ω h3 ω).trans ((i.block b ω).trans (t b ω));have E:=(y.block (w.heap.size+5) ω ω hD5).trans ((i.block (w.heap.size+5) ω).trans Y);have aui:=y.size;have C:=hlow2.trans (y.below (S:=w.heap.size) ω ω λb p=>ω);dsimp only
   gi_wp2
   show roundPost Tryz.prog (w.heap.size+5) _ .normal _ W3;refine⟨_,_,run_endRound (P:=Tryz.prog) none E,?_⟩;have adK:({({c with state:=.busy}:Loop)with state:=if(none:Option Code).isNone then .ready else .done,pending:=none}:Loop)=c:=by rw[j];rfl
   rw[adK];have a:∀(b:Nat),b≠w.heap.size+5->(W3.putObj (w.heap.size+5) (.loop c)).heap[b]?=W3.heap[b]?:=λb h=>World.putObj_heap_other h;refine⟨(a _ ω).trans (d _ ω ω ω),.inl ⟨rfl,?_⟩⟩;refine⟨⟨H,done++[x],al1,hstep.trans N,?_⟩,⟨C.os,C.tape,C.output,by rw[World.putObj_size];exact C.size,λb p=>(a b ω).trans (C.block b p)⟩,(a _ ω).trans ((d _ ω ω ω).trans HJ.out.1),(a _ ω).trans ((d _ ω ω ω).trans HJ.out.2.1),(a _ ω).trans ((d _ ω ω ω).trans HJ.out.2.2.1),?_⟩
   .exact(R.mono λb _ _ _ h=>by rcases h with h |h<;>omega).other a ω ω
   .exact World.putObj_heap_same ω
end
end
section
theorem ae8(args:Array Value)(w:World):(callFunc 72 args).run Tryz.prog w=.ok (.enter 72 args) w:=enters_of Tryz.func72 rfl rfl args w
theorem JP.stay{w:World}{s:List UInt8}{d:Loop}{r:List (List UInt8)}{W W':World}(h:JP w s d r W)(c:∀b,b≠w.heap.size+3->W'.heap[b]?=W.heap[b]?)(l:W'.heap.size=W.heap.size)(t:W'.os=W.os)(p:W'.tape=W.tape)(o:W'.output=W.output):JP w s d r W':=by obtain⟨⟨q,e,i,g,f⟩,a,k,j,hd,m⟩:=h;exact⟨⟨q,e,i,g,f.other c ω ω⟩,⟨t.trans a.os,p.trans a.tape,o.trans a.output,by rw[l];exact a.size,λb n=>(c b ω).trans (a.block b n)⟩,(c _ ω).trans k,(c _ ω).trans j,(c _ ω).trans hd,(c _ ω).trans m⟩
section
variable {gl:Option (List (Nat × Obj))}{X:Ext} (hX:Mine X) (Vy:Reads X) (hC:dS Tryz.prog tab gl (run tab X)) {w:World} (hgl:∀p∈gl.getD [],p.1<w.heap.size/\w.heap[p.1]?=some p.2)
include hX hC hgl Vy
theorem X8(s:List UInt8)(V:s.length<=99999){a:Act}{W:World}{Q:Exit->Act->World->Prop}(Z:a.tmps.size=25)(T:a.tmps.getD 2 undef=.pointer (some ⟨w.heap.size,0,none⟩))(S:a.tmps.getD 3 undef=.pointer (some ⟨w.heap.size+1,0,none⟩))(R:a.tmps.getD 4 undef=.pointer (some ⟨w.heap.size+2,0,none⟩))
    (O:a.tmps.getD 7 undef=.func (.func 72) #[] #[.pointer (some ⟨w.heap.size+3,0,none⟩)])(J:W.heap.size=w.heap.size+4)(c:Below w.heap.size w W)(n:W.heap[w.heap.size]?=some (.cells #[.slice none 0 0,.slice none 0 0,.slice none 0 0] 26 (0,0)))(m:W.heap[w.heap.size+1]?=some (.cells #[.int .i64 0] 29 (0,0)))
    (o:St W (w.heap.size+2) (w.heap.size+2) (λb=>w.heap.size+5<b) ⟨[],[],[]⟩)(I:W.heap[w.heap.size+3]?=some (.cells #[.string (ba s)] 9 (0,0)))
    (M:∀(W':World) (q:Pg),iw N8 ⟨[],[],[]⟩ (vC s)=some q->Below w.heap.size w W'->W'.heap[w.heap.size]?=some (.cells #[.slice none 0 0,.slice none 0 0,.slice none 0 0] 26 (0,0))->W'.heap[w.heap.size+1]?=some (.cells #[.int .i64 0] 29 (0,0))->W'.heap[w.heap.size+4]?=some (.deferred (some [])) ->
      St W' (w.heap.size+2) (w.heap.size+2) (λb=>w.heap.size+5<b) q->w.heap.size+5<W'.heap.size->Q .normal {a with defers:=qc (w.heap.size+4)::a.defers} W')
    (L:∀W':World,iw N8 ⟨[],[],[]⟩ (vC s)=none->Below w.heap.size w W'->W'.heap[w.heap.size]?=some (.cells #[.slice none 0 0,.slice none 0 0,.slice none 0 0] 26 (0,0))->W'.heap[w.heap.size+1]?=some (.cells #[.int .i64 6] 29 (0,0))->W'.heap[w.heap.size+4]?=some (.deferred (some [])) ->
      Q .ret {a with defers:=qc (w.heap.size+4)::a.defers} W') :
    (Code.rangeFunc (.tmp 7) #[8] prA prB).wpIn (FW none) 0 Tryz.prog Q a W:=by
  refine wpIn_rangeFunc λfn _=>?_;generalize j:({state:=.ready,pending:=none,fn:=fn,tmps:=a.tmps,params:=#[8],assign:=prA,body:=prB,defers:=W.heap.size}:Loop)=g;obtain⟨W1,i⟩:∃W1,(W.alloc (.deferred (some []))).alloc (.loop g)=W1:=⟨_,rfl⟩;have U:W1.heap.size=W.heap.size+2:=by rw[<-i];simp
  have t:∀b,b<W.heap.size->W1.heap[b]?=W.heap[b]?:=λb u=>by rw[<-i];exact(Below.heap_alloc _ _ b (by simp;omega)).trans (Below.heap_alloc _ _ b u)
  have K:W1.heap[w.heap.size+4]?=some (.deferred (some [])):=by rw[<-i,<-J];exact(Below.heap_alloc _ _ _ σ).trans (World.alloc_heap_new W _)
  have D:W1.heap[w.heap.size+5]?=some (.loop g):=by rw[<-i,show w.heap.size+5=W.heap.size+1 by omega];have:=World.alloc_heap_new (W.alloc (.deferred (some []))) (.loop g);simp_all
  have z:Below W.heap.size W W1:=by rw[<-i];exact((Below.refl _ W).alloc (qNr _) _).alloc σ _
  have y:(Instr.enterLoop fn a.tmps #[8] prA prB none).run Tryz.prog W=.ok (w.heap.size+5,[{target:=.collected (w.heap.size+4),args:=#[]}]) W1:=by rw[<-i,<-j,show w.heap.size+5=W.heap.size+1 by omega,show w.heap.size+4=W.heap.size by omega];exact run_enterLoop_outer _ _ _ _ _
  clear i;refine⟨w.heap.size+5,[{target:=.collected (w.heap.size+4),args:=#[]}],W1,{target:=.fn (.func 72) #[.pointer (some ⟨w.heap.size+3,0,none⟩)],args:=#[.func (.yield (w.heap.size+5)) #[] #[]]},W1,72,#[.func (.yield (w.heap.size+5)) #[] #[],.pointer (some ⟨w.heap.size+3,0,none⟩)],W1,y,?_,λ_ _=>trivial,?_,uo none,?_⟩
  .have:a.eval (.tmp 7)=.func (.func 72) #[] #[.pointer (some ⟨w.heap.size+3,0,none⟩)]:=O;simp_all[resolve,this,go_sem]
  .simp only[invoke];exact ae8 _ _
  refine bW _ ?_;have hJ:JP w s g (fl s) W1:=⟨⟨⟨[],[],[]⟩,[],rfl,rfl,o.below z⟩,c.trans (z.mono c.size),(t _ ω).trans n,(t _ ω).trans m,K,D⟩;refine(ZF (Bx:=w.heap.size+3) (l:=w.heap.size+5) s ω (JP w s g) (JX w s g) (λr W W' h Y h0 h1 h2 h3=>h.stay Y h0 h1 h2 h3) (λx r W h _=>X6 hX Vy hC hgl s V j.symm Z T S R x r W h) hJ ((t _ ω).trans I)).mono ?_;rintro e W2 ⟨⟨v,rfl⟩,E |E⟩
  .obtain⟨⟨q,N,G,F,o⟩,c,n,m,hd,A⟩:=E;have H:iw N8 ⟨[],[],[]⟩ (vC s)=some q:=by rw[<-Vs,G,List.append_nil];exact F
   have d:=run_endLoop (P:=Tryz.prog) A (by rw[<-j];simp);generalize k:W2.putObj (w.heap.size+5) _=wE at d;rw[show g.pending=none by rw[<-j]]at d;refine⟨none,wE,d,?_⟩;have f:∀b,b≠w.heap.size+5->wE.heap[b]?=W2.heap[b]?:=λb u=>by rw[<-k];exact World.putObj_heap_other u
   have B:wE.heap.size=W2.heap.size:=by rw[<-k];exact World.putObj_size
   have p:Below w.heap.size w wE:=c.trans (by rw[<-k];exact⟨rfl,rfl,rfl,by rw[World.putObj_size];exact qNr _,λb u=>World.putObj_heap_other ω⟩);exact M wE q H p ((f _ ω).trans n) ((f _ ω).trans m) ((f _ ω).trans hd) (o.other f ω ω) (by rw[B];exact(qAa.1 A).1)
  .obtain⟨C,c,n,m,hd,A⟩:=E;have d:=run_endLoop (P:=Tryz.prog) A σ;generalize k:W2.putObj (w.heap.size+5) _=wE at d;refine⟨some .ret,wE,d,?_⟩;have f:∀b,b≠w.heap.size+5->wE.heap[b]?=W2.heap[b]?:=λb u=>by rw[<-k];exact World.putObj_heap_other u
   have p:Below w.heap.size w wE:=c.trans (by rw[<-k];exact⟨rfl,rfl,rfl,by rw[World.putObj_size];exact qNr _,λb u=>World.putObj_heap_other ω⟩);exact wpIn_ret (L wE C p ((f _ ω).trans n) ((f _ ω).trans m) ((f _ ω).trans hd))
end
end
end Go.Skm.Prg
