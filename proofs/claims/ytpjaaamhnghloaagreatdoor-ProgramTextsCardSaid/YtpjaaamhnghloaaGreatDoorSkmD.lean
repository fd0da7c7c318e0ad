import Derived.Test.YtpjaaamhnghloaaGreatDoorSkmC
import Derived.WideKeyRuns
set_option linter.all false
namespace Go.Skm
section
variable {E:Array MapEntry}{k x:PV}{i n:Nat}{f:MapEntry->MapEntry}{kt t:TypeId}{c ck cm cv:Value}{b em:Bool}{cs vs:Array Value}{fs:Array Field}{es:List (PV × PV)}{kc:List PV}{q:Option Nat}{h':Nat -> Option aH}{m v:AV}
theorem ada:Nj #[] 0 0:=⟨rfl,σ,σ,rfl,σ⟩
theorem IQ{k:Nat}(h:Nj E k n)(key val:Value):Nj (E.push {key,val,born:=k}) (k+1) (n+1):=by
 obtain⟨h1,h2,u,h4,h5⟩:=h;refine⟨by simp[h1],?_,?_,ω,?_⟩
 .intro e l;simp only[Array.toList_push,List.mem_append,List.mem_singleton]at l;rcases l with l |rfl
  .have:=h2 e l;omega
  .simp
 .simp only[Array.toList_push,List.map_append,List.map_cons,List.map_nil];refine List.nodup_append.mpr ⟨u,σ,?_⟩;intro x r y p;simp only[List.mem_singleton]at p;subst p;obtain⟨e,l,rfl⟩:=List.mem_map.1 r;have:=h2 e l;omega
 .intro i e l;rw[Array.getElem?_push]at l;split at l
  .rename_i hi;cases l;show k=i;omega
  .exact h5 i e l
theorem Sm:(E.modify i f).toList=E.toList.modify i f:=σ
theorem wL{k:Nat}(h:Nj E k n)(z:∀e,(f e).born=e.born):Nj (E.modify i f) k n:=by
 obtain⟨h1,h2,F,h4,h5⟩:=h;have u:((E.modify i f).toList.map (·.born))=E.toList.map (·.born):=by
  rw[Sm];apply List.ext_getElem?;intro j;simp only[List.getElem?_map,List.getElem?_modify];cases E.toList[j]? with
  |none=>rfl
  |some e=>by_cases A:i=j<;>simp[A,z]
 refine⟨by simp[h1],?_,by rw[u];exact F,h4,λj e p=>?_⟩
 .intro e p;have:e.born∈(E.modify i f).toList.map (·.born):=List.mem_map.2 ⟨e,p,rfl⟩;rw[u]at this;obtain⟨r,l,G⟩:=List.mem_map.1 this;have:=h2 r l;omega
 .rw[Array.getElem?_modify]at p;split at p
  .rename_i B;obtain⟨r,l,rfl⟩:=Option.map_eq_some_iff.1 p;rw[z];exact h5 j r l
  .exact h5 j e p
section
variable {P:Program}{T:Tab}{w0:Base}{Pr M0 M:Nat->Prop}{β:Nat->Option (Nat × Nat)}{st:St}{a:Act}{w:World}{d:Option Nat}
theorem Yr(_ok:bJ P T)(r:Rel w0 Pr M0 M β st a w){x:Option AV}{c:Option Value}(z:V5 w M β (look st.heap) x c) :
    aI P w0 Pr M0 β st a w d (EI T d t x) (do pure (.value (<-Instr.makeMap t c))):=by
  unfold EI;split
  .rename_i d kt J I;have G:c=none:=by
    cases c with
    |none=>rfl
    |some _=>exact z.elim
   subst G;have run:(Instr.makeMap t none).run P w=.ok (.map (some w.heap.size)) (w.alloc (.map #[] 0)):=rfl;have A:=r.fresh (ss:=[]) (d:=d) (blk:=.mp t []) (v:=.mref d) (c:=.map (some w.heap.size)) (w':=w.alloc (.map #[] 0)) (b:=w.heap.size) (o:=0) rfl σ σ rfl rfl rfl (λk l=>alloc_old l) (qNr _) σ (by intro β' h' u B l H;exact⟨.mp t [] w.heap.size 0 #[] 0 u lC ada (λi p e hi=>by simp at hi),.Iy d t [] w.heap.size 0 B u⟩);exact aI.ret (nv:=.value (.map (some w.heap.size))) (by simp only[Sem.run_bind,run,qRa,Sem.run_pure]) (.inl rfl) (λ_=>A) (λF=>rG F)
  .exact aI.fail
theorem IU : ∀ {fs : List Field} {o : Nat}, vG T o fs = true -> ∀ i f, fs[i]? = some f -> f.offset = o + i /\ f.name ≠ "_" /\ oK T f.type = some 1 /\ ∃ k, und T f.type = some (.int k)
 |[],o,_,i,f,h=>by simp at h
 | g::fs,o,hf,i,f,h=>by
  simp only[vG,qBa,beq_iff_eq,bne_iff_ne,ne_eq]at hf;obtain⟨⟨h1,h2,r⟩,h4,h5⟩:=hf;cases i with
  | zero =>
   simp at h;subst h;have e3:oK T g.type=some 1:=by
    have:=Nat.eq_of_beq_eq_true r;cases l:oK T g.type with
    | none=>rw[l]at this;simp at this
    | some n=>rw[l]at this;simpa using this
   refine⟨ω,h2,e3,?_⟩;split at h4
   . rename_i k p;exact⟨k,p⟩
   . cases h4
  | succ i =>simp at h;obtain⟨z,u⟩:=IU h5 i f h;exact⟨ω,u⟩
theorem Yt(ok:bJ P T): ∀{fs:List Field} {o:Nat},vG T o fs=true->o+fs.length<=cs.size ->
    (forIn fs PUnit.unit λf _r=>do
      if f.name ≠ "_" then Instr.checkKey em (n + 1) f.type (<- part f.type cs f.offset)
      pure (ForInStep.yield PUnit.unit):Sem PUnit).run P w=.ok PUnit.unit w:=by
  intro fs;induction fs with
  | nil=>intro o _ _;simp
  | cons f fs B =>
   intro o r F;obtain⟨h1,h2,G,h4⟩:=IU r 0 f rfl;simp only[qLl]at F;have p:vG T (o+1) fs=true:=by simp only[vG,qBa]at r;exact r.2.2
   have hpart:∃ v,(part f.type cs f.offset).run P w=.ok v w/\(Instr.checkKey em (n+1) f.type v).run P w=.ok () w:=by
    have u:cs[f.offset]?=some cs[f.offset]!:=by rw[getElem!_pos cs f.offset ω,qAd]
    refine⟨cs[f.offset]!,?_,?_⟩
    . obtain⟨k,l⟩:=h4;simp[part,isAgg,aW (ok.und l),u]
    . obtain⟨k,l⟩:=h4;simp[Instr.checkKey,aW (ok.und l)]
   obtain⟨v,A,z⟩:=hpart;simp only[List.forIn_cons,Sem.run_bind,ne_eq,h2,not_false_eq_true,if_true,A,qRa,z,Sem.run_pure];exact B p ω
theorem zX(ok:bJ P T)(l:nH T t=true)(p:und T t=some (.struct fs))(r:fs.size<=cs.size):
    (Instr.checkKey em (n+2) t (.agg cs)).run P w=.ok () w:=by
  unfold nH at l;rw[p]at l;simp only[qBa]at l;have:=Yt (P:=P) (w:=w) ok (em:=em) (n:=n) (cs:=cs) l.2 (by simpa using r);rw[Instr.checkKey];simp only[Sem.run_bind,aW (ok.und p),qRa,<-Array.forIn_toList,this,Sem.run_pure]
theorem Rel.writeM(r:Rel w0 Pr M0 M β st a w){s b:Nat}{es':List (PV × PV)}{o:Nat}{w':World}{E':Array MapEntry}{k Y:Nat}
    (hs:look st.heap s=some (.mp t es))(O:β s=some (b,o))(hw:w.heap[b]?=some (.map E k))(J:w'.heap=w.heap.setIfInBounds b (.map E' Y))(hos:w'.os=w.os)(htp:w'.tape=w.tape)(hop:w'.output=w.output)
    (hn:Nj E' Y es'.length)(hB:(∀(v:PV) (c:Value),VR w M v c->VR w' M v c)->∀(i:Nat) (p:PV × PV) (e:MapEntry),es'[i]?=some p->E'[i]?=some e->VR w' M p.1 e.key/\VR w' M p.2 e.val) :
    Rel w0 Pr M0 M β {st with heap:=put st.heap s (.mp t es')} a w':=by
  have hi:(look st.heap s).isSome=true:=by rw[hs];rfl
  obtain⟨G,o2,o3⟩:=r.own s b o hi O;have A:look (put st.heap s (.mp t es'))=λx=>if x=s then some (.mp t es')else look st.heap x:=funext λx=>aZ _ _ _ _
  have N:w'.heap.size=w.heap.size:=by rw[J];simp
  have u:∀b',b'≠b->w'.heap[b']?=w.heap[b']?:=λb' h=>by rw[J,qAe (λe=>h e.symm)]
  have hself:w'.heap[b]?=some (.map E' Y):=by rw[J];simp[o2]
  have R:∀b',M b'->M b'/\w'.heap[b']?=w.heap[b']?:=λb' h=>⟨h,u b' λe=>G (e▸h)⟩;have hroom:∀b' n,Room w b' n->Room w' b' n:=by
   intro b' n W;by_cases h:b'=b
   .subst h;obtain⟨C1,Z,X,h1,h2,S⟩:=W;rw[hw]at h1;cases h1
   .exact W.of_block (u b' h)
  have key:∀(v:AV) (c:Value),AR w M β (look st.heap) v c->AR w' M β (λx=>if x=s then some (.mp t es')else look st.heap x) v c:=by
   intro v c h;refine h.mono R λl b' _ h1=>?_;by_cases h2:l=s
   .subst h2;rw[hs]at h1;cases h1;exact⟨.mp t es',σ,rfl,rfl,λb o n _ W=>hroom b n W⟩
   .exact⟨b',by simp only[if_neg h2];exact h1,Like.refl _,rfl,λb o n _ W=>hroom b n W⟩
  refine⟨r.mJ,λt v h=>by rw[A];exact key _ _ (r.env t v h),?_,?_,?_,λb' h=>by rw[N];exact r.dJ b' h,r.jH,r.oZ,?_,λb' n h1 h2 S=>hroom b' n (r.room b' n h1 h2 S),by rw[N];exact r.size,hos.trans r.os,htp.trans r.tape,hop.trans r.output,λp hp=>⟨(R _ (r.glob p hp).1).1,(R _ (r.glob p hp).1).2.trans (r.glob p hp).2⟩⟩
  .intro l b' h1;show BR w' M β (look (put st.heap s (.mp t es'))) l b';by_cases h2:l=s
   .subst h2;simp only[A,if_true,qOa]at h1;subst h1;exact .mp t es' b o E' Y O hself hn (hB λv c h=>h.mono R)
   .simp only[A,if_neg h2]at h1;have B:(look st.heap l).isSome=true:=by rw[h1];rfl
    rw[A];cases r.heap l b' h1 with
    |box cs b1 G C1 Z X z I H F U g6=>exact .box _ b1 G C1 Z X z (by rw[u b1 λe=>h2 (r.inj l s b _ _ B hi (e▸z) O)];exact I) H F U λj c hc=>key _ _ (g6 j c hc)
    |gJ a ks=>exact .gJ a ks
    |log on ys=>exact .log on ys
    |arr a ks xs b1 G C1 Z X z I H F U g6=>exact .arr a ks xs b1 G C1 Z X z (by rw[u b1 λe=>h2 (r.inj l s b _ _ B hi (e▸z) O)];exact I) H F U λi x j c V hc=>(g6 i x j c V hc).mono R
    |tb t c0 c1 b1 C1 X z I H F U g6 g7 g8=>exact .tb t c0 c1 b1 C1 X z (by rw[u b1 λe=>h2 (r.inj l s b _ _ B hi (e▸z) O)];exact I) H F U g6 (key _ _ g7) (key _ _ g8)
    |mp t es b1 G E k z I H F=>exact .mp t es b1 G E k z (by rw[u b1 λe=>h2 (r.inj l s b _ _ B hi (e▸z) O)];exact I) H λi p e hi he=>⟨(F i p e hi he).1.mono R,(F i p e hi he).2.mono R⟩
    |GX e=>exact .GX e
    |br e xs b1 C1 fr z I H F U g6=>exact .br e xs b1 C1 fr z (by rw[u b1 λe=>h2 (r.inj l s b _ _ B hi (e▸z) O)];exact I) H F U g6
  .intro l b' o' h1 h2;rw[N];by_cases S:l=s
   .subst S;exact r.own l b' o' hi h2
   .simp only[A,if_neg S]at h1;exact r.own l b' o' h1 h2
  .intro l s'' b' G o2 h1 h2 S h4;have V:∀x,(look (put st.heap s (.mp t es')) x).isSome=true->(look st.heap x).isSome=true:=by
    intro x V;by_cases h:x=s
    .subst h;exact hi
    .simpa only[A,if_neg h] using V
   exact r.inj l s'' b' G o2 (V _ h1) (V _ h2) S h4
  .intro b' h1 h2;rw[u b' ?_,r.keep b' h1 h2];rintro rfl;rcases o3.1 with h |h
   .omega
   .exact h2 h
theorem yH(ok:bJ P T)(hk:EC T kt=true)(hu:und T kt=some (.struct fs))(N:vs.size=kc.length)(hv:∀(i:Nat) (c:PV),kc[i]?=some c->VR w M c (vs.getD i undef)) :
    ∀{es:List (PV × PV)}{E:List MapEntry}{q:Option Nat} (j:Nat),es.length=E.length->(∀(i:Nat) (p:PV × PV) (e:MapEntry),es[i]?=some p->E[i]?=some e->VR w M p.1 e.key/\VR w M p.2 e.val)->fH T kt kc es=some q ->
     (Instr.findAsking kt (.agg vs) E j).run P w=.ok (q.bind λi=>(E[i]?).map λe=>(j+i,e.val)) w/\∀i,q=some i->∃p e c G,es[i]?=some p/\E[i]?=some e/\p.1=.agg c/\e.key=.agg G/\TR T 4 kt kc c=some true:=by
  intro es;induction es with
  |nil=>intro E q j F R r;have:E=[]:=List.length_eq_zero_iff.1 (by simpa using F.symm);subst this;simp[fH]at r;subst r;exact⟨by simp[Instr.findAsking],λi h=>by cases h⟩
  |cons p es Z=>
   intro E q j F R r
   match E,F with
   |e::E,F=>
    obtain⟨u,he2⟩:=R 0 p e rfl rfl;have hrest:∀(i:Nat) (p:PV × PV) (e:MapEntry),es[i]?=some p->E[i]?=some e->VR w M p.1 e.key/\VR w M p.2 e.val:=λi p e h1 h2=>R (i+1) p e (by simpa using h1) (by simpa using h2);unfold fH at r;cases hp:p.1 with
    |agg c=>
     rw[hp]at r u;simp only[PV.afe]at r;cases l:e.key with
     |agg G=>
      rw[l]at u;cases u with
      |agg _ _ hn hl1 hh=>
       have A:=ok.plain hk;have I:=ok.und hu;unfold P8 at A;rw[I]at A;simp only[qBa,qBb]at A;have B:wz P kt=true:=by unfold wz;rw[I]
       have H:∀b,TR T 4 kt kc c=some b->(Op.equal kt (.agg vs) (.agg G)).run P w=.ok b w:=by intro b hb;exact ZU ok 4 9996 kt kc c b (.agg vs) (.agg G) A.1 hb (by unfold Rep;rw[if_pos B];exact⟨vs,rfl,N,hv⟩) (by unfold Rep;rw[if_pos B];exact⟨G,rfl,hn,hh⟩)
       cases z:TR T 4 kt kc c with
       |none=>rw[z]at r;cases r
       |some b=>
        rw[z]at r;have U:=H b z;cases b with
        |true=>simp only[qOa]at r;subst r;refine⟨by simp[Instr.findAsking,l,U],λi hi=>?_⟩;cases hi;exact⟨p,e,c,G,rfl,rfl,hp,l,z⟩
        |false=>
         simp only[Option.map_eq_some_iff]at r;obtain⟨S,O,rfl⟩:=r;obtain⟨g1,g2⟩:=Z (j+1) (by simpa using F) hrest O;refine⟨?_,λi hi=>?_⟩
         .simp only[Instr.findAsking,l,Sem.run_bind,U,qRa,Bool.false_eq_true,if_false,g1];cases S with
          |none=>rfl
          |some i=>simp only[qOb,Option.map_some,List.getElem?_cons_succ,show j+1+i=j+(i+1) by omega]
         .cases S with
          |none=>cases hi
          |some i'=>simp only[Option.map_some,qOa]at hi;subst hi;obtain⟨V,e2,c2,J,Y,X,W⟩:=g2 i' rfl;exact⟨V,e2,c2,J,by simpa using Y,by simpa using X,W⟩
     |_=>rw[l]at u;cases u
    |_=>rw[hp]at r;simp[PV.afe]at r
   |[],F=>simp at F
def PV.tu:PV->Bool
 |.int _ _=>true
 |_=>false
theorem LV:∀{fs:List Field}{o:Nat}{xs ys:List PV},vG T o fs=true->RX (oK T) (TR T 3) fs xs ys=some true->xs=ys/\xs.length=fs.length/\∀x∈xs,x.tu=true
 |[],o,xs,ys,_,h=>by cases xs<;>cases ys<;>simp[RX]at h;simp
 |f::fs,o,xs,ys,hf,h=>by
  obtain⟨h1,h2,N,h4⟩:=IU hf 0 f rfl;have F:vG T (o+1) fs=true:=by simp only[vG,qBa]at hf;exact hf.2.2
  unfold RX at h;rw[N]at h;simp only at h;cases p:(Nat.ble 1 xs.length&&Nat.ble 1 ys.length)with
  |false=>rw[p]at h;cases h
  |true=>
   rw[p]at h;simp only[qCt,qBa,Nat.ble_eq]at h p
   match xs,ys,p with
   |x::xs,y::ys,_=>
    simp only[List.take_succ_cons,List.take_zero,List.drop_succ_cons,qLy]at h;cases l:TR T 3 f.type [x] [y]with
    |none=>rw[l]at h;simp at h
    |some b1=>
     cases G:RX (oK T) (TR T 3) fs xs ys with
     |none=>rw[l,G]at h;simp at h
     |some U=>
      rw[l,G]at h;simp only[qOa,qBa]at h;obtain⟨rfl,rfl⟩:=h;obtain⟨S,R,O⟩:=LV F G;have u:x=y/\x.tu=true:=by
       unfold TR at l;obtain⟨k,J⟩:=h4;rw[J]at l;cases x<;>cases y<;>simp[xR]at l;rename_i I n1 H n2 _;cases B:(I==H)with
       |false=>rw[B]at l;cases l
       |true=>
        rw[B]at l;simp only[qCt,qOa]at l;have l:=eq_of_beq l;have A:I=H:=by simpa using B
        subst A;subst l;exact⟨rfl,rfl⟩
      obtain⟨rfl,hp⟩:=u;subst S;refine⟨rfl,by simp[R],?_⟩;intro z r;rcases List.mem_cons.1 r with rfl |r
      .exact hp
      .exact O z r
   |[],_,p=>simp at p
   |_::_,[],p=>simp at p
theorem Sr{d:Value}(l:x.tu=true)(h1:VR w M x c)(h2:VR w M x d):Instr.sameBits n c d=true:=by cases h1<;>simp[PV.tu]at l<;>cases h2<;>cases n<;>simp[Instr.sameBits]
theorem JZ{p:Array Value}(hp:∀x∈kc,x.tu=true)(J:p.size=kc.length)(I:vs.size=kc.length)(h1:∀(i:Nat) (c:PV),kc[i]?=some c->VR w M c (p.getD i undef))
    (h2:∀(i:Nat) (c:PV),kc[i]?=some c->VR w M c (vs.getD i undef)):Instr.sameBits (n+1) (.agg p) (.agg vs)=true:=by
  unfold Instr.sameBits;simp only[qBa,beq_iff_eq,List.all_eq_true];refine⟨ω,?_⟩;rintro ⟨a,b⟩ r;obtain⟨i,hi,e⟩:=List.getElem_of_mem r;simp only[List.getElem_zip,Prod.mk.injEq]at e;have l:i<p.size/\i<vs.size:=by simp at hi;omega
  have A:kc[i]?=some kc[i]:=qLd ω;have z:=h1 i _ A;have u:=h2 i _ A;rw[Array.getD,dif_pos l.1]at z;rw[Array.getD,dif_pos l.2]at u;obtain⟨H,G⟩:=e;have F:p.getInternal i l.1=a:=by rw[<-H];simp
  have B:vs.getInternal i l.2=b:=by rw[<-G];simp
  rw[F]at z;rw[B]at u;exact Sr (hp _ (List.getElem_mem ω)) z u
theorem En(s:ByteArray):(s==s)=true:=by obtain⟨d⟩:=s;show(d==d)=true;exact beq_self_eq_true d
theorem Jy{s t:ByteArray}(h:(s==t)=true):s=t:=by obtain⟨d⟩:=s;obtain⟨e⟩:=t;have:(d==e)=true:=h;rw[eq_of_beq this]
theorem aac{d:TypeDesc}{cx:Value}(hd:und T kt=some d)(l:xR (und T kt) k x=some b)(r:VR w M k ck)(p:VR w M x cx) :
    Instr.sameNow d ck cx=some b/\(b=true->k=x):=by
  rw[hd]at l;cases k<;>cases x<;>simp[xR]at l
  .rename_i b1 G;cases r;cases p;cases d<;>simp at l;subst l;exact⟨by simp[Instr.sameNow],λh=>by simpa using h⟩
  .rename_i B n1 A n2;cases r;cases p;cases d<;>simp at l;cases z:(B==A)with
   |false=>rw[z]at l;cases l
   |true=>
    rw[z]at l;simp only[qCt,qOa]at l;have u:B=A:=by simpa using z
    subst u l;exact⟨by simp[Instr.sameNow],λh=>by simpa using h⟩
  .rename_i F s2;cases r;cases p;cases d<;>simp at l;subst l;exact⟨by simp[Instr.sameNow],λh=>by rw[Jy h]⟩
theorem Wj{d:TypeDesc}(hd:und T kt=some d)(R:VR w M k ck):∀{es:List (PV × PV)}{E:List MapEntry}{q:Option Nat} (j:Nat),es.length=E.length ->
    (∀(i:Nat) (p:PV × PV) (e:MapEntry),es[i]?=some p->E[i]?=some e->VR w M p.1 e.key/\VR w M p.2 e.val)->bP T kt k es=some q ->
      Instr.findNow d ck E j=some (q.bind λi=>(E[i]?).map λe=>(j+i,e.val))/\∀i,q=some i->∃p e,es[i]?=some p/\E[i]?=some e/\p.1=k:=by
  intro es;induction es with
  |nil=>intro E q j u _ l;have:E=[]:=List.length_eq_zero_iff.1 (by simpa using u.symm);subst this;simp[bP]at l;subst l;exact⟨rfl,λi h=>by cases h⟩
  |cons p es N=>
   intro E q j u F l
   match E,u with
   |[],u=>simp at u
   |e::E,u=>
    obtain⟨A,_⟩:=F 0 p e rfl rfl;unfold bP at l;cases r:xR (und T kt) k p.1 with
    |none=>rw[r]at l;cases l
    |some b=>
     rw[r]at l;obtain⟨n1,n2⟩:=aac hd r R A;cases b with
     |true=>simp only[qOa]at l;subst l;exact⟨by simp[Instr.findNow,n1],λi hi=>by cases hi;exact⟨p,e,rfl,rfl,(n2 rfl).symm⟩⟩
     |false=>
      simp only[Option.map_eq_some_iff]at l;obtain⟨B,z,rfl⟩:=l;obtain⟨U,S⟩:=N (j+1) (by simpa using u) (λi p e h1 h2=>F (i+1) p e (by simpa using h1) (by simpa using h2)) z;refine⟨?_,λi hi=>?_⟩
      .simp only[Instr.findNow,n1,U];cases B with
       |none=>rfl
       |some i=>simp only[qOb,Option.map_some,List.getElem?_cons_succ,show j+1+i=j+(i+1) by omega]
      .cases B with
       |none=>cases hi
       |some O=>simp only[Option.map_some,qOa]at hi;subst hi;obtain⟨G,V,J,I,H⟩:=S O rfl;exact⟨G,V,by simpa using J,by simpa using I,H⟩
theorem J3(ok:bJ P T)(z:VR w M k ck)(l:wF T kt=true){E:List MapEntry}(u:es.length=E.length)
    (A:∀(i:Nat) (p:PV × PV) (e:MapEntry),es[i]?=some p->E[i]?=some e->VR w M p.1 e.key/\VR w M p.2 e.val)(r:bP T kt k es=some q) :
    (Instr.findKey kt ck E).run P w=.ok (q.bind λi=>(E[i]?).map λe=>(i,e.val)) w/\∀i,q=some i->∃p e,es[i]?=some p/\E[i]?=some e/\p.1=k:=by
  unfold wF at l;cases hd:und T kt with
  |none=>rw[hd]at l;cases l
  |some d=>obtain⟨F,B⟩:=Wj hd z 0 u A r;refine⟨?_,B⟩;unfold Instr.findKey;simp only[Sem.run_bind,aW (ok.und hd),qRa,F,qNz,Sem.run_pure]
theorem Ho(ok:bJ P T)(l:wF T kt=true):(Instr.checkKey em (n+1) kt ck).run P w=.ok () w:=by
 unfold wF at l;cases hd:und T kt with
 |none=>rw[hd]at l;cases l
 |some d=>rw[hd]at l;rw[Instr.checkKey];simp only[Sem.run_bind,aW (ok.und hd),qRa];cases d<;>simp at l<;>rfl
theorem Wn{d:Value}(l:x.Gg=true)(h1:VR w M x c)(h2:VR w M x d):Instr.sameBits n c d=true:=by cases h1<;>simp[PV.Gg]at l<;>cases h2<;>cases n<;>simp[Instr.sameBits,En]
theorem QS(ok:bJ P T)(r:Rel w0 Pr M0 M β st a w)(O:∀s b,h' s=some b->look st.heap s=some b){k:AV} 
    (hm:AR w M β (look st.heap) m cm)(I:AR w M β (look st.heap) k ck)(X:AR w M β (look st.heap) v cv):aI P w0 Pr M0 β st a w d (yt T h' t m k v) (do Instr.mapUpdate t cm ck cv;pure .skip):=by
  unfold yt;split
  .rename_i kt et s k v Y;have Y:=ok.und Y;split
   .rename_i u es hl0;have B:=O _ _ hl0;refine aI.chk λhb=>aI.chk λhf=>?_;simp only[qBa]at hb;obtain⟨S,hb2,hb3⟩:=hb;cases hm with
    |Iz _ _ _ _ _ J=>rw[B]at J;cases J
    |yB _ _ J=>rw[B]at J;cases J
    |Iy _ u' es' b o J g2=>
     cases r.heap s _ B with
     |mp _ _ b' U E n k1 W V H=>
      rw[g2]at k1;cases k1;cases I with
      |p _ _ I=>
      cases X with
      |p _ _ X=>
      obtain⟨q,hq⟩:=Option.isSome_iff_exists.1 hf;rw[hq,Option.getD_some];obtain⟨hfind,f2⟩:=J3 (P:=P) ok I S (E:=E.toList) (by simpa using V.1.symm) (λi p e hi l=>H i p e hi (by simpa using l)) hq;have Sv:(getObj b).run P w=.ok (.map E n) w:=by simp[getObj,Sem.run,W]
      have z:∀U:Obj,(setObj b U).run P w=.ok () {w with heap:=w.heap.setIfInBounds b U}:=λU=>by simp[setObj,Sem.run,W]
      have QM:=Ho (P:=P) (w:=w) ok S (em:=false) (n:=9999) (ck:=ck);cases q with
      |none=>
       have run:(Instr.mapUpdate t (.map (some b)) ck cv).run P w=.ok () {w with heap:=w.heap.setIfInBounds b (.map (E.push {key:=ck,val:=cv,born:=n}) (n+1))}:=by simp only[Instr.mapUpdate,Sem.run_bind,aW Y,qRa,Sv,QM,hfind,Option.bind_none,z]
       refine aI.ret (h5:=λ_=>nN (.inr ⟨_,B,rfl⟩)) (nv:=.skip) (c:=undef) (M':=M) (β':=β) (by simp only[Sem.run_bind,run,qRa,Sem.run_pure];rfl) (.inr ⟨rfl,rfl⟩) λ_=>?_;rw[qG];have hw:=r.writeM (es':=dA es k v none) (w':={w with heap:=w.heap.setIfInBounds b (.map (E.push {key:=ck,val:=cv,born:=n}) (n+1))}) B g2 W rfl rfl rfl rfl (by
        have:=IQ V ck cv;simpa[dA] using this) (by
        intro hmono i p e hi l;simp only[dA,List.getElem?_append]at hi;rw[Array.getElem?_push,V.1]at l;split at hi
        .rename_i R;rw[if_neg ω]at l;exact⟨hmono _ _ (H i p e hi l).1,hmono _ _ (H i p e hi l).2⟩
        .rename_i hge;have hi0:i-es.length=0:=by have:=(qLa.1 hi).1;simp at this;omega
         have:i=es.length:=ω
         rw[if_pos this]at l;rw[hi0]at hi;simp only[List.getElem?_cons_zero,qOa]at hi l;subst hi l;exact⟨hmono _ _ I,hmono _ _ X⟩)
       exact hw.setEnv d (v:=.undef) (c:=undef) (.undef _)
      |some i=>
       obtain⟨p,e,Z,j2,j3⟩:=f2 i rfl;have A:E[i]?=some e:=by simpa using j2
       have N:=(H i p e Z A).1;rw[j3]at N;have hsb:Instr.sameBits 10000 e.key ck=true:=Wn hb3 N I;have hst:(Instr.keyThatStays (((E[i]?).map (·.key)).getD ck) ck).run P w=.ok ck w:=by rw[A,Option.map_some,Option.getD_some];unfold Instr.keyThatStays;rw[if_pos hsb];rfl
       have run:(Instr.mapUpdate t (.map (some b)) ck cv).run P w=.ok () {w with heap:=w.heap.setIfInBounds b (.map (E.modify i λe=>{e with key:=ck,val:=cv}) n)}:=by simp only[Instr.mapUpdate,Sem.run_bind,aW Y,qRa,Sv,QM,hfind,qOb,j2,Option.map_some,hst,z]
       refine aI.ret (h5:=λ_=>nN (.inr ⟨_,B,rfl⟩)) (nv:=.skip) (c:=undef) (M':=M) (β':=β) (by simp only[Sem.run_bind,run,qRa,Sem.run_pure];rfl) (.inr ⟨rfl,rfl⟩) λ_=>?_;rw[qG];have hw:=r.writeM (es':=dA es k v (some i)) (w':={w with heap:=w.heap.setIfInBounds b (.map (E.modify i λe=>{e with key:=ck,val:=cv}) n)}) B g2 W rfl rfl rfl rfl (by
        have:=wL V (i:=i) (f:=λe=>{e with key:=ck,val:=cv}) (λ_=>rfl);simpa[dA] using this) (by
        intro hmono j p' e' F l;simp only[dA,List.getElem?_set]at F;rw[Array.getElem?_modify]at l;by_cases G:i=j
        .subst G;have R:=(qLa.1 Z).1;rw[if_pos rfl,if_pos R]at F;rw[if_pos rfl,A]at l;simp only[Option.map_some,qOa]at F l;subst F l;have:es.getD i (.nil,.nil)=p:=by simp[List.getD,Z]
         rw[this,j3];exact⟨hmono _ _ I,hmono _ _ X⟩
        .rw[if_neg G]at F;rw[if_neg G]at l;exact⟨hmono _ _ (H j p' e' F l).1,hmono _ _ (H j p' e' F l).2⟩)
       exact hw.setEnv d (v:=.undef) (c:=undef) (.undef _)
   .exact aI.fail
  .exact aI.fail
theorem Wp(h:∀kc,k≠.agg kc):iq T kt k es=bif wF T kt&&k.Gg then bP T kt k es else none:=by cases k<;>first |rfl |(exact absurd rfl (h _))
theorem aad(ok:bJ P T)(O:VR w M k ck){E:List MapEntry}(N:es.length=E.length)
    (R:∀(i:Nat) (p:PV × PV) (e:MapEntry),es[i]?=some p->E[i]?=some e->VR w M p.1 e.key/\VR w M p.2 e.val)(z:iq T kt k es=some q):
    (Instr.checkKey em 10000 kt ck).run P w=.ok () w/\∃r,(Instr.findKey kt ck E).run P w=.ok r w/\(q=none->r=none)/\∀i,q=some i->∃p e j,es[i]?=some p/\E[i]?=some e/\r=some (j,e.val):=by
  have leaf:wF T kt=true->bP T kt k es=some q->(Instr.checkKey em 10000 kt ck).run P w=.ok () w/\∃r,(Instr.findKey kt ck E).run P w=.ok r w/\(q=none->r=none)/\∀i,q=some i->∃p e j,es[i]?=some p/\E[i]?=some e/\r=some (j,e.val):=by intro h1 h2;obtain⟨V,U⟩:=J3 (P:=P) ok O h1 N R h2;refine⟨Ho ok h1 (n:=9999),_,V,λh=>by rw[h];rfl,λi hi=>?_⟩;obtain⟨p,e,H,A,_⟩:=U i hi;exact⟨p,e,i,H,A,by rw[hi];simp[A]⟩
  cases k with
  |agg kc=>
   simp only[iq]at z;cases G:(nH T kt&&Nat.beq kc.length (nFields T kt))with
   |false=>rw[G]at z;cases z
   |true=>
    rw[G,qCt]at z;simp only[qBa]at G;obtain⟨l,F⟩:=G;have F:=Nat.eq_of_beq_eq_true F;cases O with
    |agg _ vs I S Y=>
    obtain⟨fs,u⟩:∃fs,und T kt=some (.struct fs):=by
     unfold nH at l;simp only[qBa]at l;have:=l.2;split at this
     .rename_i fs u;exact⟨fs,u⟩
     .cases this
    have hplain:EC T kt=true:=by unfold nH at l;simp only[qBa]at l;exact l.1
    obtain⟨X,W⟩:=yH (P:=P) ok hplain u I Y (E:=E) 0 N R z;have J:fs.size<=vs.size:=by
     have:nFields T kt=fs.size:=by unfold nFields;rw[u]
     omega
    refine⟨zX (P:=P) (w:=w) ok l (cs:=vs) u J (em:=em) (n:=9998),_,(run_findKey_eq w (by rw[ok.und u]) (.agg vs) E).trans X,λh=>by rw[h];rfl,λi hi=>?_⟩;obtain⟨p,e,c,Z,H,A,_⟩:=W i hi;exact⟨p,e,0+i,H,A,by rw[hi];simp[A]⟩
  |_=>
   rw[Wp (by intro kc h;cases h)]at z;revert z;generalize B:(wF T kt&&PV.Gg _)=bb;intro z;cases bb with
   |false=>cases z
   |true=>simp only[qBa]at B;exact leaf B.1 z
theorem aae(ok:bJ P T){h:Nat->Option aH}(O:∀s b,h' s=some b->h s=some b)(hh:∀s b,h s=some b->BR w M β h s b){k:AV} 
    (G:AR w M β h m cm)(hk:AR w M β h k ck):aj P w M β h (Ir T h' t m k b) (Instr.lookup t cm ck b):=by
  unfold Ir;split
  .rename_i kt et I;have I:=ok.und I;split
   .rename_i z V k hz hsh;obtain⟨inf,zv,hi1,hi2,hi3⟩:=ok.zero hz;have Y:VR w M z zv:=yC hi3;cases hk with
    |p _ _ hk=>
    have l:∀(es:List (PV × PV)) (E:Array MapEntry),es.length=E.size->(∀(i:Nat) (p:PV × PV) (e:MapEntry),es[i]?=some p->E.toList[i]?=some e->VR w M p.1 e.key/\VR w M p.2 e.val) ->
        ∀(x:Value),((x=.map none/\E=#[])\/∃r n,x=.map (some r)/\(getObj r).run P w=.ok (.map E n) w)->aj P w M β h (VL T kt V z es k b) (Instr.lookup t x ck b):=by
      intro es E hn hE x A;unfold VL;refine aj.chk λhf=>aj.chk λB=>?_;obtain⟨q,hq⟩:=Option.isSome_iff_exists.1 hf;rw[hq,Option.getD_some]at B ⊢;obtain⟨h1,r,h2,h3,h4⟩:=aad (P:=P) ok hk (E:=E.toList) (by simpa using hn) hE hq (em:=E.isEmpty);have N:=mM (P:=P) (w:=w) hi1 hi2;have fin:∀(v:PV) (c:Value) (o:Bool),VR w M v c->kindOk V v=true->AR w M β h (bif b then .o7 [.p (eta V v),.p (.bool o)]else .p (eta V v)) (if b then .tuple #[c,.bool o]else c):=by
       intro v c o Z hkv;have F:=yA hkv Z;cases b with
       |false=>exact .p _ _ F
       |true=>
        refine .o7 _ _ rfl ?_;intro i x A
        match i,A with
        |0,A=>cases A;exact .p _ _ F
        |1,A=>cases A;exact .p _ _ (.bool o)
        |i+2,A=>simp at A
      cases q with
      |none=>
       have R:=h3 rfl;subst R;refine aj.ret (fin _ zv false Y B) ?_;rcases A with⟨rfl,rfl⟩ |⟨r,n,rfl,R⟩
       .simp only[Instr.lookup,Sem.run_bind,aW I,qRa,h1,h2,N,Sem.run_pure]
       .simp only[Instr.lookup,Sem.run_bind,aW I,qRa,R,h1,h2,N,Sem.run_pure]
      |some i=>
       obtain⟨p,e,j,J,X,W⟩:=h4 i rfl;subst W;have Z:=(hE i p e J X).2;have hp:lJ z es (some i)=p.2:=by show(es.getD i (.nil,.nil)).2=_;rw[qLb,J];rfl
       rw[hp]at B ⊢;refine aj.ret (fin _ e.val true Z B) ?_;rcases A with⟨rfl,rfl⟩ |⟨r,n,rfl,R⟩
       .simp only[Instr.lookup,Sem.run_bind,aW I,qRa,h1,h2,Sem.run_pure]
       .simp only[Instr.lookup,Sem.run_bind,aW I,qRa,R,h1,h2,Sem.run_pure]
    split
    .rename_i s;split
     .rename_i u es hl0;have hl:=O _ _ hl0;cases G with
      |Iz _ _ _ _ _ H=>rw[hl]at H;cases H
      |yB _ _ H=>rw[hl]at H;cases H
      |Iy _ u' es' b0 o H g2=>
       cases hh s _ hl with
       |mp _ _ b' o' E n J X W k4=>rw[g2]at J;cases J;exact l es E W.1.symm (λi p e hi F=>k4 i p e hi (by simpa using F)) _ (.inr ⟨_,n,rfl,by simp[getObj,Sem.run,X]⟩)
     .exact aj.fail
    .rename_i v;refine aj.chk λS=>?_;cases v<;>simp only[PV.isMap,Bool.false_eq_true]at S
     .rename_i ks vs;have U:=Nat.eq_of_beq_eq_true S;cases G with
      |p _ _ G=>
      cases G with
      |Ig _ _ b0 E n H g2 g3 g4 g5 g6=>refine l (ks.zip vs) E (by simp[g3.1,U]) (λi p e hi F=>?_) _ (.inr ⟨_,n,rfl,by simp[getObj,Sem.run,g2]⟩);rw[List.getElem?_zip_eq_some]at hi;exact⟨g5 i _ e hi.1 (by simpa using F),g6 i _ e hi.2 (by simpa using F)⟩
     .cases G with
      |p _ _ G=>
      cases G with
      |Lj=>exact l [] #[] rfl (λi p e hi F=>by simp at hi) _ (.inl ⟨rfl,rfl⟩)
    .exact aj.fail
   .exact aj.fail
  .exact aj.fail
theorem Hr(ok:bJ P T)(r:Rel w0 Pr M0 M β st a w)(F:∀s b,h' s=some b->look st.heap s=some b){k:AV} 
    (hm:AR w M β (look st.heap) m cm)(hk:AR w M β (look st.heap) k ck)(V:AR w M β (look st.heap) v cv):aI P w0 Pr M0 β st a w d (uf T h' t m k v) (do Instr.mapUpdate t cm ck cv;pure .skip):=by
  unfold uf;split
  case h_2=>exact QS ok r F hm hk V
  rename_i kc;split
  .rename_i kt et s v hu;have hu:=ok.und hu;split
   .rename_i u es hl0;have I:=F _ _ hl0;refine aI.chk λhb=>aI.chk λhf=>?_;simp only[qBa]at hb;obtain⟨l,hb2,X⟩:=hb;have X:=Nat.eq_of_beq_eq_true X;cases hm with
    |Iz _ _ _ _ _ R=>rw[I]at R;cases R
    |yB _ _ R=>rw[I]at R;cases R
    |Iy _ u' es' b o R g2=>
     cases r.heap s _ I with
     |mp _ _ b' Y E n k1 k2 Z O=>
      rw[g2]at k1;cases k1;cases hk with
      |p _ _ hk=>
      cases hk with
      |agg _ vs B U JY=>
      cases V with
      |p _ _ V=>
      obtain⟨q,hq⟩:=Option.isSome_iff_exists.1 hf;rw[hq,Option.getD_some];obtain⟨fs,z⟩:∃fs,und T kt=some (.struct fs):=by
       unfold nH at l;simp only[qBa]at l;have:=l.2;split at this
       .rename_i fs z;exact⟨fs,z⟩
       .cases this
      have hplain:EC T kt=true:=by unfold nH at l;simp only[qBa]at l;exact l.1
      have afD:vG T 0 fs.toList=true:=by unfold nH at l;rw[z]at l;simp only[qBa]at l;exact l.2
      obtain⟨f1,f2⟩:=yH (P:=P) ok hplain z B JY (E:=E.toList) 0 (by simpa using Z.1.symm) (λi p e hi A=>O i p e hi (by simpa using A)) hq;have Sv:(getObj b).run P w=.ok (.map E n) w:=by simp[getObj,Sem.run,k2]
      have G:∀Y:Obj,(setObj b Y).run P w=.ok () {w with heap:=w.heap.setIfInBounds b Y}:=λY=>by simp[setObj,Sem.run,k2]
      have hfl:fs.size<=vs.size:=by
       have:nFields T kt=fs.size:=by unfold nFields;rw[z]
       omega
      have QM:=zX (P:=P) (w:=w) ok l (cs:=vs) z hfl (em:=false) (n:=9998);have hfind:(Instr.findKey kt (.agg vs) E.toList).run P w=.ok (q.bind λi=>(E.toList[i]?).map λe=>(0+i,e.val)) w:=by rw[run_findKey_eq w (by rw[ok.und z]) (.agg vs) E.toList];exact f1
      cases q with
      |none=>
       have run:(Instr.mapUpdate t (.map (some b)) (.agg vs) cv).run P w=.ok () {w with heap:=w.heap.setIfInBounds b (.map (E.push {key:=.agg vs,val:=cv,born:=n}) (n+1))}:=by simp only[Instr.mapUpdate,Sem.run_bind,aW hu,qRa,Sv,QM,hfind,Option.bind_none,G]
       refine aI.ret (h5:=λ_=>nN (.inr ⟨_,I,rfl⟩)) (nv:=.skip) (c:=undef) (M':=M) (β':=β) (by simp only[Sem.run_bind,run,qRa,Sem.run_pure];rfl) (.inr ⟨rfl,rfl⟩) λ_=>?_;rw[qG];have hw:=r.writeM (es':=dA es (.agg kc) v none) (w':={w with heap:=w.heap.setIfInBounds b (.map (E.push {key:=.agg vs,val:=cv,born:=n}) (n+1))}) I g2 k2 rfl rfl rfl rfl (by
        have:=IQ Z (.agg vs) cv;simpa[dA] using this) (by
        intro hmono i p e hi A;simp only[dA,List.getElem?_append]at hi;rw[Array.getElem?_push,Z.1]at A;split at hi
        .rename_i W;rw[if_neg ω]at A;exact⟨hmono _ _ (O i p e hi A).1,hmono _ _ (O i p e hi A).2⟩
        .rename_i hge;have hi0:i-es.length=0:=by have:=(qLa.1 hi).1;simp at this;omega
         have:i=es.length:=ω
         rw[if_pos this]at A;rw[hi0]at hi;simp only[List.getElem?_cons_zero,qOa]at hi A;subst hi A;exact⟨hmono _ _ (.agg kc vs B U JY),hmono _ _ V⟩)
       exact hw.setEnv d (v:=.undef) (c:=undef) (.undef _)
      |some i=>
       obtain⟨p,e,c,us,j1,j2,j3,j4,j5⟩:=f2 i rfl;have H:E[i]?=some e:=by simpa using j2
       have S:=(O i p e j1 H).1;rw[j3,j4]at S;have hsame:kc=c/\∀x∈kc,x.tu=true:=by unfold TR at j5;rw[z]at j5;obtain⟨x1,x2,x3⟩:=LV afD j5;exact⟨x1,x3⟩
       obtain⟨rfl,hpl⟩:=hsame;have hsb:Instr.sameBits 10000 (.agg us) (.agg vs)=true:=by
        cases S with
        |agg _ _ hn hl1 hh=>exact JZ (n:=9999) hpl hn B hh JY
       have hst:(Instr.keyThatStays (((E[i]?).map (·.key)).getD (.agg vs)) (.agg vs)).run P w=.ok (.agg vs) w:=by rw[H,Option.map_some,Option.getD_some,j4];unfold Instr.keyThatStays;rw[if_pos hsb];rfl
       have run:(Instr.mapUpdate t (.map (some b)) (.agg vs) cv).run P w=.ok () {w with heap:=w.heap.setIfInBounds b (.map (E.modify i λe=>{e with key:=.agg vs,val:=cv}) n)}:=by simp only[Instr.mapUpdate,Sem.run_bind,aW hu,qRa,Sv,QM,hfind,qOb,j2,Option.map_some,qNz,hst,G]
       refine aI.ret (h5:=λ_=>nN (.inr ⟨_,I,rfl⟩)) (nv:=.skip) (c:=undef) (M':=M) (β':=β) (by simp only[Sem.run_bind,run,qRa,Sem.run_pure];rfl) (.inr ⟨rfl,rfl⟩) λ_=>?_;rw[qG];have hw:=r.writeM (es':=dA es (.agg kc) v (some i)) (w':={w with heap:=w.heap.setIfInBounds b (.map (E.modify i λe=>{e with key:=.agg vs,val:=cv}) n)}) I g2 k2 rfl rfl rfl rfl (by
        have:=wL Z (i:=i) (f:=λe=>{e with key:=.agg vs,val:=cv}) (λ_=>rfl);simpa[dA] using this) (by
        intro hmono j p' e' J A;simp only[dA,List.getElem?_set]at J;rw[Array.getElem?_modify]at A;by_cases N:i=j
        .subst N;have W:=(qLa.1 j1).1;rw[if_pos rfl,if_pos W]at J;rw[if_pos rfl,H]at A;simp only[Option.map_some,qOa]at J A;subst J A;have:es.getD i (.nil,.nil)=p:=by simp[List.getD,j1]
         rw[this,j3];exact⟨hmono _ _ (.agg kc vs B U JY),hmono _ _ V⟩
        .rw[if_neg N]at J;rw[if_neg N]at A;exact⟨hmono _ _ (O j p' e' J A).1,hmono _ _ (O j p' e' J A).2⟩)
       exact hw.setEnv d (v:=.undef) (c:=undef) (.undef _)
   .exact aI.fail
  .exact aI.fail
theorem Wq(ok:bJ P T)(r:Rel w0 Pr M0 M β st a w)(hsub:∀s b,h' s=some b->look st.heap s=some b){k:AV} 
    (hm:AR w M β (look st.heap) m cm)(hk:AR w M β (look st.heap) k ck):aI P w0 Pr M0 β st a w d (CY T h' t m k) (do pure (.value (<-Instr.mapEntry t cm ck))):=by
  unfold CY;split
  .rename_i kt et s kc hu;have hu:=ok.und hu;split
   .rename_i u es z hl0 hz;have I:=hsub _ _ hl0;obtain⟨inf,S,hi1,hi2,hi3⟩:=ok.zero hz;have Y:∀(w:World) (M:Nat->Prop),VR w M z S:=λw M=>yC hi3;refine aI.chk λhb=>aI.chk λhf=>?_;simp only[qBa]at hb;obtain⟨l,hb2,hb3⟩:=hb;have hb3:=Nat.eq_of_beq_eq_true hb3;cases hm with
    |Iz _ _ _ _ _ V=>rw[I]at V;cases V
    |yB _ _ V=>rw[I]at V;cases V
    |Iy _ u' es' b o V g2=>
     cases r.heap s _ I with
     |mp _ _ b' o' E n k1 k2 U J=>
      rw[g2]at k1;cases k1;cases hk with
      |p _ _ hk=>
      cases hk with
      |agg _ vs G Z JY=>
      obtain⟨q,hq⟩:=Option.isSome_iff_exists.1 hf;rw[hq,Option.getD_some];obtain⟨fs,A⟩:∃fs,und T kt=some (.struct fs):=by
       unfold nH at l;simp only[qBa]at l;have:=l.2;split at this
       .rename_i fs A;exact⟨fs,A⟩
       .cases this
      have hplain:EC T kt=true:=by unfold nH at l;simp only[qBa]at l;exact l.1
      have afD:vG T 0 fs.toList=true:=by unfold nH at l;rw[A]at l;simp only[qBa]at l;exact l.2
      obtain⟨f1,f2⟩:=yH (P:=P) ok hplain A G JY (E:=E.toList) 0 (by simpa using U.1.symm) (λi p e hi B=>J i p e hi (by simpa using B)) hq;have Sv:(getObj b).run P w=.ok (.map E n) w:=by simp[getObj,Sem.run,k2]
      have H:∀o':Obj,(setObj b o').run P w=.ok () {w with heap:=w.heap.setIfInBounds b o'}:=λo'=>by simp[setObj,Sem.run,k2]
      have hfl:fs.size<=vs.size:=by
       have:nFields T kt=fs.size:=by unfold nFields;rw[A]
       omega
      have QM:=zX (P:=P) (w:=w) ok l (cs:=vs) A hfl (em:=false) (n:=9998);have hfind:(Instr.findKey kt (.agg vs) E.toList).run P w=.ok (q.bind λi=>(E.toList[i]?).map λe=>(0+i,e.val)) w:=by rw[run_findKey_eq w (by rw[ok.und A]) (.agg vs) E.toList];exact f1
      have hzr:=mM (P:=P) (w:=w) hi1 hi2;have amk:∀(w':World) (M':Nat->Prop) (h2:Nat->Option aH) (v:PV) (c:Value) (j:Nat),VR w' M' v c->AR w' M' β h2 (.o7 [.p v,.p (.int .i64 ((j:Nat):Int))]) (.tuple #[c,.int .i64 ((j:Nat):Int)]):=by
       intro w' M' h2 v c j hv;refine .o7 _ _ rfl ?_;intro i x N
       match i,N with
       |0,N=>cases N;exact .p _ _ hv
       |1,N=>cases N;exact .p _ _ (.int _ _)
       |i+2,N=>simp at N
      cases q with
      |none=>
       have run:(Instr.mapEntry t (.map (some b)) (.agg vs)).run P w=.ok (.tuple #[S,.int .i64 ((es.length:Nat):Int)]) {w with heap:=w.heap.setIfInBounds b (.map (E.push {key:=.agg vs,val:=S,born:=n}) (n+1))}:=by have hn:n=es.length:=U.2.2.2.1;simp only[Instr.mapEntry,Sem.run_bind,aW hu,qRa,Sv,QM,hfind,Option.bind_none,hzr,H,Sem.run_pure,goInt];rw[hn]
       have hw:=r.writeM (es':=dA es (.agg kc) z none) (w':={w with heap:=w.heap.setIfInBounds b (.map (E.push {key:=.agg vs,val:=S,born:=n}) (n+1))}) I g2 k2 rfl rfl rfl rfl (by
        have:=IQ U (.agg vs) S;simpa[dA] using this) (by
        intro hmono i p e hi B;simp only[dA,List.getElem?_append]at hi;rw[Array.getElem?_push,U.1]at B;split at hi
        .rename_i hlt;rw[if_neg ω]at B;exact⟨hmono _ _ (J i p e hi B).1,hmono _ _ (J i p e hi B).2⟩
        .rename_i hge;have hi0:i-es.length=0:=by have:=(qLa.1 hi).1;simp at this;omega
         have:i=es.length:=ω
         rw[if_pos this]at B;rw[hi0]at hi;simp only[List.getElem?_cons_zero,qOa]at hi B;subst hi B;exact⟨hmono _ _ (.agg kc vs G Z JY),Y _ _⟩)
       refine aI.ret (h5:=λ_=>nN (.inr ⟨_,I,rfl⟩)) (c:=.tuple #[S,.int .i64 ((es.length:Nat):Int)]) (M':=M) (β':=β) (by simp only[Sem.run_bind,run,qRa,Sem.run_pure];rfl) (.inl rfl) λ_=>?_;rw[qG];exact hw.setEnv d (amk _ _ _ _ _ _ (Y _ _))
      |some i=>
       obtain⟨p,e,c,us,X,j2,j3,j4,j5⟩:=f2 i rfl;have F:E[i]?=some e:=by simpa using j2
       have W:=(J i p e X F).1;rw[j3,j4]at W;have hsame:kc=c/\∀x∈kc,x.tu=true:=by unfold TR at j5;rw[A]at j5;obtain⟨x1,x2,x3⟩:=LV afD j5;exact⟨x1,x3⟩
       obtain⟨rfl,hpl⟩:=hsame;have hsb:Instr.sameBits 10000 (.agg us) (.agg vs)=true:=by
        cases W with
        |agg _ _ hn hl1 hh=>exact JZ (n:=9999) hpl hn G hh JY
       have hst:(Instr.keyThatStays (((E[i]?).map (·.key)).getD (.agg vs)) (.agg vs)).run P w=.ok (.agg vs) w:=by rw[F,Option.map_some,Option.getD_some,j4];unfold Instr.keyThatStays;rw[if_pos hsb];rfl
       have hborn:e.born=i:=U.2.2.2.2 i e F;have run:(Instr.mapEntry t (.map (some b)) (.agg vs)).run P w=.ok (.tuple #[e.val,.int .i64 ((i:Nat):Int)]) {w with heap:=w.heap.setIfInBounds b (.map (E.modify i λe=>{e with key:=.agg vs}) n)}:=by simp only[Instr.mapEntry,Sem.run_bind,aW hu,qRa,Sv,QM,hfind,qOb,j2,Option.map_some,qNz,hst,H,Sem.run_pure,goInt];rw[F,Option.map_some,Option.getD_some,hborn]
       have hp2:lJ z es (some i)=p.2:=by show(es.getD i (.nil,.nil)).2=_;rw[qLb,X];rfl
       have afE:=(J i p e X F).2;have hw:=r.writeM (es':=dA es (.agg kc) (lJ z es (some i)) (some i)) (w':={w with heap:=w.heap.setIfInBounds b (.map (E.modify i λe=>{e with key:=.agg vs}) n)}) I g2 k2 rfl rfl rfl rfl (by
        have:=wL U (i:=i) (f:=λe=>{e with key:=.agg vs}) (λ_=>rfl);simpa[dA] using this) (by
        intro hmono j p' e' O B;simp only[dA,List.getElem?_set]at O;rw[Array.getElem?_modify]at B;by_cases R:i=j
        .subst R;have hlt:=(qLa.1 X).1;rw[if_pos rfl,if_pos hlt]at O;rw[if_pos rfl,F]at B;simp only[Option.map_some,qOa]at O B;subst O B;have:es.getD i (.nil,.nil)=p:=by simp[List.getD,X]
         rw[this,j3];refine⟨hmono _ _ (.agg kc vs G Z JY),?_⟩;rw[hp2];exact hmono _ _ afE
        .rw[if_neg R]at O;rw[if_neg R]at B;exact⟨hmono _ _ (J j p' e' O B).1,hmono _ _ (J j p' e' O B).2⟩)
       have hval:VR {w with heap:=w.heap.setIfInBounds b (.map (E.modify i λe=>{e with key:=.agg vs}) n)} M (lJ z es (some i)) e.val:=by rw[hp2];refine afE.mono λb' hb'=>⟨hb',?_⟩;have hne:b≠b':=λe=>(r.own s b _ (by rw[I];rfl) g2).1 (e▸hb');show(w.heap.setIfInBounds b _)[b']?=_;rw[qAe hne]
       refine aI.ret (h5:=λ_=>nN (.inr ⟨_,I,rfl⟩)) (c:=.tuple #[e.val,.int .i64 ((i:Nat):Int)]) (M':=M) (β':=β) (by simp only[Sem.run_bind,run,qRa,Sem.run_pure];rfl) (.inl rfl) λ_=>?_;rw[qG];exact hw.setEnv d (amk _ _ _ _ _ _ hval)
   .exact aI.fail
  .exact aI.fail
theorem find_born(h:∀(i:Nat) (e:MapEntry),E[i]?=some e->e.born=i){j:Nat}(l:j<E.size):E.findIdx? (λe=>(e.born:Int)==((j:Nat):Int))=some j:=by
 rw[Array.findIdx?_eq_some_iff_getElem];refine⟨l,?_,λi hi=>?_⟩
 .have:=h j E[j] σ;simp[this]
 .have:=h i E[i] σ;simp[this];omega
theorem QT(r:Rel w0 Pr M0 M β st a w)(B:∀s b,h' s=some b->look st.heap s=some b){k:AV} 
    (hm:AR w M β (look st.heap) m cm)(U:AR w M β (look st.heap) k ck)(R:AR w M β (look st.heap) v cv):aI P w0 Pr M0 β st a w d (yu h' m k v) (do Instr.entryStore t cm ck cv;pure .skip):=by
  unfold yu;split
  .rename_i s j n v;split
   .rename_i u es S;have G:=B _ _ S;refine aI.chk λhb=>?_;simp only[qBa,qDa]at hb;obtain⟨hb1,Z,hb3⟩:=hb;cases hm with
    |Iz _ _ _ _ _ A=>rw[G]at A;cases A
    |yB _ _ A=>rw[G]at A;cases A
    |Iy _ u' es' b o A g2=>
     cases r.heap s _ G with
     |mp _ _ b' H E I k1 O N J=>
      rw[g2]at k1;cases k1;cases U with
      |p _ _ U=>
      cases U with
      |int _ _=>
      cases R with
      |p _ _ R=>
      have Sv:(getObj b).run P w=.ok (.map E I) w:=by simp[getObj,Sem.run,O]
      have F:∀H:Obj,(setObj b H).run P w=.ok () {w with heap:=w.heap.setIfInBounds b H}:=λH=>by simp[setObj,Sem.run,O]
      have V:n.toNat<E.size:=by rw[N.1];omega
      have X:E.findIdx? (λe=>(e.born:Int)==n)=some n.toNat:=by have:=find_born N.2.2.2.2 V;rwa[Int.toNat_of_nonneg Z]at this
      have run:(Instr.entryStore t (.map (some b)) (.int j n) cv).run P w=.ok () {w with heap:=w.heap.setIfInBounds b (.map (E.modify n.toNat λe=>{e with val:=cv}) I)}:=by simp only[Instr.entryStore,asInt,asIntOf,Sem.run_bind,qRa,Sv,Sem.run_pure,X,F]
      refine aI.ret (h5:=λ_=>nN (.inr ⟨_,G,rfl⟩)) (nv:=.skip) (c:=undef) (M':=M) (β':=β) (by simp only[Sem.run_bind,run,qRa,Sem.run_pure];rfl) (.inr ⟨rfl,rfl⟩) λ_=>?_;rw[qG];have hw:=r.writeM (es':=es.set n.toNat ((es.getD n.toNat (.nil,.nil)).1,v)) (w':={w with heap:=w.heap.setIfInBounds b (.map (E.modify n.toNat λe=>{e with val:=cv}) I)}) G g2 O rfl rfl rfl rfl (by
       have:=wL N (i:=n.toNat) (f:=λe=>{e with val:=cv}) (λ_=>rfl);simpa using this) (by
       intro hmono i p e hi z;rw[List.getElem?_set]at hi;rw[Array.getElem?_modify]at z;by_cases l:n.toNat=i
       .rw[if_pos l,if_pos ω]at hi;rw[if_pos l]at z;obtain⟨e0,Y,rfl⟩:=Option.map_eq_some_iff.1 z;cases hi;have W:es[i]?=some (es.getD n.toNat (.nil,.nil)):=by rw[l,qLb,qLd ω];rfl
        exact⟨hmono _ _ (J i _ e0 W Y).1,hmono _ _ R⟩
       .rw[if_neg l]at hi;rw[if_neg l]at z;exact⟨hmono _ _ (J i p e hi z).1,hmono _ _ (J i p e hi z).2⟩)
      exact hw.setEnv d (v:=.undef) (c:=undef) (.undef _)
   .exact aI.fail
  .exact aI.fail
end
end
section
variable {D:DT}{h':Nat -> Option aH}{f:Nat}{args:List AV}{ak:Array Value}{C:aB}{ρ:Operand -> Value}{dst:Option Tmp}{ts:Array TypeId}{type:TypeId}{pos:String}{after:Array Edge}{guard:Option (Nat × Bool)}
section
variable {P:Program}{T:Tab}{w0:Base}{Pr M0 M:Nat->Prop}{β:Nat->Option (Nat × Nat)}{st:St}{a:Act}{w:World}{o:Oper}
theorem Rel.jX(r:Rel w0 Pr M0 M β st a w):∀(l:List Operand),lq w M β (look st.heap) (Skm.jX st.env l) (l.map a.eval)
 |[]=>⟨rfl,λi x c h=>by simp[Skm.jX]at h⟩
 |x::l=>by
  obtain⟨h1,h2⟩:=r.jX l;refine⟨by simp[Skm.jX,h1],λi y c p u=>?_⟩;cases i with
  |zero=>simp[Skm.jX]at p u;subst p u;exact r.aP x
  |succ i=>simp only[Skm.jX,List.map_cons,List.getElem?_cons_succ]at p u;exact h2 i y c p u
theorem Rel.OG(r:Rel w0 Pr M0 M β st a w)(l:Array Operand):lq w M β (look st.heap) (Skm.jX st.env l.toList) (l.map a.eval).toList:=by rw[Array.toList_map];exact r.jX l.toList
theorem Rel.iE(r:Rel w0 Pr M0 M β st a w):∀(l:List (Nat × Operand)),LJ w M β (look st.heap) (Skm.iE st.env l) (l.map λ(i,x)=>(i,a.eval x))
 |[]=>⟨rfl,λi x c h=>by simp[Skm.iE]at h⟩
 |(n,x)::l=>by
  obtain⟨h1,h2⟩:=r.iE l;refine⟨by simp[Skm.iE,h1],λi y c p u=>?_⟩;cases i with
  |zero=>simp[Skm.iE]at p u;subst p u;exact⟨rfl,r.aP x⟩
  |succ i=>simp only[Skm.iE,List.map_cons,List.getElem?_cons_succ]at p u;exact h2 i y c p u
theorem Rel.IV(r:Rel w0 Pr M0 M β st a w)(l:Array (Nat × Operand)):LJ w M β (look st.heap) (Skm.iE st.env l.toList) (l.map λ(i,x)=>(i,a.eval x)).toList:=by rw[Array.toList_map];exact r.iE l.toList
theorem Rel.nK(r:Rel w0 Pr M0 M β st a w)(x:Option Operand):V5 w M β (look st.heap) (Skm.nK st.env x) (x.map a.eval):=by
 cases x with
 |none=>exact True.intro
 |some x=>exact r.aP x
theorem dF.fail:dF P w0 Pr M0 β st a w o .fail:=⟨λ_ _ _ _ l=>by simp[DT.run]at l⟩
theorem dF.val(r:Rel w0 Pr M0 M β st a w){sem:Sem Value}(h:aj P w M β (look st.heap) D sem)(e:execOp a.eval o=(do pure (.value (<-sem)))):dF P w0 Pr M0 β st a w o D:=
 aI.op (by rw[e];exact aI.Qx r h)
theorem aI.Uy{d:Option Nat}{l s2:Sem Next}(h:aI P w0 Pr M0 β st a w d D l)(e:s2.run P w=l.run P w):aI P w0 Pr M0 β st a w d D s2:=
 ⟨λα k q p=>by rw[e];exact h.sim α k q p⟩
theorem dF.of{sem:Sem Next}(h:aI P w0 Pr M0 β st a w o.dst D sem)(e:execOp a.eval o=sem):dF P w0 Pr M0 β st a w o D:=
 aI.op (by rw[e];exact h)
theorem aht(r:Rel w0 Pr M0 M β st a w){d:Nat}{sa:Bool}{ks:List Kd} :
    aI P w0 Pr M0 β st a w (some d) (.ret {val:=.slice d ks.length 0 0,ny:=[(d,.arr sa ks [])],new:=[d]}) (pure (.value (.slice none 0 0))):=by
  refine aI.ret (nv:=.value (.slice none 0 0)) (c:=.slice none 0 0) (w':=w) (M':=M) (β':=λx=>if x=d then none else β x) σ (.inl rfl) (λ_=>?_) (λA=>rG (ss:=[]) A);have l:Rel w0 Pr M0 M β (st.strike (present st.heap [d]++[])) a w:=r.strike _ (λb h=>h) λb h=>.inl h;have u:look (st.strike (present st.heap [d]++[])).heap d=none:=uT σ;rw[Hl];generalize st.strike (present st.heap [d]++[])=st1 at l u;have z:=l.lay (s:=d) (blk:=.arr sa ks []) u (p:=none) (λb o h=>by cases h) (.gJ _ _);refine z.setEnv (some d) ?_;exact .sliceE d 0 sa ks [] none (by simp[aZ]) σ
theorem afF(ok:bJ P T)(r:Rel w0 Pr M0 M β st a w)(hp:(fF T f).xK.is=true)(l:(fF T f).xK.calc=true)
    (hargs:lq w M β (look st.heap) args ak.toList)(S:(execOp a.eval o).run P w=(callFunc f ak).run P w):dF P w0 Pr M0 β st a w o (EL (fF T f).xK (fF T f).Iq (fF T f).Na h' o.dst args):=by
  obtain⟨fi,G,I⟩:∃fi,aX T.funcs f=some fi/\fF T f=fi.cfg:=by
   unfold fF at hp ⊢;cases G:aX T.funcs f with
   |none=>rw[G]at hp;cases hp
   |some fi=>exact⟨fi,rfl,rfl⟩
  rw[I]at hp l ⊢;obtain⟨-,N⟩:=ok.ahU f fi G hp;cases u:fi.cfg.xK with
  |carry b=>
   rw[u]at N;unfold EL;split
   all_goals first
    |exact dF.fail
    |(next heq=>cases heq)
    |skip
   next d b' x y c hd hb=>
    cases hb;obtain⟨F,B,A,H⟩:∃F B A,ak=#[F,B,A]:=by
     have:=hargs.1;simp only[qLl,List.length_nil,Array.length_toList]at this;exact⟨ak[0],ak[1],ak[2],by
      apply Array.ext
      .simp;omega
      .intro i h1 h2;have:i=0\/i=1\/i=2:=by simp at h2;omega
       rcases this with rfl|rfl|rfl<;>rfl⟩
    subst H;have i0:=(hargs.2 0 _ F rfl rfl).BI;have R:=(hargs.2 1 _ B rfl rfl).BI;have O:=(hargs.2 2 _ A rfl rfl).BI;subst i0 R O;refine aI.op (aI.chk λJ=>?_);simp only[qBa,qDa]at J;obtain⟨U,h1,h2,V⟩:=J;have z:=N w x.toNat y.toNat c.toNat ω;rw[Int.toNat_of_nonneg U,Int.toNat_of_nonneg h1,Int.toNat_of_nonneg h2]at z;refine aI.Uy (aI.Qx r (aj.ret (c:=.tuple #[.int .u64 (VE b x.toNat y.toNat c.toNat),.int .u64 (VF b x.toNat y.toNat c.toNat)]) (sem:=pure (.tuple #[.int .u64 (VE b x.toNat y.toNat c.toNat),.int .u64 (VF b x.toNat y.toNat c.toNat)])) ?_ rfl)) ?_
    .refine .o7 _ _ rfl λi c hi=>?_
     match i,hi with
     |0,hi=>cases hi;exact .p _ _ (.int _ _)
     |1,hi=>cases hi;exact .p _ _ (.int _ _)
     |i+2,hi=>simp at hi
    .rw[S,z];simp only[Sem.run_bind,Sem.run_pure,qRa]
  |none=>rw[u]at l;cases l
  |ael=>rw[u]at l;cases l
  |afb=>rw[u]at l;cases l
  |str=>rw[u]at l;cases l
  |TK g=>rw[u]at l;cases l
theorem QU(ok:bJ P T)(z:dS P T w0.gl C)(r:Rel w0 Pr M0 M β st a w)(l:∀s b,h' s=some b->look st.heap s=some b) 
    (hargs:lq w M β (look st.heap) args ak.toList)(u:(execOp a.eval o).run P w=(callFunc f ak).run P w):dF P w0 Pr M0 β st a w o (yw T C h' o.dst f args):=by
  unfold yw;cases hp:(fF T f).xK.is with
  |true=>
   cases p:(fF T f).xK.calc with
   |false=>exact afA (C:=C) ok z r l hp p hargs u
   |true=>
   simp only[qCt];exact afF ok r hp p hargs u
  |false=>
  simp only[qCf];cases G:(fF T f).vcall with
  |true=>exact ahs ok z r l G hargs u
  |false=>
  simp only[qCf];cases A:(fF T f).take with
  |true=>exact afC ok z r l A hargs u
  |false=>
  simp only[qCf];cases hd:o.dst with
  |none=>simp only[qy];exact dF.fail
  |some d=>
   cases B:aX T.funcs f with
   |none=>simp only[qy,B];exact dF.fail
   |some fi=>
    rw[<-hd];cases F:fi.cfg.MZ with
    |false=>exact ac4 ok z r l hd B F hargs u
    |true=>simp only[qy,hd,B,F];exact dF.fail
theorem J4{b:Builtin}{args:Array Operand}:
    execOp ρ ⟨dst,.call ⟨.builtin b,args,ts⟩,type,pos,after,guard⟩=builtin b ts type (args.map λ|.const _=>true |_=>false) (args.map ρ):=rfl
theorem QV{l:Operand}{args:Array Operand}{vs:Array Value}(h:ρ l=.func (.func f) #[] vs) :
    (execOp ρ ⟨dst,.call ⟨.value l,args,ts⟩,type,pos,after,guard⟩)=callFunc f (args.map ρ++vs):=by
  simp only[execOp,resolve,h,Deferred.ofValue];simp[invoke]
theorem lq.append{w:World}{M:Nat->Prop}{β:Nat->Option (Nat × Nat)}{h:Nat->Option aH}:∀{xs ys:List AV}{cs ds:List Value},lq w M β h xs cs->lq w M β h ys ds->lq w M β h (xs++ys) (cs++ds)
 |[],ys,[],ds,_,h2=>h2
 |x::xs,ys,c::cs,ds,h1,h2=>by
  obtain⟨A,z⟩:=h1.cons;obtain⟨u,r⟩:=z.append h2;refine⟨by simp[u],λi y e l p=>?_⟩;cases i with
  |zero=>simp at l p;subst l p;exact A
  |succ i=>simp at l p;exact r i y e l p
 |[],_,_::_,_,h1,_=>by have:=h1.1;simp at this
 |_::_,_,[],_,h1,_=>by have:=h1.1;simp at this
theorem ajN(ok:bJ P T)(W:dS P T w0.gl C)(r:Rel w0 Pr M0 M β st a w)(u:∀s b,h' s=some b->look st.heap s=some b) :
    dF P w0 Pr M0 β st a w o (cO T C st.env h' o):=by
  have N:=r.heap;obtain⟨dst,op,type,pos,after,guard⟩:=o;cases op with
  |move x=>exact dF.of (sem:=pure (.value (a.eval x))) (aI.ret (nv:=.value (a.eval x)) σ (.inl rfl) (λ_=>r.setEnv dst (r.aP x)) (λ_ _ _=>rfl) (λ_=>Di)) rfl
  |assign x=>
   have plain:aI P w0 Pr M0 β st a w dst (.ret {val:=Skm.aP st.env x}) (pure (.value (a.eval x))):=
    aI.ret (nv:=.value (a.eval x)) σ (.inl rfl) (λ_=>r.setEnv dst (r.aP x)) (λ_ _ _=>rfl) (λ_=>Di)
   simp only[cO];split
   .exact dF.of (aht r) rfl
   .exact dF.of plain rfl
  |pick c x y=>refine dF.of ((aI.Qx r (afm (r.aP c) (r.aP x) (r.aP y))).Uy (s2:=do pure (.value (if <-asBool (a.eval c)then a.eval x else a.eval y))) ?_) rfl;simp only[Sem.run_bind];cases (asBool (a.eval c)).run P w<;>simp
  |alloc t=>exact dF.of (acV ok r) rfl
  |box t v=>exact dF.of (ahm r (r.aP v)) rfl
  |build t ps=>exact dF.val r (acS ok (r.IV ps)) rfl
  |buildSlice t len ps=>
   simp only[cO];cases X:abq T dst with
   |true=>exact dF.of (Sj ok r u (r.IV ps)) rfl
   |false=>exact dF.of (Qz ok r u (r.IV ps)) rfl
  |load t x=>exact dF.val r (Yg ok u N (r.aP x)) rfl
  |store t x v=>exact dF.of (acY ok r u (r.aP x) (r.aP v)) rfl
  |binOp op t x y _=>exact dF.val r (ahk ok x y (r.aP x) (r.aP y)) rfl
  |unOp op _ x=>exact dF.val r (ajH (r.aP x)) rfl
  |convert s t x=>exact dF.of (Yk ok r u (r.aP x)) rfl
  |makeFunc fn first z=>exact dF.val r (V7 (r.OG first) (r.OG z)) rfl
  |makeSlice t l c=>exact dF.of (Sl ok r (r.aP l) (r.aP c)) rfl
  |makeMap t x=>exact dF.of (Yr ok r (r.nK x)) rfl
  |lookup t m k b=>exact dF.val r (aae ok u N (r.aP m) (r.aP k)) rfl
  |mapEntry t m k=>exact dF.of (Wq ok r u (r.aP m) (r.aP k)) rfl
  |entryStore t m k v=>exact dF.of (QT (t:=t) r u (r.aP m) (r.aP k) (r.aP v)) rfl
  |insert t m k v=>exact dF.of (Hr ok r u (r.aP m) (r.aP k) (r.aP v)) rfl
  |mapUpdate t m k v=>exact dF.of (Hr ok r u (r.aP m) (r.aP k) (r.aP v)) rfl
  |slice t x lo hi V=>
   simp only[cO];split
   .exact dF.fail
   .split
    .exact dF.fail
    .rename_i J;refine dF.val r (acT ok (r.aP x) (r.nK lo) (r.nK hi) (r.nK V) ?_) rfl;intro h;cases V with
     |none=>simp[Skm.nK]at h
     |some m=>
      cases hi with
      |none=>exact absurd rfl (J m rfl)
      |some _=>rfl
  |fieldAddr t x f=>exact dF.val r (RZ ok (r.aP x)) rfl
  |field t x f=>exact dF.val r (acR ok (r.aP x)) rfl
  |indexAddr t x i=>exact dF.val r (Si ok (r.aP x) (r.aP i)) rfl
  |index t x i=>exact dF.val r (acU ok (r.aP x) (r.aP i)) rfl
  |extract x i=>exact dF.val r (Ye (r.aP x)) rfl
  |call c=>
   obtain⟨callee,args,argTypes⟩:=c;simp only[cO];split
   . -- len
     split
     .rename_i x t ts h1 h2;have S:args=#[x]:=by rw[<-Array.toList_inj];exact h1
      have R:argTypes[0]?=some t:=by rw[<-Array.getElem?_toList,h2];rfl
      subst S;exact dF.val r (ahl ok u N R (ty:=type) (r.aP x)) (by rw[J4];simp[builtin])
     .exact dF.fail
   . -- append
     split
     .rename_i x y t U h1 h2;have S:args=#[x,y]:=by rw[<-Array.toList_inj];exact h1
      have R:argTypes=#[t,U]:=by rw[<-Array.toList_inj];exact h2
      subst S R;exact dF.of (ZX ok r u (ty:=type) (ts:=#[t,U]) rfl rfl (r.aP x) (r.aP y)) (by rw[J4];simp[builtin])
     .exact dF.fail
   .rename_i B;have A:=r.aP B;split
    .rename_i f z H;rw[H]at A;have:∃vs:Array Value,a.eval B=.func (.func f) #[] vs/\lq w M β (look st.heap) (z.map .p) vs.toList:=by
      generalize a.eval B=c at A;cases A with
      |p _ _ H=>
       cases H with
       |fn _ _ vs I O=>refine⟨vs,rfl,by simp[I],λi x c F G=>?_⟩;simp only[List.getElem?_map,Option.map_eq_some_iff]at F;obtain⟨y,F,rfl⟩:=F;have:=O i y F;rw[Array.getElem?_toList]at G;rw[qAb,G]at this;exact .p _ _ this
     obtain⟨vs,h1,h2⟩:=this;refine QU (o:=⟨dst,.call ⟨.value B,args,argTypes⟩,type,pos,after,guard⟩) ok W r u (ak:=args.map a.eval++vs) ?_ (by rw[QV h1]);rw[Array.toList_append];exact(r.OG args).append h2
    .rename_i f z H;rw[H]at A;have:∃vs:Array Value,a.eval B=.func (.func f) #[] vs/\lq w M β (look st.heap) z vs.toList:=by
      generalize a.eval B=c at A;cases A with
      |fn _ _ vs I O=>refine⟨vs,rfl,by simp[I],λi x c F G=>?_⟩;have:=O i x F;rw[Array.getElem?_toList]at G;rw[qAb,G]at this;exact this
     obtain⟨vs,h1,h2⟩:=this;refine QU (o:=⟨dst,.call ⟨.value B,args,argTypes⟩,type,pos,after,guard⟩) ok W r u (ak:=args.map a.eval++vs) ?_ (by rw[QV h1]);rw[Array.toList_append];exact(r.OG args).append h2
    .exact dF.fail
   .exact dF.fail
  |_=>exact dF.fail
end
end
section
variable {env:List AV}{g j n s t:Nat}{α:Type}{draw:Bool}{hd:List (List Nat)}{all rest:List Oper}{o:Oper}{st:St}{M M':Nat->Prop}{β β':Nat->Option (Nat × Nat)}{hp hp':Heap}{w':World}{L:List (Nat × Obj)}{ds:List Nat}{h:Nat->Option aH}{ops:Array Oper}{C:aB}{rd:Option Nat}{K:Act->World->Prop}{Q:Exit->Act->World->Prop}
section
variable {α:Type}
theorem uU(m:Nat)(k:Nat->Option α):pI m k=k m:=by cases m<;>rfl
theorem Yu(n:Int)(k:Int->Option α):Qh n k=k n:=by cases n<;>simp[Qh,uU]
mutual
theorem IW(b:Bool):∀(v:PV) (k:PV->Option α),jo b v k=k v
 |.bool c,k=>by cases b<;>cases c<;>simp[jo]
 |.int j n,k=>by cases b<;>simp[jo,Yu]
 |.str s,k=>by simp[jo]
 |.agg cs,k=>by simp[jo,jE b cs]
 |.list a ks xs,k=>by cases b<;>simp[jo,jE _ xs]
 |.full a ks xs,k=>by cases b<;>simp[jo,jE _ xs]
 |.nil,k=>by simp[jo]
 |.fn f cs,k=>by cases b<;>simp[jo,jE _ cs]
 |.ref cs,k=>by simp[jo,jE b cs]
 |.zG,k=>by simp[jo]
 |.pz,k=>by simp[jo]
 |.ifc,k=>by simp[jo]
 |.rU,k=>by simp[jo]
 |.Ig ks vs,k=>by simp[jo]
 |.Lj,k=>by simp[jo]
theorem jE(b:Bool):∀(v:List PV) (k:List PV->Option α),kX b v k=k v
 |[],k=>by simp[kX]
 |v::r,k=>by simp[kX,IW b v,jE b r]
end
mutual
theorem IX(b:Bool):∀(v:AV) (k:AV->Option α),jR b v k=k v
 |.undef,k=>by simp[jR]
 |.p v,k=>by cases b<;>simp[jR,IW]
 |.slice s z o l,k=>by cases b<;>simp[jR,uU]
 |.bslice s o l,k=>by cases b<;>simp[jR,uU]
 |.ptr s i o,k=>by cases b<;>simp[jR,uU]
 |.pF a ks x o,k=>by cases b<;>simp[jR,uU,IW]
 |.fn f cs,k=>by simp[jR,dX b cs]
 |.agg cs,k=>by simp[jR,dX b cs]
 |.o7 cs,k=>by simp[jR,dX b cs]
 |.fresh a ks xs,k=>by cases b<;>simp[jR,jE]
 |.AB,k=>by simp[jR]
 |.mref s,k=>by simp[jR]
theorem dX(b:Bool):∀(v:List AV) (k:List AV->Option α),kY b v k=k v
 |[],k=>by simp[kY]
 |v::r,k=>by simp[kY,IX b v,dX b r]
end
theorem Yv:∀(v:List AV) (k:List AV->Option α),spine v k=k v
 |[],k=>rfl
 |v::r,k=>by simp[spine,Yv r]
theorem Nw(b:Bool):∀(v:aH) (k:aH->Option α),qX b v k=k v
 |.box cs,k=>by simp[qX,dX]
 |.arr a ks xs,k=>by cases b<;>simp[qX,jE]
 |.log on xs,k=>by cases b<;>simp[qX,jE]
 |.tb t c0 c1,k=>by simp[qX,IX]
 |.mp t es,k=>by simp[qX]
 |.br e xs,k=>by cases b<;>simp[qX,jE]
theorem iy(b:Bool):∀(v:List aH) (k:List aH->Option α),sV b v k=k v
 |[],k=>rfl
 |v::r,k=>by simp[sV,Nw,iy b r]
theorem Ny(b:Bool):∀(v:List (Nat × aH)) (k:List (Nat × aH)->Option α),JJ b v k=k v
 |[],k=>rfl
 |(s,x)::r,k=>by simp[JJ,Nw,Ny b r]
theorem Uz:∀(v:Heap) (k:Heap->Option α),VO v k=k v
 |[],k=>rfl
 |(s,x)::r,k=>by simp[VO,Uz r]
theorem aF(st:St)(k:St->Option α):eF st k=k st:=by simp[eF,Yv,Uz]
theorem Yw(b:Bool)(st:St)(d:Option Nat)(e:Eff)(k:St->Option α):JK b st d e k=k (st.apply d e):=by simp[JK,IX,Ny,aF]
theorem DT.run_bind:∀(D:DT) (k:Eff->Option α),D.run k=(D.run some).bind k
 |.fail,k=>rfl
 |.ret e,k=>rfl
 |.ite c x y,k=>by cases c<;>simp[DT.run,DT.run_bind x k,DT.run_bind y k]
 |.call o f,k=>by
  cases o with
  |none=>rfl
  |some r=>simp only[DT.run];exact DT.run_bind (f r) k
end
section
variable (T:Tab) (C:aB)
def yR(all:List Oper)(o:Oper)(env:List AV)(h:Nat->Option aH):Option (Option Eff):=
 match o.guard with
 |none=>((cO T C env h o).run some).map some
 |some (g,want)=>
  match vS all g with
  |none=>none
  |some t=>
   match env.getD t .undef with
   |.p (.bool b)=>if b=want then((cO T C env h o).run some).map some else some none
   |.o7 []=>some none
   |_=>none
def step1(draw:Bool)(hd:List Nat)(all:List Oper)(o:Oper)(st:St):Option St:=
 match yR T C all o st.env (jy hd (look st.heap))with
 |none=>none
 |some none=>some {st with env:=setEnv st.env o.dst (.o7 [])}
 |some (some e)=>if(gI (e.new++e.zK)&&dR draw (bf T all o) (fP all o) st.heap e)=true then some (st.apply o.dst e)else none
theorem set_self{v:AV}(h:env.getD t .undef=v)(l:v≠.undef):env.set t v=env:=by apply List.ext_getElem?;grind
def guardOf(all:List Oper)(o:Oper)(env:List AV):Option Bool:=
 match o.guard with
 |none=>some true
 |some (g,want)=>
  match vS all g with
  |none=>none
  |some t=>
   match env.getD t .undef with
   |.p (.bool b)=>some (b==want)
   |.o7 []=>some false
   |_=>none
theorem QW(all:List Oper)(o:Oper)(env:List AV)(h:Nat->Option aH):yR T C all o env h=(match guardOf all o env with
    |none=>none
    |some false=>some none
    |some true=>((cO T C env h o).run some).map some):=by
  unfold yR guardOf;cases o.guard with
  |none=>rfl
  |some l=>grind
theorem UA{k:St->Option α} :
    dD T C draw hd all (o::rest) j st k=(match guardOf all o st.env with
     |none=>none
     |some false=>dD T C draw hd all rest (j+1) {st with env:=setEnv st.env o.dst (.o7 [])} k
     |some true=>match oL draw st o with
      |some (xs,vs)=>fork (dD T C draw hd all rest (j+1) (je st o.dst xs vs false) k) (dD T C draw hd all rest (j+1) (je st o.dst xs vs true) k)
      |none=>((cO T C st.env (jy (hd.getD j []) (look st.heap)) o).run some).bind λe=>
       if(gI (e.new++e.zK)&&dR draw (bf T all o) (fP all o) st.heap e)=true then dD T C draw hd all rest (j+1) (st.apply o.dst e) k else none):=by
  have A:∀st:St,(match oL draw st o with
        |some (xs,vs)=>fork (eF (je st o.dst xs vs false) λst=>dD T C draw hd all rest (j+1) st k) (eF (je st o.dst xs vs true) λst=>dD T C draw hd all rest (j+1) st k)
        |none=>(cO T C st.env (jy (hd.getD j []) (look st.heap)) o).run λe=>
        bif gI (e.new++e.zK)&&dR draw (bf T all o) (fP all o) st.heap e then JK T.strict st o.dst e λst=>dD T C draw hd all rest (j+1) st k else none) =
      (match oL draw st o with
        |some (xs,vs)=>fork (dD T C draw hd all rest (j+1) (je st o.dst xs vs false) k) (dD T C draw hd all rest (j+1) (je st o.dst xs vs true) k)
        |none=>((cO T C st.env (jy (hd.getD j []) (look st.heap)) o).run some).bind λe=>
         if(gI (e.new++e.zK)&&dR draw (bf T all o) (fP all o) st.heap e)=true then dD T C draw hd all rest (j+1) (st.apply o.dst e) k else none):=by
    intro st;cases oL draw st o with
    |some p=>obtain⟨xs,vs⟩:=p;simp only[aF]
    |none=>simp only;rw[DT.run_bind];congr 1;funext e;simp only[Yw];cases gI (e.new++e.zK)&&dR draw (bf T all o) (fP all o) st.heap e<;>simp
  rw[dD];unfold guardOf;cases H:o.guard with
  |none=>exact A st
  |some G=>
   obtain⟨g,l⟩:=G;simp only;cases F:vS all g with
   |none=>rfl
   |some t=>
    simp only;by_cases u:∃b,st.env.getD t .undef=.p (.bool b)
    .obtain⟨b,r⟩:=u;have B:=set_self r σ;rw[r];cases b
     .simp only[qCf];rw[B];cases l
      .simp only[qCf];exact A st
      .simp only[qCt,aF];rfl
     .simp only[qCt];rw[B];cases l
      .simp only[qCf,aF];rfl
      .simp only[qCt];exact A st
    .by_cases z:st.env.getD t .undef=.o7 []
     .rw[z];simp only[aF]
     .split
      .rename_i b r;exact absurd ⟨b,r⟩ u
      .rename_i r;exact absurd r z
      .have:(match st.env.getD t .undef with
         |.p (.bool b)=>some (b==l)
         |.o7 []=>some false
         |_=>none:Option Bool)=none:=by
         split
         .rename_i b r;exact absurd ⟨b,r⟩ u
         .rename_i r;exact absurd r z
         .rfl
       rw[this]
theorem oh{k:St->Option α}(l:oL draw st o=none) :
    dD T C draw hd all (o::rest) j st k=(step1 T C draw (hd.getD j []) all o st).bind λst'=>dD T C draw hd all rest (j+1) st' k:=by
  rw[UA,l];unfold step1;rw[QW];cases guardOf all o st.env with
  |none=>rfl
  |some b=>
   cases b with
   |false=>rfl
   |true=>
    simp only;cases (cO T C st.env (jy (hd.getD j []) (look st.heap)) o).run some with
    |none=>rfl
    |some e=>simp only[qOb,Option.map_some];cases gI (e.new++e.zK)&&dR draw (bf T all o) (fP all o) st.heap e<;>simp
theorem oU{k:St->Option α}{xs vs:List PV}(l:oL draw st o=some (xs,vs)) :
    dD T C draw hd all (o::rest) j st k=(match guardOf all o st.env with
     |none=>none
     |some false=>dD T C draw hd all rest (j+1) {st with env:=setEnv st.env o.dst (.o7 [])} k
     |some true=>fork (dD T C draw hd all rest (j+1) (je st o.dst xs vs false) k) (dD T C draw hd all rest (j+1) (je st o.dst xs vs true) k)):=by
  rw[UA,l]
theorem Gw{p l:Option α}{x:α}(h:fork p l=some x):∃r,p=some r/\l=some x:=by
 cases p with
 |none=>cases h
 |some r=>exact⟨r,rfl,h⟩
theorem abI{p l:Option α}{x r:α}(h1:p=some r)(u:l=some x):fork p l=some x:=by subst h1 u;rfl
end
structure Cx where
 w0:Base
 Pr:Nat->Prop
 M0:Nat->Prop
 UC:Nat->Option (Nat × Nat)
 hp0:Heap
 Wr:Nat->Prop
 t0:Array Value
 rd:Option Nat
 L0:List (Nat × Obj)
 nm:Nat
 Ys:Nat->Prop:=λ_=>False
 yv:Value:=undef
def lM(β:Nat->Option (Nat × Nat))(hp:Heap)(b:Nat):Prop:=∃s o,(look hp s).isSome=true/\β s=some (b,o)
def qc(D:Nat):Deferred:={target:=.collected D,args:=#[]}
def zl(hp:Heap):Prop:=∀xs,look hp ah≠some (.log true xs)
structure Fix (cx:Cx) (M:Nat->Prop) (β:Nat->Option (Nat × Nat)) (hp:Heap) (a:Act) (w:World) (L:List (Nat × Obj)) (ds:List Nat):Prop where
 lies:∀p∈L,w.heap[p.1]?=some p.2/\¬lM β hp p.1/\¬M p.1
 sub:∀p∈cx.L0,p∈L
 marks:a.defers=ds.map qc
 nodup:ds.Nodup
 mark:∀D∈ds,(D,Obj.deferred (some []))∈L/\cx.nm<=D/\((D,Obj.deferred (some []))∈cx.L0\/cx.w0.heap.size<=D)
 rd:∀l,cx.rd=some l->∃r,(l,Obj.loop r)∈L
 size:a.tmps.size=cx.t0.size
 tmps:∀t,¬cx.Wr t->a.tmps.getD t undef=cx.t0.getD t undef
 one:¬zl cx.hp0->ds=[]
 yl:∀t,cx.Ys t->a.tmps.getD t undef=cx.yv\/a.tmps.getD t undef=undef
 nml:cx.nm<=cx.w0.heap.size
def zn(cx:Cx)(o:Oper):Prop:=(∀t,o.dst=some t->cx.Wr t)/\∀t,o.dst=some t->cx.Ys t->∃s,cx.Ys s/\(o.op=.move (.tmp s)\/o.op=.assign (.tmp s))
def Inv(cx:Cx)(st:St)(a:Act)(w:World):Prop:=
 ∃M β L ds,Rel cx.w0 cx.Pr cx.M0 M β st a w/\(∀s,ah<=s->β s=cx.UC s)/\iU cx.hp0 st.heap/\gu cx.w0.gl cx.w0.drawn w.drawn/\Fix cx M β st.heap a w L ds
section
variable {w0:Base}{Pr M0 M M':Nat->Prop}{β β':Nat->Option (Nat × Nat)}{st st':St}{a a':Act}{w w':World}
theorem Rel.afG(r:Rel w0 Pr M0 M β st a w):Rel ⟨w,w0.n0,Nat.le_trans w0.le' r.size,w0.gl⟩ (lM β st.heap) M M β st a w:=
 ⟨r.mJ,r.env,r.heap,λs b o l p=>⟨(r.own s b o l p).1,(r.own s b o l p).2.1,.inr ⟨s,o,l,p⟩,(r.own s b o l p).2.2.2⟩,r.inj,r.dJ,λ_ h=>.inl h,λ_ h=>h,λ_ _ _=>rfl,λ_ _ _ _ h=>h,qNr _,rfl,rfl,rfl,r.glob⟩
theorem Rel.aaf(r:Rel w0 Pr M0 M β st a w){le:w0.n0<=w.heap.size}(l:Rel ⟨w,w0.n0,le,w0.gl⟩ (lM β st.heap) M M' β' st' a' w'):Rel w0 Pr M0 M' β' st' a' w':=by
 have B:∀b,lM β st.heap b->w0.heap.size<=b\/Pr b:=λb ⟨s,o,z,p⟩=>(r.own s b o z p).2.2.1;have G:∀b,b<w.heap.size->¬lM β st.heap b->w'.heap[b]?=w.heap[b]?:=l.keep;have u:w.heap.size<=w'.heap.size:=l.size;refine⟨l.mJ,l.env,l.heap,λs b o z p=>?_,l.inj,l.dJ,λb h=>?_,λb h=>l.oZ b (r.oZ b h),λb h1 h2=>?_,λb n h1 h2 H=>?_,Nat.le_trans r.size u,l.os.trans r.os,l.tape.trans r.tape,l.output.trans r.output,l.glob⟩
 .obtain⟨O,N,J,I⟩:=l.own s b o z p;refine⟨O,N,?_,I⟩;rcases J with h |h
  .have h:w.heap.size<=b:=h;have:=r.size;left;omega
  grind
 .rcases l.jH b h with h |⟨h,h'⟩
  .exact r.jH b h
  .refine .inr ⟨h,?_⟩;rcases h' with h' |h'
   .have h':w.heap.size<=b:=h';have:=r.size;left;omega
   grind
 .have p:b<w.heap.size:=by have:=r.size;omega
  rw[G b p λh=>?_,r.keep b h1 h2];grind
 .have p:b<w.heap.size:=by have:=r.size;omega
  have A:=r.room b n h1 h2 H;by_cases F:lM β st.heap b
  .exact l.room b n h1 F A
  .exact A.of_block (G b p F)
end
theorem put_defers(a:Act)(d:Option Nat)(c:Value):(a.put d c).defers=a.defers:=by cases d<;>rfl
theorem Jd(a:Act)(d:Option Nat)(c:Value):(a.put d c).tmps.size=a.tmps.size:=by cases d<;>simp[Act.put]
theorem Ws{a:Act}{d:Option Nat}{c:Value}(h:d≠some t):(a.put d c).tmps.getD t undef=a.tmps.getD t undef:=by
 cases d with
 |none=>rfl
 |some d=>simp_all[Act.put,qAb]
section
variable {P:Program}{T:Tab}{cx:Cx}{st st':St}{a:Act}{w:World}{o:Oper}
theorem Fix.put{M:Nat->Prop}{β:Nat->Option (Nat × Nat)}{hp:Heap}{L:List (Nat × Obj)}{ds:List Nat}(f:Fix cx M β hp a w L ds){d:Option Nat}(hd:∀t,d=some t->cx.Wr t)(c:Value)(r:∀t,d=some t->cx.Ys t->c=cx.yv\/c=undef):Fix cx M β hp (a.put d c) w L ds:=
 ⟨f.lies,f.sub,by rw[put_defers];exact f.marks,f.nodup,f.mark,f.rd,by rw[Jd];exact f.size,λt l=>by rw[Ws λe=>l (hd t e)];exact f.tmps t l,f.one,λt l=>by
   by_cases e:d=some t
   .subst e;by_cases p:t<a.tmps.size
    .have:(a.put (some t) c).tmps.getD t undef=c:=by simp[Act.put,p]
     grind
    grind[Act.put]
   .rw[Ws e];exact f.yl t l,f.nml⟩
theorem Fix.move(f:Fix cx M β hp a w L ds)(h:∀p∈L,w'.heap[p.1]?=w.heap[p.1]?/\¬lM β' hp' p.1/\¬M' p.1):Fix cx M' β' hp' a w' L ds:=
 ⟨λp hp=>⟨(h p hp).1.trans (f.lies p hp).1,(h p hp).2⟩,f.sub,f.marks,f.nodup,f.mark,f.rd,f.size,f.tmps,f.one,f.yl,f.nml⟩
theorem Fix.less(f:Fix cx M β hp a w L ds)(h:∀p∈L,w'.heap[p.1]?=w.heap[p.1]?)(l:∀b,lM β' hp' b->lM β hp b):Fix cx M β' hp' a w' L ds:=
 f.move λp hp=>⟨h p hp,λh'=>(f.lies p hp).2.1 (l _ h'),(f.lies p hp).2.2⟩
theorem Fix.step{w0:Base}{Pr M0:Nat->Prop}{a':Act}(f:Fix cx M β st.heap a w L ds)(_r:Rel w0 Pr M0 M β st a w){le:w0.n0<=w.heap.size}
    (l:Rel ⟨w,w0.n0,le,w0.gl⟩ (lM β st.heap) M M' β' st' a' w'):Fix cx M' β' st'.heap a w' L ds:=by
  refine f.move λp hp=>?_;obtain⟨h1,h2,B⟩:=f.lies p hp;have r:p.1<w.heap.size:=(qAa.1 h1).1;refine⟨l.keep p.1 r h2,λ⟨s,o,u,A⟩=>?_,λz=>?_⟩
  .rcases(l.own s p.1 o u A).2.2.1 with h |h;all_goals grind
  .rcases l.jH p.1 z with h |⟨_,h |h⟩;all_goals grind
theorem afH{U:List Nat}{b:aH}(l:jy U h s=some b):h s=some b:=by unfold jy at l;split at l;all_goals grind
theorem QX(u:ops.toList=all)(hd:vS all g=some t)(i:Inv cx st a w){b:Bool}(z:st.env.getD t .undef=.p (.bool b)):yielded ops a.tmps g=some b:=by
 obtain⟨M,β,L,ds,r,_⟩:=i;subst u;have h1:=r.slot t;rw[z]at h1;have h2:=h1.Dh;unfold yielded;unfold vS at hd;rw[Array.getElem?_toList]at hd;rw[hd];have l:t<a.tmps.size:=by
  have:t<st.env.length:=θ
  have:=r.mJ;omega
 simp_all
theorem J5(p:ops.toList=all)(hd:vS all g=some t)(i:Inv cx st a w)(u:st.env.getD t .undef=.o7 []):yielded ops a.tmps g=none:=by
 obtain⟨M,β,L,ds,r,_⟩:=i;subst p;have h1:=r.slot t;rw[u]at h1;unfold yielded;unfold vS at hd;rw[Array.getElem?_toList]at hd;rw[hd];simp only[qOb];cases l:a.tmps[t]? with
 |none=>rfl
 |some c=>
  rw[qAb,l]at h1;simp only[Option.getD_some]at h1;cases h1 with
  |o7 _ vs z _=>rfl
theorem Wu{e:Eff}(h1:(cO T C env h o).run some=some e):∀c,o.op≠.defer c:=by grind[cO,DT.run]
theorem adb(l:o.op=.move (.tmp s)\/o.op=.assign (.tmp s)):o.wpIn (FW rd) n P a w K Q↔K (a.put o.dst (a.tmps.getD s undef)) w:=by
 have p:∀c,o.op≠.defer c:=λc u=>by rcases l with h |h<;>rw[h]at u<;>cases u
 have r:(execOp a.eval o).run P w=.ok (.value (a.tmps.getD s undef)) w:=by obtain⟨dst,op,type,pos,after,guard⟩:=o;rcases l with h |h<;>(simp only at h;subst h;simp[execOp,Act.eval])
 constructor
 .intro h;have h2:=h.2;rw[Oper.semAt_plain (FW rd) a.eval o p,r]at h2;exact h2
 .intro h;refine tq p ?_;rw[r];exact h
theorem ahu(ok:bJ P T)(hC:dS P T cx.w0.gl C){hd:List Nat}(Z:ops.toList=all)(N:zn cx o)(i:Inv cx st a w)
    (h:step1 T C draw hd all o st=some st')(S:∀a' w',Inv cx st' a' w'->K a' w'):
    if Region.wanted o (yielded ops a.tmps)then o.wpIn (FW rd) n P a w K Q else K (a.put o.dst undef) w:=by
  have key:∀e,((cO T C st.env (jy hd (look st.heap)) o).run some)=some e->gI (e.new++e.zK)=true->st'=st.apply o.dst e->o.wpIn (FW rd) n P a w K Q:=by
   intro e h1 h2 l;obtain⟨M,β,L,ds,r,J,I,i3,H⟩:=i;have z:=(ajN (w0:=⟨w,cx.w0.n0,Nat.le_trans cx.w0.le' r.size,cx.w0.gl⟩) (o:=o) ok hC r.afG (h':=jy hd (look st.heap)) λs b=>afH).sim (Wu h1) Eff some e h1 rd n Q;by_cases u:∃t,o.dst=some t/\cx.Ys t
   .obtain⟨t,ht,O⟩:=u;obtain⟨s,u,R⟩:=N.2 t ht O;rw[adb R]at z ⊢;obtain⟨_,e',M',β',h5,F,U⟩:=z;cases h5;obtain⟨G,W,V⟩:=U h2;exact S _ w ⟨M',β',L,ds,by rw[l];exact r.aaf G,λs z=>(W s z).trans (J s z),by rw[l];exact I.trans V,i3.trans F,by rw[l];exact(H.step r G).put N.1 _ λ_ _ _=>H.yl s u⟩
   .refine Oper.wpIn_mono (λa' w' h4=>?_) z;obtain⟨⟨c,rfl⟩,e',M',β',h5,F,U⟩:=h4;cases h5;obtain⟨G,W,V⟩:=U h2;exact S _ w' ⟨M',β',L,ds,by rw[l];exact r.aaf G,λs z=>(W s z).trans (J s z),by rw[l];exact I.trans V,i3.trans F,by rw[l];exact(H.step r G).put N.1 c λt h1 h2=>absurd ⟨t,h1,h2⟩ u⟩
  have Y:st'={st with env:=setEnv st.env o.dst (.o7 [])}->K (a.put o.dst undef) w:=by intro l;obtain⟨M,β,L,ds,r,J,I,i3,H⟩:=i;exact S _ _ ⟨M,β,L,ds,by rw[l];exact r.setEnv o.dst (.o7 [] #[] rfl λi c h=>by simp at h),J,by rw[l];exact I,i3,by rw[l];exact H.put N.1 _ λ_ _ _=>.inr rfl⟩
  have go:∀x:Option Eff,x=((cO T C st.env (jy hd (look st.heap)) o).run some)->(match x.map some with
        |none=>none
        |some none=>some {st with env:=setEnv st.env o.dst (.o7 [])}
        |some (some e)=>if(gI (e.new++e.zK)&&dR draw (bf T all o) (fP all o) st.heap e)=true then some (st.apply o.dst e)else none:Option St)=some st'->o.wpIn (FW rd) n P a w K Q:=by
    intro x hx h;cases x with
    |none=>simp at h
    |some e=>grind
  unfold step1 yR at h;cases hg:o.guard with
  |none=>simp_all[Region.wanted,if_true]
  |some gw=>
   obtain⟨g,X⟩:=gw;rw[hg]at h;simp only at h;cases A:vS all g with
   |none=>rw[A]at h;simp at h
   |some t=>
    rw[A]at h;simp only at h;cases B:st.env.getD t .undef with
    |p v=>
     cases v with
     |bool b=>rw[B]at h;simp only at h;have hy:=QX Z A i B;grind[Region.wanted]
     |_=>rw[B]at h;simp at h
    |o7 cs=>
     cases cs with
     |cons x r=>rw[B]at h;simp at h
     |nil=>rw[B]at h;simp only at h;have hy:=J5 Z A i B;grind[Region.wanted]
    |_=>rw[B]at h;simp at h
theorem aag(h:zl hp)(p:iU hp hp'):zl hp':=by
 intro xs r;obtain⟨blk,h1,h2⟩:=p ah (qNr _) _ r;cases blk with
 |box=>exact h2.elim
 |arr=>exact h2.elim
 |tb=>exact h2.elim
 |mp=>exact h2.elim
 |br=>exact h2.elim
 |log l ys=>exact h ys (by rw[h1];cases (show l=true from h2);rfl)
theorem zl.yield(h:zl st.heap)(draw:Bool):oL draw st o=none:=by
 cases draw with
 |true=>rfl
 |false=>
  show yieldOf st o=none;unfold yieldOf;split
  .split
   .split
    .split
     .rename_i h1 _;exact absurd h1 (h _)
     .rfl
    .rfl
   .rfl
  .rfl
theorem Inv.aml(i:Inv cx st a w)(h:zl cx.hp0):zl st.heap:=by obtain⟨M,β,L,ds,r,p,l,i3,u⟩:=i;exact aag h l
theorem QY(ok:bJ P T){C:aB}(A:dS P T cx.w0.gl C){α:Type}{draw:Bool}{hd:List (List Nat)}{ops:Array Oper}(u:zl cx.hp0){rd:Option Nat}{n:Nat}{Q:Exit->Act->World->Prop}{k:St->Option α}{x:α}(z:∀st' a' w',k st'=some x->Inv cx st' a' w'->Q .normal a' w') :
    ∀(l:List Oper) (j:Nat) (st:St) (a:Act) (w:World),(∀o∈l,zn cx o)->dD T C draw hd ops.toList l j st k=some x->Inv cx st a w->wpListIn (FW rd) n P ops Q l a w
  |[],j,st,a,w,_,h,i=>z st a w h i
  |o::rest,j,st,a,w,p,h,i=>by
   rw[oh _ _ ((i.aml u).yield draw)]at h;cases h1:step1 T C draw (hd.getD j []) ops.toList o st with
   |none=>rw[h1]at h;cases h
   |some r=>
    rw[h1]at h;have:=ahu ok A rfl (p o σ) i h1 (rd:=rd) (n:=n) (K:=wpListIn (FW rd) n P ops Q rest) (λa' w' B=>QY ok A u z rest (j+1) r a' w' (λo F=>p o (by simp[F])) h B) (Q:=Q);unfold wpListIn;split
    .rename_i p;rw[if_pos p]at this;exact this
    .rename_i p;rw[if_neg p]at this;exact⟨λ_ _=>trivial,this⟩
end
end
section
variable {env env':List AV}{x y:AV}{h h':Nat->Option aH}{o:Oper}{all:List Oper}{t:TypeId}{op:BinOp}{e:Eff}{kc:Bool}
section
variable {T:Tab}{C:aB}
theorem wM{env env':List AV}:∀{l:List Operand},(∀x∈l,aP env x=aP env' x)->jX env l=jX env' l
 |[],_=>rfl
 |x::r,h=>by have:=wM (l:=r) λy p=>h y (List.mem_cons_of_mem _ p);simp[jX,h x σ,this]
theorem vJ{env env':List AV}:∀{l:List (Nat × Operand)},(∀x∈l,aP env x.2=aP env' x.2)->iE env l=iE env' l
 |[],_=>rfl
 |(i,x)::r,h=>by have:=vJ (l:=r) λy p=>h y (List.mem_cons_of_mem _ p);simp[iE,h (i,x) σ,this]
theorem uh{x:Option Operand}(h:∀y,x=some y->aP env y=aP env' y):nK env x=nK env' x:=by
 cases x with
 |none=>rfl
 |some y=>simp[nK,h y rfl]
theorem Wv(p:∀x∈o.op.operands,aP env x=aP env' x):cO T C env h o=cO T C env' h o:=by
 obtain⟨dst,op,type,pos,after,guard⟩:=o;cases op with
 |call c=>
  obtain⟨callee,args,ts⟩:=c;simp only[Op.operands,Call.operands]at p;have B:∀x∈args.toList,aP env x=aP env' x:=λx u=>p x (by simp[Array.mem_toList_iff.1 u]);have G:=wM B;simp only[cO];split
  .split
   .rename_i x t r h1 h2;rw[B x (by rw[h1];simp)]
   .rfl
  .split
   .rename_i x y t H h1 h2;rw[B x (by rw[h1];simp),B y (by rw[h1];simp)]
   .rfl
  .rename_i f;rw[p f σ,G]
  .rfl
 |build t ps=>simp only[Op.operands]at p;simp only[cO];rw[vJ λx u=>p x.2 (by simp;exact⟨x.1,by simpa using u⟩)]
 |buildSlice t n ps=>simp only[Op.operands]at p;simp only[cO];rw[vJ λx u=>p x.2 (by simp;exact⟨x.1,by simpa using u⟩)]
 |makeFunc fn first A=>simp only[Op.operands]at p;simp only[cO];rw[wM λx u=>p x (by simp[Array.mem_toList_iff.1 u]),wM (l:=A.toList) λx u=>p x (by simp[Array.mem_toList_iff.1 u])]
 |slice t x lo hi F=>simp only[Op.operands]at p;simp only[cO];rw[p x σ,uh (x:=lo) λy z=>p y (by simp[z]),uh (x:=hi) λy z=>p y (by simp[z]),uh (x:=F) λy z=>p y (by simp[z])]
 |makeMap t x=>simp only[Op.operands]at p;simp only[cO];rw[uh (x:=x) λy z=>p y (by simp[z])]
 |assign x=>
  simp only[Op.operands]at p;have u:=p x σ;simp only[cO];split
  .rfl
  .rw[u]
 |_=>
  simp only[Op.operands]at p;simp only[cO];try simp at p
  try simp only[p]
theorem IY{t:Nat}:∀{l:List Operand},Operand.tmp t∈l->t∈tmpsOf l
 |[],h=>by simp at h
 |x::r,h=>by
  rcases List.mem_cons.1 h with rfl |h
  .simp[tmpsOf]
  .have:=IY h;cases x<;>simp[tmpsOf,this]
def zY(T:Tab)(C:aB)(all:List Oper)(o:Oper)(env:List AV)(h:Nat->Option aH):Option Eff:=(yR T C all o env h).map λx=>x.getD {val:=.o7 []}
theorem aah(r:∀t∈ru all o,env.getD t .undef=env'.getD t .undef):yR T C all o env h=yR T C all o env' h:=by
 have p:cO T C env h o=cO T C env' h o:=Wv λx l=>by
  cases x with
  |tmp t=>show env.getD t .undef=env'.getD t .undef;exact r t (by unfold ru;exact List.mem_append_left _ (IY (by simpa using l)))
  |_=>rfl
 unfold yR;rw[p];grind[ru,vS]
theorem tC(l:∀t∈ru all o,env.getD t .undef=env'.getD t .undef):zY T C all o env h=zY T C all o env' h:=by unfold zY;rw[aah l]
theorem Wx(l:VQ T t=false):Gh T h t x=Gh T h' t x:=by
 unfold VQ at l;unfold Gh;cases p:und T t with
 |none=>rfl
 |some d=>rw[p]at l;cases d<;>first |(simp at l;done) |(cases x<;>first |rfl |(rename_i v;cases v<;>rfl))
theorem Yx(l:bf T all o=.pure):cO T C env h o=cO T C env h' o:=by
 obtain⟨dst,op,type,pos,after,guard⟩:=o;cases op with
 |call c=>
  obtain⟨callee,args,ts⟩:=c;cases callee with
  |builtin b=>
   by_cases u:b=.len
   .subst u;simp only[bf]at l;cases B:ts.toList.any (VQ T)with
    |true=>rw[B]at l;cases l
    |false=>
     simp only[cO];split
     .rename_i x t r h1 h2;refine Wx ?_;have:=List.any_eq_false.1 B t (by rw[h2];simp);simpa using this
     .rfl
   .cases b<;>first |rfl |(exact absurd rfl u) |(simp only[bf]at l;cases A:VP args.toList all<;>rw[A]at l<;>simp at l;done) |(simp[bf]at l)
  |value f=>
   cases f with
   |func f=>simp only[bf]at l;cases A:(fF T f).MZ||((fF T f).take||(((fF T f).shares&&!(fF T f).quiet)||(fF T f).xK.writes))<;>rw[A]at l<;>simp at l
   |tmp t=>simp only[bf]at l;cases G:ajC T dst<;>rw[G]at l<;>simp at l
   |_=>simp[bf]at l
  |invoke r n=>simp[bf]at l
 |slice t x lo hi H=>simp only[bf]at l;simp only[cO]
 |store t p v=>
  simp only[bf]at l;split at l<;>first |(rename_i z _;cases F:JL T all z v<;>rw[F]at l<;>simp at l;done) |simp_all
  all_goals (try (rename_i z _ _;cases F:JL T all z v<;>simp_all))
 |assign x=>simp only[bf]at l;rfl
 |move x=>rfl
 |_=>first |rfl |(simp[bf]at l)
theorem UD(l:bf T all o=.pure):zY T C all o env h=zY T C all o env h':=by unfold zY yR;rw[Yx l (h':=h')]
theorem WA(l:bf T all o=.const):∃v,(v=.undef\/∃x,v=.p x)/\∀env h,cO T C env h o=.ret {val:=v}:=by
 have val:∀x,yx x=true->∃v,(v=.undef\/∃y,v=.p y)/\∀env,aP env x=v:=by
  intro x r;cases x with
  |tmp t=>simp[yx]at r
  |global g=>simp[yx]at r
  |func f=>exact⟨.p (.fn f []),.inr ⟨_,rfl⟩,λ_=>rfl⟩
  |const v=>
   cases z:ofValue v with
   |none=>exact⟨.undef,.inl rfl,λenv=>by simp[aP,z]⟩
   |some y=>exact⟨.p y,.inr ⟨_,rfl⟩,λenv=>by simp[aP,z]⟩
 obtain⟨dst,op,type,pos,after,guard⟩:=o;cases op with
 |move x=>
  simp only[bf]at l;cases r:yx x with
  |false=>rw[r]at l;simp only[qCf,abr]at l;grind
  |true=>simp_all[cO]
 |assign x=>
  simp only[bf]at l;split at l
  .cases l
  .rename_i y B u;cases u;cases r:yx x with
   |false=>rw[r]at l;simp at l
   |true=>simp_all[cO]
  all_goals grind
 |call c=>grind[bf]
 |slice t x lo hi A=>grind[bf]
 |store t p v=>grind[bf]
 |_=>simp[bf]at l
theorem abJ{v:AV}(h:v.RY=true):v=.o7 []\/∃x,v=.p x:=by
 cases v with
 |p x=>exact .inr ⟨x,rfl⟩
 |o7 l=>cases l with
  |nil=>exact .inl rfl
  |cons a l=>simp[AV.RY]at h
 |_=>simp[AV.RY]at h
theorem aai(h:(BA T op t x y).run some=some e):∃p q,x=.p p/\y=.p q:=by
 cases x with
 |p p=>cases y with
  |p q=>exact⟨p,q,rfl,rfl⟩
  |_=>cases p<;>simp[BA,DT.run]at h
 |_=>simp[BA,DT.run]at h
theorem LW{q:PV}(h:(CX T op t kc x (.p q)).run some=some e):∃p,x=.p p:=by
 cases x with
 |p p=>exact⟨p,rfl⟩
 |_=>cases q<;>simp[CX,DT.run]at h
theorem ade(h:(JH T op t kc x y).run some=some e):∃p q,x=.p p/\y=.p q:=by
 unfold JH at h;split at h
 .obtain⟨p,rfl⟩:=LW h;exact⟨p,_,rfl,rfl⟩
 .obtain⟨p,rfl⟩:=LW h;exact⟨p,_,rfl,rfl⟩
 .obtain⟨p,rfl⟩:=LW h;exact⟨p,_,rfl,rfl⟩
 .exact aai h
theorem afI{op:UnOp}(h:(P9 op x).run some=some e):∃p,x=.p p:=by
 cases x with
 |p p=>exact⟨p,rfl⟩
 |_=>cases op<;>simp[P9,DT.run]at h
theorem Yy(H:bf T all o=.plain)(r:(cO T C env h o).run some=some e)(hp:e.val.RY=true)(env':List AV)(h':Nat->Option aH)
    (G:∀t∈tmpsOf o.op.operands.toList,∀u:AV,u.RY=true->env.getD t .undef=u->env'.getD t .undef=u):(cO T C env' h' o).run some=some e:=by
  have A:∀x∈o.op.operands,∀u:AV,u.RY=true->aP env x=u->aP env' x=u:=by
   intro x B u F l;cases x with
   |tmp t=>exact G t (IY (by simpa using B)) u F l
   |_=>exact l
  obtain⟨dst,op,type,pos,after,guard⟩:=o;cases op with
  |move x=>grind[cO,DT.run,qOa,Op.operands]
  |binOp op t x y z=>simp only[cO]at r ⊢;obtain⟨p,q,h1,h2⟩:=ade r;rw[A x (by simp[Op.operands]) (.p p) rfl h1,A y (by simp[Op.operands]) (.p q) rfl h2];grind
  |unOp op t x=>simp only[cO]at r ⊢;obtain⟨p,h1⟩:=afI r;rw[A x (by simp[Op.operands]) (.p p) rfl h1];grind
  |call c=>grind[bf]
  |slice t x lo hi I=>grind[bf]
  |store t p v=>grind[bf]
  |assign x=>grind[bf]
  |_=>simp[bf]at H
end
end
section
variable {h1 h2:Heap}{s st:St}{t:Nat}{draw:Bool}{o:Oper}{hd ss:List Nat}{all:List Oper}{env:List AV}{d:Option Nat}{v:AV}
def Same(s t:St):Prop:=s.env=t.env/\look s.heap=look t.heap
theorem Same.refl(s:St):Same s s:=⟨rfl,rfl⟩
theorem Same.trans{s t u:St}(h1:Same s t)(h2:Same t u):Same s u:=⟨h1.1.trans h2.1,h1.2.trans h2.2⟩
theorem Same.symm{s t:St}(h:Same s t):Same t s:=⟨h.1.symm,h.2.symm⟩
mutual
theorem QZ:∀(v:AV),AV.refers [] v=false
 |.undef |.p _ |.pF _ _ _ _ |.fresh _ _ _ |.AB=>rfl
 |.slice _ _ _ _ |.bslice _ _ _ |.ptr _ _ _ |.mref _=>rfl
 |.fn _ cs |.agg cs |.o7 cs=>by simp only[AV.refers];exact Ht cs
theorem Ht:∀(l:List AV),AV.fU [] l=false
 |[]=>rfl
 |v::r=>by simp[AV.fU,QZ v,Ht r]
end
theorem qH:∀(l:List AV),gq [] l=l
 |[]=>rfl
 |v::r=>by simp[gq,AV.kill,QZ,qH r]
def Nz(ss:List Nat)(hp:Heap):Heap:=match ss with |[]=>hp |ss=>fM ss hp
def zo(ss:List Nat)(hp:Heap):Heap:=match ss with |[]=>hp |ss=>nG (fM ss hp) ss
theorem ahv(ss:List Nat)(st:St):st.kill ss=⟨gq ss st.env,Nz ss st.heap⟩:=by
 cases ss with
 |nil=>simp[St.kill,Nz,qH]
 |cons s r=>rfl
theorem adf(ss:List Nat)(st:St):st.strike ss=⟨gq ss st.env,zo ss st.heap⟩:=by
 cases ss with
 |nil=>simp[St.strike,zo,qH]
 |cons s r=>rfl
theorem jk(st:St)(d:Option Nat)(e:Eff):st.apply d e =
    ⟨setEnv (gq e.cut (gq (present st.heap e.new++e.zK) st.env)) d e.val,eH (Nz e.cut (zo (present st.heap e.new++e.zK) st.heap)) e.ny⟩:=by
  simp only[St.apply,ahv,adf]
theorem zZ{h1 h2:Heap}(h:look h1=look h2):∀(l:List Nat),present h1 l=present h2 l
 |[]=>rfl
 |s::r=>by simp only[present,h,zZ h r]
theorem Yz(h:look h1=look h2)(ss:List Nat):look (Nz ss h1)=look (Nz ss h2):=by
 cases ss with
 |nil=>exact h
 |cons s r=>funext x;simp only[Nz,fE,h]
theorem SA(h:look h1=look h2)(ss:List Nat):look (zo ss h1)=look (zo ss h2):=by
 cases ss with
 |nil=>exact h
 |cons s r=>funext x;simp only[zo,rE,fE,h]
theorem adg(h:look h1=look h2)(s:Nat)(b:aH):look (put h1 s b)=look (put h2 s b):=by funext x;simp only[aZ,h]
theorem J6:∀{c:List (Nat × aH)}{h1 h2:Heap},look h1=look h2->look (eH h1 c)=look (eH h2 c)
 |[],_,_,h=>h
 |(s,b)::r,_,_,h=>J6 (c:=r) (adg h s b)
theorem YA{t:St}(h:Same s t)(d:Option Nat)(e:Eff):Same (s.apply d e) (t.apply d e):=by rw[jk,jk,zZ h.2,h.1];exact⟨rfl,J6 (Yz (SA h.2 _) _)⟩
section
variable {T:Tab}{C:aB}
theorem qI{h1 h2:Heap}(h:look h1=look h2):∀c:List (Nat × aH),nS h1 c=nS h2 c
 |[]=>rfl
 |(s,.log _ _)::r=>rfl
 |(s,.box _)::r=>by simp only[nS,h,qI h r]
 |(s,.arr _ _ _)::r=>by simp only[nS,h,qI h r]
 |(s,.tb _ _ _)::r=>by simp only[nS,h,qI h r]
 |(s,.mp _ _)::r=>by simp only[nS,h,qI h r]
 |(s,.br _ _)::r=>by simp only[nS,h,qI h r]
theorem YB{cls:Cls}{o:List Nat}(h:look h1=look h2)(e:Eff):dR draw cls o h1 e=dR draw cls o h2 e:=by unfold dR;rw[zZ h,qI h]
theorem afJ:
    step1 T C draw hd all o st=(zY T C all o st.env (jy hd (look st.heap))).bind λe=>if(gI (e.new++e.zK)&&dR draw (bf T all o) (fP all o) st.heap e)=true then some (st.apply o.dst e)else none:=by
  unfold step1 zY;cases yR T C all o st.env (jy hd (look st.heap))with
  |none=>rfl
  |some x=>
   cases x with
   |none=>
    simp only[Option.map_some,Option.getD_none,qOb];have:dR draw (bf T all o) (fP all o) st.heap {val:=.o7 []}=true:=by
     cases draw with
     |false=>rfl
     |true=>cases bf T all o<;>rfl
    rw[if_pos (by simp[gI,this]),jk];simp[present,qH,Nz,zo,eH]
   |some e=>rfl
theorem iC{st':St}:step1 T C draw hd all o st=some st' ↔
    ∃e,zY T C all o st.env (jy hd (look st.heap))=some e/\gI (e.new++e.zK)=true/\dR draw (bf T all o) (fP all o) st.heap e=true/\st'=st.apply o.dst e:=by
  rw[afJ];cases h:zY T C all o st.env (jy hd (look st.heap))with
  |none=>simp
  |some e=>grind
theorem YC{t p:St}(h:Same s t)(h1:step1 T C draw hd all o s=some p):∃l,step1 T C draw hd all o t=some l/\Same p l:=by
 obtain⟨e,z,u,r,rfl⟩:=iC.1 h1;refine⟨t.apply o.dst e,iC.2 ⟨e,?_,u,?_,rfl⟩,YA h _ _⟩
 .grind[h.1,h.2]
 .rw[<-YB h.2];exact r
def lastOf:List (Nat × aH)->Nat->Option aH
 |[],_=>none
 |(s,b)::r,x=>match lastOf r x with
  |some c=>some c
  |none=>if x=s then some b else none
theorem lF:∀(c:List (Nat × aH)) (hp:Heap) (x:Nat),look (eH hp c) x=match lastOf c x with |some b=>some b |none=>look hp x
 |[],hp,x=>rfl
 |(s,b)::r,hp,x=>by
  show look (eH (put hp s b) r) x=_;rw[lF r];simp only[lastOf];cases lastOf r x with
  |some c=>rfl
  |none=>simp only[aZ];by_cases h:x=s<;>simp[h]
theorem uV{x:Nat}:∀{c:List (Nat × aH)},x ∉ keysOf c->lastOf c x=none
 |[],_=>rfl
 |(s,b)::r,h=>by simp only[keysOf,List.mem_cons,not_or]at h;simp[lastOf,uV h.2,h.1]
theorem YD{c1 l:List (Nat × aH)}(h:∀x,x∈keysOf c1->x ∉ keysOf l)(hp:Heap):look (eH (eH hp c1) l)=look (eH (eH hp l) c1):=by
 funext x;simp only[lF];by_cases h1:x∈keysOf c1
 .rw[uV (h x h1)]
 .rw[uV h1]
theorem IZ{ss:List Nat}:∀{c:List (Nat × aH)},Qj ss c=true->∀x∈keysOf c,x∈ss
 |[],_,x,h=>by simp[keysOf]at h
 |(k,b)::r,h,x,l=>by
  simp only[Qj,qBa]at h;simp only[keysOf,List.mem_cons]at l;rcases l with rfl |l
  .exact jJ.1 h.1
  .exact IZ h.2 x l
theorem YE{ss:List Nat}:∀{l:List Nat},ahf ss l=true->∀x∈l,x∈ss
 |[],_,x,h=>by simp at h
 |y::r,h,x,p=>by
  simp only[ahf,qBa]at h;rcases List.mem_cons.1 p with rfl |p
  .exact jJ.1 h.1
  .exact YE h.2 x p
theorem YF{U:List Nat}{c:List (Nat × aH)}(h:∀x∈keysOf c,x∈U)(hp:Heap):jy U (look (eH hp c))=jy U (look hp):=by
 cases U with
 |nil=>
  cases c with
  |nil=>rfl
  |cons p r=>obtain⟨k,b⟩:=p;exact absurd (h k (by simp[keysOf])) σ
 |cons s r=>
  funext x;simp only[jy];cases u:fB x (s::r)with
  |true=>rfl
  |false=>simp only[qCf];rw[lF,uV λl=>dY.1 u (h x l)]
theorem Aa{hp:Heap}:∀{l:List Nat},present hp l=[]↔∀s∈l,look hp s=none
 |[]=>by simp[present]
 |s::r=>by
  simp only[present,List.mem_cons,forall_eq_or_imp];cases h:look hp s with
  |some b=>simp
  |none=>simp[Aa]
theorem uX{p l:Option Nat}{u r:AV}(h:∀d,p=some d->l≠some d):setEnv (setEnv env p u) l r=setEnv (setEnv env l r) p u:=by
 cases p with
 |none=>rfl
 |some a=>
  cases l with
  |none=>rfl
  |some b=>exact List.set_comm _ _ λe=>h a rfl (by rw[e])
theorem jF(h:d≠some t):(setEnv env d v).getD t .undef=env.getD t .undef:=by
 cases d with
 |none=>rfl
 |some a=>grind[setEnv,qLb]
theorem lN(h:v=.undef\/v=.o7 []\/∃x,v=.p x):gq ss (setEnv env d v)=setEnv (gq ss env) d v:=by
 have l:AV.kill ss v=v:=by rcases h with rfl|rfl |⟨x,rfl⟩<;>rfl
 cases d with
 |none=>rfl
 |some a=>apply List.ext_getElem?;grind[setEnv,jD,nU]
theorem UE{v:PV}:(gq ss env).getD t .undef=.p v↔env.getD t .undef=.p v:=by
 simp only[qLb,jD];cases env[t]? with
 |none=>simp
 |some u=>
  simp only[Option.map_some,Option.getD_some];unfold AV.kill;cases h:AV.refers ss u with
  |false=>simp
  |true=>simp only[qCt];grind[AV.refers]
theorem J7:(gq ss env).getD t .undef=.o7 []↔env.getD t .undef=.o7 []:=by
 simp only[qLb,jD];cases env[t]? with
 |none=>simp
 |some u=>
  simp only[Option.map_some,Option.getD_some];unfold AV.kill;cases h:AV.refers ss u with
  |false=>simp
  |true=>simp only[qCt];grind[AV.refers,AV.fU]
def IsG(v:AV):Prop:=(∃b,v=.p (.bool b))\/v=.o7 []
theorem Gx(l:IsG v):(gq ss env).getD t .undef=v↔env.getD t .undef=v:=by
 rcases l with⟨b,rfl⟩ |rfl
 .exact UE
 .exact J7
theorem Gy(l:v.RY=true):(gq ss env).getD t .undef=v↔env.getD t .undef=v:=by
 rcases abJ l with rfl |⟨x,rfl⟩
 .exact J7
 .exact UE
end
end
section
variable {all:List Oper}{o x:Oper}{st:St}{e:Eff}{env:List AV}{h:Heap}{cls:Cls}
section
variable {T:Tab}{C:aB}
theorem Q5{ss:List Nat}:∀{l:List Nat},VT ss l=true->∀x∈l,x ∉ ss
 |[],_,x,h=>by simp at h
 |y::r,h,x,p=>by
  simp only[VT,qBa,qBb]at h;rcases List.mem_cons.1 p with rfl |p
  .exact dY.1 h.1
  .exact Q5 h.2 x p
theorem YG{y:Oper}(h:ZM all x y=true) :
    (∀d,x.dst=some d->d ∉ ru all y)/\(∀d,x.dst=some d->y.dst≠some d)/\(∀d,y.dst=some d->d ∉ ru all x):=by
  unfold ZM at h;simp only[qBa]at h;refine⟨λd hd=>?_,λd hd=>?_,λd hd=>?_⟩
  .have:=h.1;rw[hd]at this;simp only[qBa,qBb]at this;exact dY.1 this.1
  .grind
  .have:=h.2;rw[hd]at this;simp only[qBb]at this;exact dY.1 this
theorem gG{d:Option Nat}(h1:e.cut=[])(h2:e.zK=[])(l:present st.heap e.new=[]):st.apply d e=⟨setEnv st.env d e.val,eH st.heap e.ny⟩:=by grind[jk,qH,Nz,zo]
theorem Q7(J:bf T all o=.const){h:Nat->Option aH}(r:zY T C all o env h=some e) :
    (∃v,e={val:=v}/\(v=.undef\/v=.o7 []\/∃x,v=.p x)) /\
    ∀env' h',(∀g l t v,o.guard=some (g,l)->vS all g=some t->IsG v->env.getD t .undef=v->env'.getD t .undef=v)->zY T C all o env' h'=some e:=by
  obtain⟨v,G,H⟩:=WA (C:=C) J;have F:v=.undef\/v=.o7 []\/∃x,v=.p x:=G.imp id .inr;unfold zY yR at r ⊢;simp only[H]at r ⊢;cases I:o.guard with
  |none=>grind[DT.run]
  |some N=>
   obtain⟨g,l⟩:=N;rw[I]at r;simp only at r ⊢;cases hd:vS all g with
   |none=>rw[hd]at r;simp at r
   |some t=>
    rw[hd]at r;simp only at r ⊢;by_cases B:∃b,env.getD t .undef=.p (.bool b)
    .obtain⟨b,A⟩:=B;rw[A]at r;simp only at r;refine⟨?_,λenv' h' u=>?_⟩
     .grind[DT.run]
     .rw[u g l t _ rfl hd (.inl ⟨b,rfl⟩) A];exact r
    .by_cases z:env.getD t .undef=.o7 []
     .rw[z]at r;simp only[Option.map_some,Option.getD_none,qOa]at r;subst r;refine⟨⟨.o7 [],rfl,.inr (.inl rfl)⟩,λenv' h' u=>?_⟩;rw[u g l t _ rfl hd (.inr rfl) z];rfl
     grind
theorem guard_looks{g t:Nat}{l:Bool}(p:o.guard=some (g,l))(hd:vS all g=some t):t∈ru all o:=by grind[ru,vS]
theorem UF(V:bf T all o=.plain){h W:Heap}{J:Nat->Option aH}{ss:List Nat}(l:zY T C all o env J=some e)(H:dR true .plain ss W e=true) :
    (∃v,e={val:=v}/\(v=.undef\/v=.o7 []\/∃x,v=.p x)) /\
    ∀env' h',(∀t∈ru all o,∀u:AV,u.RY=true->env.getD t .undef=u->env'.getD t .undef=u)->zY T C all o env' h'=some e:=by
  have _:=h;simp only[dR,qBa,List.isEmpty_iff]at H;obtain⟨q1,G,F,B,A⟩:=H;obtain⟨Y,ec,en,eu,ef⟩:=e;simp only at q1 G F B A;subst q1 G F B;refine⟨⟨Y,rfl,.inr (abJ A)⟩,λenv' h' I=>?_⟩;have Z:∀{r:Eff},(cO T C env J o).run some=some r->r.val.RY=true->(cO T C env' h' o).run some=some r:=λh1 h2=>Yy V h1 h2 env' h' λt S=>I t (List.mem_append_left _ S);unfold zY yR at l ⊢;cases N:o.guard with
  |none=>simp_all
  |some X=>
   obtain⟨g,z⟩:=X;rw[N]at l;simp only at l ⊢;cases hd:vS all g with
   |none=>rw[hd]at l;simp at l
   |some t=>
    rw[hd]at l;simp only at l ⊢;have U:=guard_looks N hd;by_cases R:∃b,env.getD t .undef=.p (.bool b)
    .obtain⟨b,O⟩:=R;rw[I t U _ rfl O];rw[O]at l;simp only at l ⊢;split at l;all_goals simp_all
    grind
def Facts(o:List Nat)(e:Eff):Cls->Prop
 |.read=>(∀x∈keysOf e.ny,x∈o)/\(∀x∈e.new,x∈o)
 |.own t=>(∀x∈keysOf e.ny,x∈[t])/\e.new=[]
 |.store=>e.new=[]
 |_=>e.ny=[]/\e.new=[]
def Q8:Cls->Bool
 |.heavy=>false
 |_=>true
theorem NC{o:List Nat}(l:dR true cls o h e=true)(r:Q8 cls=true) :
    e.cut=[]/\e.zK=[]/\present h e.new=[] /\
    Facts o e cls:=by
  cases cls with
  |heavy=>cases r
  |read=>simp only[dR,qBa,List.isEmpty_iff]at l;exact⟨l.1,l.2.1,l.2.2.2.2,λx p=>IZ l.2.2.1 x p,λx p=>YE l.2.2.2.1 x p⟩
  |own t=>simp only[dR,qBa,List.isEmpty_iff]at l;exact⟨l.1,l.2.1,by rw[l.2.2.2];rfl,λx p=>IZ l.2.2.1 x p,l.2.2.2⟩
  |store=>simp only[dR,qBa,List.isEmpty_iff]at l;exact⟨l.1,l.2.1,by rw[l.2.2];rfl,l.2.2⟩
  |pure=>simp only[dR,qBa,List.isEmpty_iff]at l;exact⟨l.1,l.2.1,by rw[l.2.2.2];rfl,l.2.2.1,l.2.2.2⟩
  |const=>simp only[dR,qBa,List.isEmpty_iff]at l;exact⟨l.1,l.2.1,by rw[l.2.2.2];rfl,l.2.2.1,l.2.2.2⟩
  |plain=>simp only[dR,qBa,List.isEmpty_iff]at l;exact⟨l.1,l.2.1,by rw[l.2.2.2.1];rfl,l.2.2.1,l.2.2.2.1⟩
theorem quiet_move{o:List Nat}{h':Heap}(l:dR true cls o h e=true)(hp:present h' e.new=[]):dR true cls o h' e=true:=by
 cases cls with
 |read=>grind[dR]
 |_=>exact l
theorem swap{hx S:List Nat}{st1 st2:St}(h1:step1 T C true hx all x st=some st1)(h2:step1 T C true S all o st1=some st2)(hcl:wY T all hx S x o=true)
    (s1:∀s∈fP all x,s∈S)(s2:∀s∈fP all o,s∈hx):∃Z Y,step1 T C true S all o st=some Z/\step1 T C true hx all x Z=some Y/\Same Y st2:=by
  obtain⟨F,x1,x2,x3,rfl⟩:=iC.1 h1;obtain⟨r,N,o2,J,rfl⟩:=iC.1 h2;unfold wY at hcl;simp only[qBa]at hcl;obtain⟨hap,hno,l⟩:=hcl;obtain⟨a1,a2,a3⟩:=YG hap;have hno:=Q5 hno;by_cases hcx:bf T all x=.const
  . -- the first one is constant
    obtain⟨⟨v,rfl,O⟩,hk⟩:=Q7 hcx x1;have G:st.apply x.dst {val:=v}=⟨setEnv st.env x.dst v,st.heap⟩:=gG rfl rfl rfl;rw[G]at N J ⊢;have z:zY T C all o st.env (jy S (look st.heap))=some r:=by rw[<-N];exact tC λt B=>(jF λe=>a1 t e B).symm
    refine⟨st.apply o.dst r,_,iC.2 ⟨r,z,o2,J,rfl⟩,iC.2 ⟨{val:=v},hk _ _ λg want t u hg hd R V=>?_,x2,by rw[hcx];rfl,rfl⟩,?_⟩
    .rw[jk];simp only;rw[jF λe=>a3 t e (guard_looks hg hd),Gx R,Gx R];exact V
    .rw[gG rfl rfl rfl,jk,jk];refine⟨?_,rfl⟩;simp only;rw[lN O,lN O];exact uX λd hd e=>a2 d e hd
  .by_cases U:bf T all o=.const
   . -- the second one is constant
     obtain⟨⟨v,rfl,O⟩,hk⟩:=Q7 U N;have z:zY T C all o st.env (jy S (look st.heap))=some {val:=v}:=by refine hk _ _ λg want t u hg hd R V=>?_;rw[jk]at V;simp only at V;rwa[jF λe=>a1 t e (guard_looks hg hd),Gx R,Gx R]at V
     have G:st.apply o.dst {val:=v}=⟨setEnv st.env o.dst v,st.heap⟩:=gG rfl rfl rfl;refine⟨st.apply o.dst {val:=v},st.apply o.dst {val:=v} |>.apply x.dst F,iC.2 ⟨{val:=v},z,o2,by rw[U];rfl,rfl⟩,iC.2 ⟨F,?_,x2,by rw[G];exact x3,rfl⟩,?_⟩
     .rw[G,<-x1];exact tC λt B=>jF λe=>a3 t e B
     .rw[G,gG (st:=st.apply x.dst F) rfl rfl rfl,jk,jk];refine⟨?_,rfl⟩;simp only;rw[lN O,lN O];exact(uX λd hd e=>a2 d hd e).symm
   .by_cases X:bf T all x=.plain
    . -- the first one is a calculation
      rw[X]at x3;obtain⟨⟨v,rfl,O⟩,hk⟩:=UF (h:=[]) X x1 x3;have G:st.apply x.dst {val:=v}=⟨setEnv st.env x.dst v,st.heap⟩:=gG rfl rfl rfl;rw[G]at N J ⊢;have z:zY T C all o st.env (jy S (look st.heap))=some r:=by rw[<-N];exact tC λt B=>(jF λe=>a1 t e B).symm
      refine⟨st.apply o.dst r,_,iC.2 ⟨r,z,o2,J,rfl⟩,iC.2 ⟨{val:=v},hk _ _ λt B u R V=>?_,x2,by rw[X];exact x3,rfl⟩,?_⟩
      .rw[jk];simp only;rw[jF λe=>a3 t e B,Gy R,Gy R];exact V
      .rw[gG rfl rfl rfl,jk,jk];refine⟨?_,rfl⟩;simp only;rw[lN O,lN O];exact uX λd hd e=>a2 d e hd
    .by_cases H:bf T all o=.plain
     . -- the second one is a calculation
       rw[H]at J;obtain⟨⟨v,rfl,O⟩,hk⟩:=UF (h:=[]) H N J;have z:zY T C all o st.env (jy S (look st.heap))=some {val:=v}:=by refine hk _ _ λt B u R V=>?_;rw[jk]at V;simp only at V;rwa[jF λe=>a1 t e B,Gy R,Gy R]at V
       have G:st.apply o.dst {val:=v}=⟨setEnv st.env o.dst v,st.heap⟩:=gG rfl rfl rfl;refine⟨st.apply o.dst {val:=v},st.apply o.dst {val:=v} |>.apply x.dst F,iC.2 ⟨{val:=v},z,o2,by rw[H];exact J,rfl⟩,iC.2 ⟨F,?_,x2,by rw[G];exact x3,rfl⟩,?_⟩
       .rw[G,<-x1];exact tC λt B=>jF λe=>a3 t e B
       .rw[G,gG (st:=st.apply x.dst F) rfl rfl rfl,jk,jk];refine⟨?_,rfl⟩;simp only;rw[lN O,lN O];exact(uX λd hd e=>a2 d hd e).symm
     . -- neither: both only write slots and lay blocks
       have cx:Q8 (bf T all x)=true:=by
        cases A:bf T all x<;>rw[A]at l<;>first |rfl |skip
        grind
       have co:Q8 (bf T all o)=true:=by
        cases p:bf T all o<;>rw[p]at l<;>first |rfl |skip
        grind
       obtain⟨p1,p2,p3,W⟩:=NC x3 cx;obtain⟨q1,q2,q3,I⟩:=NC J co;have G:=gG (d:=x.dst) p1 p2 p3;rw[G]at N J q3 ⊢;rw[gG q1 q2 q3];simp only at N J q3 ⊢;have facts:(bf T all o=.pure\/∀s∈keysOf F.ny,s∈S)/\(bf T all x=.pure\/∀s∈keysOf r.ny,s∈hx)/\(∀s∈keysOf F.ny,s ∉ keysOf r.ny)/\(∀s∈F.new,s ∉ keysOf r.ny):=by
        cases A:bf T all x with
        |const=>exact absurd A hcx
        |plain=>exact absurd A X
        |heavy=>rw[A]at cx;cases cx
        |pure=>rw[A]at W;simp[Facts,W.1,W.2,keysOf]
        |read=>
         rw[A]at W l;simp only[Facts]at W;cases p:bf T all o with
         |const=>exact absurd p U
         |plain=>exact absurd p H
         |heavy=>rw[p]at co;cases co
         |pure=>rw[p]at I;simp[Facts,I.1,keysOf]
         |read=>grind[Facts]
         |own t=>
          rw[p]at I l;simp only[Facts,qBa,qBb]at I l;have B:∀s∈keysOf r.ny,s∈hx/\s ∉ fP all x:=λs hs=>by have:=I.1 s hs;simp at this;subst this;exact⟨jJ.1 l.1,dY.1 l.2⟩
          grind
         |store=>rw[p]at l;simp at l
        |own t=>
         rw[A]at W l;simp only[Facts]at W;cases p:bf T all o with
         |const=>exact absurd p U
         |plain=>exact absurd p H
         |heavy=>rw[p]at co;cases co
         |pure=>rw[p]at I;simp[Facts,I.1,keysOf]
         |read=>
          rw[p]at I l;simp only[Facts,qBa,qBb]at I l;have B:∀s∈keysOf F.ny,s∈S/\s ∉ fP all o:=λs hs=>by have:=W.1 s hs;simp at this;subst this;exact⟨jJ.1 l.1,dY.1 l.2⟩
          grind
         |own t=>rw[p]at l;simp at l
         |store=>rw[p]at l;simp at l
        |store=>
         rw[A]at W l;simp only[Facts]at W;cases p:bf T all o with
         |const=>exact absurd p U
         |plain=>exact absurd p H
         |heavy=>rw[p]at co;cases co
         |pure=>rw[p]at I;simp[Facts,I.1,keysOf]
         |read=>rw[p]at l;simp at l
         |own t=>rw[p]at l;simp at l
         |store=>rw[p]at l;simp at l
       obtain⟨f1,f2,f3,f4⟩:=facts;have n1:present st.heap r.new=[]:=by grind[Aa,lF]
       have z:zY T C all o st.env (jy S (look st.heap))=some r:=by
        rw[tC λt B=>jF λe=>a1 t e B]at N;rcases f1 with f1 |f1
        .rw[<-N];exact UD f1
        .rwa[YF f1]at N
       have n2:present (eH st.heap r.ny) F.new=[]:=by rw[Aa]at p3 ⊢;intro s hs;rw[lF,uV (f4 s hs)];exact p3 s hs
       refine⟨⟨setEnv st.env o.dst r.val,eH st.heap r.ny⟩,⟨setEnv (setEnv st.env o.dst r.val) x.dst F.val,eH (eH st.heap r.ny) F.ny⟩,iC.2 ⟨r,z,o2,quiet_move J n1,(gG q1 q2 n1).symm⟩,iC.2 ⟨F,?_,x2,quiet_move x3 n2,(gG (st:=⟨setEnv st.env o.dst r.val,eH st.heap r.ny⟩) p1 p2 n2).symm⟩,?_⟩
       .simp only;rw[tC λt B=>jF λe=>a3 t e B];rcases f2 with f2 |f2
        .rw[<-x1];exact UD f2
        .rw[YF f2];exact x1
       .exact⟨(uX λd hd e=>a2 d hd e).symm,(YD (λs h1=>f3 s h1) st.heap).symm⟩
end
end
section
variable {i j:Nat}{o:Oper}
section
variable {T:Tab}{C:aB}{hd:List (List Nat)}{all:List Oper}
def J8(T:Tab)(C:aB)(hd:List (List Nat))(all:List Oper):List (Nat × Oper)->St->St->Prop
 |[],st,fin=>Same st fin
 |(j,o)::r,st,fin=>∃st1,step1 T C true (hd.getD j []) all o st=some st1/\J8 T C hd all r st1 fin
def num:Nat->List Oper->List (Nat × Oper)
 |_,[]=>[]
 |k,o::r=>(k,o)::num (k+1) r
theorem ND:∀{l:List (Nat × Oper)}{s t fin:St},Same s t->J8 T C hd all l s fin->J8 T C hd all l t fin
 |[],s,t,fin,h,h1=>h.symm.trans h1
 |(j,o)::r,s,t,fin,h,h1=>by obtain⟨z,h2,u⟩:=h1;obtain⟨p,h4,h5⟩:=YC h h2;exact⟨p,h4,ND h5 u⟩
theorem EZ{α:Type}{k:St->Option α}{x:α}:∀{l:List Oper}{j:Nat}{st:St},dD T C true hd all l j st k=some x->∃fin,J8 T C hd all (num j l) st fin/\k fin=some x
 |[],j,st,h=>⟨st,Same.refl st,h⟩
 |o::r,j,st,h=>by
  rw[oh _ _ rfl]at h;cases h1:step1 T C true (hd.getD j []) all o st with
  |none=>rw[h1]at h;cases h
  |some p=>rw[h1]at h;obtain⟨fin,h2,u⟩:=EZ (l:=r) (j:=j+1) (st:=p) h;exact⟨fin,⟨p,h1,h2⟩,u⟩
theorem front{i:Nat}{o:Oper}{R2:List (Nat × Oper)}:∀{R1:List (Nat × Oper)}{st fin:St},J8 T C hd all (R1 ++ (i,o)::R2) st fin ->
    (∀p∈R1,wY T all (hd.getD p.1 []) (hd.getD i []) p.2 o=true/\(∀s∈fP all p.2,s∈hd.getD i [])/\(∀s∈fP all o,s∈hd.getD p.1 [])) ->
    ∃l,step1 T C true (hd.getD i []) all o st=some l/\J8 T C hd all (R1++R2) l fin
  |[],st,fin,h,_=>h
  |(j,x)::R1,st,fin,h,hp=>by obtain⟨H,h1,h2⟩:=h;obtain⟨s2,B,h4⟩:=front (R1:=R1) h2 λp hp'=>hp p (by simp[hp']);obtain⟨c1,G,F⟩:=hp (j,x) σ;obtain⟨u,r,h5,A,z⟩:=swap h1 B c1 G F;exact⟨u,h5,r,A,ND z.symm h4⟩
def pR(listed:Array Bool)(l:List (Nat × Oper)):List (Nat × Oper):=l.filter λp=>!listed.getD p.1 true
theorem abK{listed:Array Bool}{i:Nat}:∀{l:List Oper}{k:Nat},i<k->pR (listed.setIfInBounds i true) (num k l)=pR listed (num k l)
 |[],_,_=>rfl
 |o::r,k,h=>by have h1:=abK (listed:=listed) (l:=r) (k:=k+1) (i:=i) ω;unfold pR at h1 ⊢;simp only[num,List.filter_cons,h1,getD_set_ne true (show i≠k by omega)]
theorem yI{listed:Array Bool}{i:Nat}{o:Oper}(hi:listed.getD i true=false):∀{l:List Oper}{k:Nat},k<=i->l[i-k]?=some o ->
    ∃R1 R2,pR listed (num k l)=R1++(i,o)::R2/\pR (listed.setIfInBounds i true) (num k l)=R1++R2/\∀p∈R1,k<=p.1/\p.1<i/\l[p.1-k]?=some p.2/\listed.getD p.1 true=false
  |[],k,_,h=>by simp at h
  |x::r,k,hk,h=>by
   by_cases B:k=i
   .subst B;simp at h;subst h;refine⟨[],pR listed (num (k+1) r),?_,?_,σ⟩
    .simp only[pR,num,List.filter_cons,hi];simp
    .have:=abK (listed:=listed) (l:=r) (k:=k+1) (i:=k) ω;have h2:(listed.setIfInBounds k true).getD k true=true:=by
      have A:k<listed.size:=by
       rcases Nat.lt_or_ge k listed.size with h' |h'
       .exact h'
       .simp[Array.getElem?_eq_none h']at hi
      simp[A]
     unfold pR at this ⊢;simp only[num,List.filter_cons,h2,this];simp
   .have h':r[i-(k+1)]?=some o:=by
      have:i-k=(i-(k+1))+1:=ω
      rw[this]at h;simpa using h
    obtain⟨R1,R2,G,F,N⟩:=yI hi (l:=r) (k:=k+1) ω h';have u:(listed.setIfInBounds i true).getD k true=listed.getD k true:=getD_set_ne true (Ne.symm B);have up:∀p∈R1,k<=p.1/\p.1<i/\(x::r)[p.1-k]?=some p.2/\listed.getD p.1 true=false:=λp hp=>by
     obtain⟨q1,J,I,H⟩:=N p hp;refine⟨ω,J,?_,H⟩;have:p.1-k=(p.1-(k+1))+1:=ω
     rw[this];simpa using I
    cases z:listed.getD k true with
    |true=>
     refine⟨R1,R2,?_,?_,up⟩
     .rw[<-G];simp only[pR,num,List.filter_cons,z];simp
     .rw[<-F];simp only[pR,num,List.filter_cons,u,z];simp
    |false=>
     refine⟨(k,x)::R1,R2,?_,?_,λp hp=>?_⟩
     .rw[List.cons_append,<-G];simp only[pR,num,List.filter_cons,z];simp
     .rw[List.cons_append,<-F];simp only[pR,num,List.filter_cons,u,z];simp
     .rcases List.mem_cons.1 hp with rfl |hp
      .exact⟨qNr _,by simp only;omega,σ,z⟩
      .exact up p hp
theorem I4{x:Nat}:∀{l acc:List Nat},x∈zU acc l↔x∈acc\/x∈l
 |[],acc=>by simp[zU]
 |y::r,acc=>by
  simp only[zU,I4 (l:=r),List.mem_cons];cases h:fB y acc with
  |true=>
   have:=jJ.1 h;simp only[qCt];constructor
   .rintro (h |h)<;>simp[h]
   .rintro (h |rfl |h)<;>simp[*]
  |false=>
   simp only[qCf,List.mem_cons];constructor
   .rintro ((h |h) |h)<;>simp[h]
   .rintro (h |h |h)<;>simp[h]
theorem UG{p:List (List Nat)}{x:Nat}:∀{l:List Edge}{acc:List Nat},x∈l.foldl (λacc e=>match e.ground with
    |.textOnly _=>acc
    |.gcOnly _=>acc
    |_=>zU (zU acc [e.on]) (p.getD e.on [])) acc->x∈acc\/∃e∈l,Region.binds .any e=true/\(x=e.on\/x∈p.getD e.on [])
  |[],acc,h=>.inl h
  |e::r,acc,h=>by
   simp only[List.foldl_cons]at h;rcases UG h with h |⟨A,h1,h2⟩
   .have z:(∀d,e.ground≠.textOnly d)->(∀d,e.ground≠.gcOnly d)->Region.binds .any e=true:=by intro F B;unfold Region.binds;cases u:e.ground<;>simp_all
    have sub:x∈zU (zU acc [e.on]) (p.getD e.on [])->x∈acc\/(x=e.on\/x∈p.getD e.on []):=by
     intro h;rw[I4,I4]at h;simp only[List.mem_singleton]at h;rcases h with (h |h) |h
     .exact .inl h
     .exact .inr (.inl h)
     .exact .inr (.inr h)
    cases u:e.ground with
    |textOnly d=>rw[u]at h;exact .inl h
    |gcOnly d=>rw[u]at h;exact .inl h
    |_=>
     rw[u]at h;rcases sub h with h |h
     .exact .inl h
     .exact .inr ⟨e,σ,z (by simp[u]) (by simp[u]),h⟩
   .exact .inr ⟨A,by simp[h1],h2⟩
theorem Hu:∀{l:List Oper}{acc:List (List Nat)},(∀n,n<acc.length->(bM l acc)[n]?=acc[n]?) /\
    ∀n o,l[n]?=some o->∃p,(bM l acc)[acc.length+n]?=some (Gj p o)/\∀m,p.getD m []=[]\/p.getD m []=(bM l acc).getD m []
  |[],acc=>⟨λn _=>rfl,λn o h=>by simp at h⟩
  |x::r,acc=>by
   obtain⟨h1,h2⟩:=Hu (l:=r) (acc:=acc++[Gj acc x]);have e:bM (x::r) acc=bM r (acc++[Gj acc x]):=rfl;rw[e];have pre:∀n,n<acc.length->(bM r (acc++[Gj acc x]))[n]?=acc[n]?:=λn u=>by rw[h1 n (by simp;omega),List.getElem?_append_left u]
   refine⟨pre,λn o u=>?_⟩;cases n with
   |zero=>
    simp at u;subst u;refine⟨acc,?_,λm=>?_⟩
    .rw[Nat.add_zero,h1 acc.length σ];simp
    .by_cases z:m<acc.length
     .right;rw[qLb,qLb,pre m z]
     .left;rw[qLb,List.getElem?_eq_none ω];rfl
   |succ n=>simp at u;obtain⟨p,A,h4⟩:=h2 n o u;refine⟨p,?_,h4⟩;rw[<-A];congr 1;simp only[qLp,List.length_singleton];omega
theorem OH{x:Nat}(u:all[i]?=some o)(p:x∈(bM all []).getD i []):∃e∈o.after,Region.binds .any e=true/\(x=e.on\/x∈(bM all []).getD e.on []):=by obtain⟨_,h⟩:=Hu (l:=all) (acc:=[]);obtain⟨r,h1,h2⟩:=h i o u;simp only[List.length_nil,qNz]at h1;rw[qLb,h1]at p;simp only[Option.getD_some]at p;unfold Gj at p;rcases UG p with z |⟨e,z,h4,h5⟩;all_goals grind
theorem qj{tab:List (List Nat)}:∀{l:List Oper}{k:Nat},zV T all tab hd k l=true->∀n o,l[n]?=some o->Gl (k+n) o=true/\Qk T all hd (tab.getD (k+n) []) (k+n) o 0 all=true
 |[],k,_,n,o,h=>by simp at h
 |x::r,k,h,n,o,ho=>by
  simp only[zV,qBa]at h;cases n with
  |zero=>simp at ho;subst ho;exact⟨h.1.1,h.1.2⟩
  |succ n=>simp at ho;have:=qj h.2 n o ho;rw[show k+1+n=k+(n+1) from ω]at this;exact this
theorem Q9{z:List Nat}{j:Nat}{o:Oper}:∀{l:List Oper}{k:Nat},Qk T all hd z j o k l=true->∀n x,l[n]?=some x->k+n<j->k+n ∉ z->wY T all (hd.getD (k+n) []) (hd.getD j []) x o=true
 |[],k,_,n,x,h=>by simp at h
 |y::r,k,h,n,x,hx=>by
  intro p hp;have u:Nat.ble j k=false:=by
   cases A:Nat.ble j k with
   |false=>rfl
   |true=>have:=Nat.le_of_ble_eq_true A;omega
  simp only[Qk,u,qCf,qBa]at h;cases n with
  |zero=>simp at hx;subst hx;have h1:=h.1;rw[dY.2 (by simpa using hp)]at h1;simpa using h1
  |succ n=>
   simp at hx;have e:k+(n+1)=k+1+n:=ω
   rw[e]at p hp ⊢;exact Q9 h.2 n x hx p hp
theorem J9(h:Gl j o=true){e:Edge}(l:e∈o.after)(p:Region.binds .any e=true):e.on<j:=by unfold Gl at h;have:=List.all_eq_true.1 h e (by simpa using l);unfold Region.binds at p;split at this;all_goals simp_all
theorem Ad{all:List Oper}{tab:List (List Nat)}{j s:Nat}{x:Oper}:∀{l:List Oper}{k n:Nat},l[n]?=some x->k+n≠j->k+n ∉ tab.getD j []->j ∉ tab.getD (k+n) []->s∈fP all x->s∈wZ T all tab j k l
 |[],k,n,h=>by simp at h
 |y::r,k,n,h=>by
  intro h1 h2 p h4;simp only[wZ];cases n with
  |zero=>
   simp at h;subst h;have:(k==j||fB k (tab.getD j [])||fB j (tab.getD k []))=false:=by
    have u:(k==j)=false:=by simpa using h1
    rw[u,dY.2 (by simpa using h2),dY.2 (by simpa using p)];rfl
   rw[this];simp[h4]
  |succ n=>
   simp at h;have e:k+(n+1)=k+1+n:=ω
   rw[e]at h1 h2 p;have:=Ad (k:=k+1) h h1 h2 p h4;cases (k==j||fB k (tab.getD j [])||fB j (tab.getD k []))<;>simp[this]
theorem NG:∀{a b:List (List Nat)},nT a b=true->a=b
 |[],[],_=>rfl
 |x::xs,y::ys,h=>by simp only[nT,qBa,beq_iff_eq]at h;rw[h.1,NG h.2]
 |[],_::_,h=>by simp[nT]at h
 |_::_,[],h=>by simp[nT]at h
section
variable (hok:zV T all (bM all []) hd 0 all=true)
include hok
theorem pred_lt:∀{i x:Nat}{o:Oper},all[i]?=some o->x∈(bM all []).getD i []->x<i:=by
 intro i;induction i using Nat.strongRecOn with
 |_ i z=>intro x o l r;obtain⟨e,h1,h2,A⟩:=OH l r;have p:=(qj hok i o l).1;rw[qNz]at p;have u:=J9 p h1 h2;grind
theorem open_pair(B:nT hd (Df T all)=true){x:Oper}(hi:all[i]?=some o)(r:all[j]?=some x)(F:j<i)(hp:j ∉ (bM all []).getD i []) :
    wY T all (hd.getD j []) (hd.getD i []) x o=true/\(∀s∈fP all x,s∈hd.getD i [])/\(∀s∈fP all o,s∈hd.getD j []):=by
  have G:=NG B;have l:∀n,n<all.length->hd.getD n []=wZ T all (bM all []) n 0 all:=by grind[Df]
  have A:=(qLa.1 hi).1;have z:=(qLa.1 r).1;have p:i ∉ (bM all []).getD j []:=λh=>by have:=pred_lt hok r h;omega
  refine⟨?_,λs u=>?_,λs u=>?_⟩
  .have:=Q9 (qj hok i o hi).2 j x r ω (by simpa using hp);grind
  .rw[l i A];exact Ad (k:=0) (n:=j) r ω (by simpa using hp) (by simpa using p) u
  .rw[l j z];exact Ad (k:=0) (n:=i) hi ω (by simpa using p) (by simpa using hp) u
end
end
end
section
variable {ops:Array Oper}{hd:List (List Nat)}{Q:Exit->Act->World->Prop}{fin:St}{rd:Option Nat}{id j jc n:Nat}{α:Type}
section
variable {P:Program}{T:Tab}{C:aB}{cx:Cx}{st st':St}{a:Act}{w:World}
theorem Inv.same(i:Inv cx st a w)(h:Same st st'):Inv cx st' a w:=by
 obtain⟨M,β,L,ds,r,B,A,i3,G⟩:=i;have z:=r.congr (hp:=st'.heap) λs=>by rw[h.2]
 have e:({st with heap:=st'.heap}:St)=st':=by cases st;cases st';simp only[St.mk.injEq,and_true];exact h.1
 rw[e]at z;refine⟨M,β,L,ds,z,B,λs l b u=>A s l b ?_,i3,G.less (λp hp=>rfl) λb F=>?_⟩
 .rw[h.2];exact u
 .obtain⟨s,o,l,u⟩:=F;exact⟨s,o,by rw[h.2];exact l,u⟩
theorem Inv.drew(i:Inv cx st a w):Inv cx st a {w with drawn:=w.drawn+1}:=by obtain⟨M,β,L,ds,r,u,l,i3,z⟩:=i;exact⟨M,β,L,ds,r.world (w':={w with drawn:=w.drawn+1}) (qNr _) rfl rfl rfl (λ_ _ _=>rfl) (λb n _ _ _ h=>h) (λb h=>h) (λb h=>.inl h),u,l,i3.trans λ_=>Nat.le_succ _,z.less (λp hp=>rfl) λ_ h=>h⟩
theorem Ko{β:Nat->Option (Nat × Nat)}{ss:List Nat}{b:Nat}(h:lM β (st.strike ss).heap b):lM β st.heap b:=by obtain⟨s,o,p,l⟩:=h;refine⟨s,o,?_,l⟩;grind[bY]
theorem Inv.strike(i:Inv cx st a w)(ss:List Nat):Inv cx (st.strike ss) a w:=by obtain⟨M,β,L,ds,r,u,l,i3,A⟩:=i;exact⟨M,β,L,ds,r.strike ss (λb h=>h) λb h=>.inl h,u,l.trans (zi st ss),i3,A.less (λp hp=>rfl) λ_ z=>Ko z⟩
theorem abL(ok:bJ P T)(hC:dS P T cx.w0.gl C)(hok:zV T ops.toList (bM ops.toList []) hd 0 ops.toList=true)(S:nT hd (Df T ops.toList)=true)
    (hQ:∀a w,Inv cx fin a w->Q .normal a w)(O:∀o∈ops.toList,zn cx o):
    ∀(u:Nat) (listed:Array Bool) (st:St) (a:Act) (w:World),u=(pR listed (num 0 ops.toList)).length ->
     (∀q,listed.getD q false=true->∀p∈(bM ops.toList []).getD q [],listed.getD p false=true)->listed.size=ops.size ->
     J8 T C hd ops.toList (pR listed (num 0 ops.toList)) st fin->Inv cx st a w->wpAnyIn (FW rd) n P .any ops Q u listed a w:=by
  intro u;induction u with
  |zero=>intro listed st a w I J A B i;have h0:pR listed (num 0 ops.toList)=[]:=List.length_eq_zero_iff.1 I.symm;rw[h0]at B;refine⟨?_,hQ a w (i.same B)⟩;rw[List.eq_nil_iff_forall_not_mem];intro j R;obtain⟨h1,o,h2,_⟩:=mem_ready.1 R;obtain⟨R1,R2,g1,_⟩:=yI h1 (l:=ops.toList) (k:=0) (o:=o) ω (by simpa using h2);grind
  |succ u ih=>
   intro listed st a w I J A B i;refine⟨λZ=>?_,λj R=>?_⟩
   . -- the first that is not listed is ready
     exfalso;cases hL:pR listed (num 0 ops.toList)with
     |nil=>rw[hL]at I;simp at I
     |cons p r=>
      have U:∃n,n<ops.size/\listed.getD n true=false:=by
       have hp:p∈pR listed (num 0 ops.toList):=by rw[hL];simp
       grind[pR]
      have G:∃n,(n<ops.size/\listed.getD n true=false)/\∀m,m<n->¬(m<ops.size/\listed.getD m true=false):=by
       obtain⟨n,hn⟩:=U;induction n using Nat.strongRecOn with
       |_ n ihn=>grind
      obtain⟨n,⟨h1,h2⟩,h3⟩:=G;have:n∈Region.ready .any ops listed:=by rw[mem_ready];refine⟨h2,ops[n],σ,λe he hb=>?_⟩;have hlt:=J9 (qj hok n ops[n] σ).1 he hb;grind
      grind
   .obtain⟨h1,o,h2,h3⟩:=mem_ready.1 R;have z:ops.toList[j]?=some o:=by simpa using h2
    obtain⟨R1,R2,g1,g2,g3⟩:=yI h1 (l:=ops.toList) (k:=0) (o:=o) ω (by simpa using h2);have F:∀p∈(bM ops.toList []).getD j [],listed.getD p false=true:=by intro p hp;obtain⟨e,q1,W,V⟩:=OH z hp;grind
    rw[g1]at B I;obtain⟨N,k1,k2⟩:=front B λp hp=>by obtain⟨q1,W,V,q4⟩:=g3 p hp;refine open_pair hok S z (by simpa using V) W λhm=>?_;grind
    have X:=ahu ok hC rfl (O o (qLe z)) i k1 (rd:=rd) (n:=n) (K:=wpAnyIn (FW rd) n P .any ops Q u (listed.setIfInBounds j true)) (λa' w' i'=>ih (listed.setIfInBounds j true) N a' w' (by
     grind) (λq Y p hp=>by
     by_cases H:j=q
     .subst H;exact getD_set_true (F p hp)
     .rw[getD_set_ne false H]at Y;exact getD_set_true (J q Y p hp)) (by simpa using A) (by rw[g2];exact k2) i') (Q:=Q)
    unfold wpOpIn;rw[h2];simp only;split
    .grind
    .rename_i O;rw[if_neg O]at X;exact⟨λ_ _=>trivial,X⟩
theorem Kq{l:List Nat}:∀{n m:Nat},JM l n=true->m<n->m∈l
 |0,m,_,h=>ω
 |n+1,m,ha,h=>by
  simp only[JM,qBa]at ha;by_cases e:m=n
  .subst e;exact jJ.1 ha.1
  .exact Kq ha.2 ω
theorem LX{tab:List (List Nat)}{j:Nat}:∀{l:List Oper}{k n:Nat}{o:Oper},oP tab j k l=true->l[n]?=some o->j<=k+n->∀m,m<k+n->m∈tab.getD (k+n) []
 |[],k,n,o,_,h=>by simp at h
 |x::r,k,0,o,hc,h=>by
  intro u m p;simp only[oP,qBa,Bool.or_eq_true]at hc;rcases hc.1 with h1 |h1
  .have:k<j:=by simpa[Nat.blt_eq] using h1
   omega
  .exact Kq h1 p
 |x::r,k,n+1,o,hc,h=>by intro u m p;simp only[oP,qBa]at hc;simp at h;have:=LX (n:=n) hc.2 h ω m ω;rw[show k+1+n=k+(n+1) from ω]at this;exact this
theorem aaj(hok:zV T ops.toList (bM ops.toList []) hd 0 ops.toList=true)(V:oP (bM ops.toList []) j 0 ops.toList=true){F:Fence}:
    ∀(l:List Oper) (i:Nat) (listed:Array Bool) (a:Act) (w:World),j<=i->ops.toList.drop i=l->listed.size=ops.size->(∀q,q<ops.size->listed.getD q false=decide (q<i))->wpListIn F n P ops Q l a w->wpAnyIn F n P .any ops Q l.length listed a w:=by
  have Z:∀(listed:Array Bool) (q:Nat),q<listed.size->listed.getD q true=listed.getD q false:=λlisted q h=>by simp[h]
  intro l;induction l with
  |nil=>intro i listed a w R z A p h;refine⟨?_,h⟩;rw[List.eq_nil_iff_forall_not_mem];intro q O;obtain⟨h1,o,h2,_⟩:=mem_ready.1 O;have G:q<ops.size:=(qAa.1 h2).1;rw[Z listed q ω,p q G]at h1;have:ops.toList.length<=i:=List.drop_eq_nil_iff.1 z;grind
  |cons o r ih=>
   intro i listed a w R z A p h;have hi:ops.toList[i]?=some o:=by
    have:(ops.toList.drop i)[0]?=some o:=by rw[z];rfl
    grind
   have hr:ops.toList.drop (i+1)=r:=by rw[<-List.drop_drop,z];rfl
   have u:ops[i]?=some o:=by simpa using hi
   have S:i<ops.size:=(qAa.1 u).1;have B:i∈Region.ready .any ops listed:=by rw[mem_ready];refine⟨by rw[Z listed i ω,p i S];simp,o,u,λe H hb=>?_⟩;have G:=J9 (qj hok i o hi).1 H hb;grind
   refine⟨λh0=>by rw[h0]at B;simp at B,λq O=>?_⟩;obtain⟨h1,Y,h2,h3⟩:=mem_ready.1 O;have hql:q<ops.size:=(qAa.1 h2).1;have hqi:i<=q:=θ
   have N:q=i:=by
    by_cases e:q=i
    .exact e
    .exfalso;have hm:i∈(bM ops.toList []).getD q []:=by have:=LX (k:=0) (n:=q) (o:=Y) V (by simpa using h2) ω i ω;grind
     obtain⟨I,q1,X,J⟩:=OH (by simpa using h2) hm;have H:=h3 I q1 X;have U:=J9 (qj hok q Y (by simpa using h2)).1 q1 X;rw[qNz]at U;rw[p I.on ω]at H;have H:I.on<i:=by simpa using H
     rcases J with J |J
     .omega
     .have:=pred_lt hok (i:=I.on) (x:=i) (o:=ops.toList[I.on]'(by simp;omega)) σ J;omega
   subst N;rw[u]at h2;cases h2;unfold wpListIn at h;unfold wpOpIn;rw[u];simp only;have W:∀k,k<ops.size->(listed.setIfInBounds q true).getD k false=decide (k<q+1):=λk hk=>by
    by_cases e:q=k
    .simp_all
    .rw[getD_set_ne false e,p k hk];grind
   have next:∀a w,wpListIn F n P ops Q r a w->wpAnyIn F n P .any ops Q r.length (listed.setIfInBounds q true) a w:=λa w h=>ih (q+1) (listed.setIfInBounds q true) a w ω hr (by simpa using A) W h
   split
   .rename_i hw;rw[if_pos hw]at h;exact Oper.wpIn_mono next h
   grind
theorem UH{p:Nat × Oper}:∀{l:List Oper}{k:Nat},p∈num k l->k<=p.1/\p.1<k+l.length
 |[],k,h=>by simp[num]at h
 |o::r,k,h=>by
  simp only[num,List.mem_cons]at h;rcases h with rfl |h
  .simp
  .have:=UH h;simp only[qLl];omega
theorem afK(ok:bJ P T)(hC:dS P T cx.w0.gl C)(hok:zV T ops.toList (bM ops.toList []) hd 0 ops.toList=true)(hhd:nT hd (Df T ops.toList)=true)
    (hjc:jc<=ops.size)(S:oP (bM ops.toList []) jc 0 ops.toList=true) 
    (hQ:∀a w,Inv cx fin a w->wpListIn (FW rd) n P ops Q (ops.toList.drop jc) a w)(hw:∀o∈ops.toList,zn cx o) :
    ∀(u:Nat) (listed:Array Bool) (st:St) (a:Act) (w:World),u=(pR listed (num 0 (ops.toList.take jc))).length->(∀q,jc<=q->q<ops.size->listed.getD q false=false) ->
     (∀q,listed.getD q false=true->∀p∈(bM ops.toList []).getD q [],listed.getD p false=true)->listed.size=ops.size ->
     J8 T C hd ops.toList (pR listed (num 0 (ops.toList.take jc))) st fin->Inv cx st a w->wpAnyIn (FW rd) n P .any ops Q (u+(ops.size-jc)) listed a w:=by
  intro u;induction u with
  |zero=>
   intro listed st a w B F R A G i;have h0:pR listed (num 0 (ops.toList.take jc))=[]:=List.length_eq_zero_iff.1 B.symm;rw[h0]at G;have hls:∀q,q<ops.size->listed.getD q false=decide (q<jc):=λq U=>by
    by_cases e:q<jc
    .have J:q<listed.size:=ω
     cases V:listed.getD q false with
     |true=>simp[e]
     |false=>
      exfalso;have h1:listed.getD q true=false:=by simpa[J] using V
      obtain⟨R1,R2,g1,_⟩:=yI h1 (l:=ops.toList.take jc) (k:=0) (o:=ops.toList[q]'(by simpa using U)) ω θ;grind
    grind
   have N:(ops.toList.drop jc).length=ops.size-jc:=σ
   rw[qNz,<-N];exact aaj hok S (ops.toList.drop jc) jc listed a w (qNr _) rfl A hls (hQ a w (i.same G))
  |succ u ih=>
   intro listed st a w B F R A G i;rw[show u+1+(ops.size-jc)=(u+(ops.size-jc))+1 from ω];refine⟨λhnil=>?_,λj hj=>?_⟩
   . -- the first that is not listed is ready
     exfalso;cases W:pR listed (num 0 (ops.toList.take jc))with
     |nil=>rw[W]at B;simp at B
     |cons p r=>
      have hex:∃n,n<ops.size/\listed.getD n true=false:=by
       have hp:p∈pR listed (num 0 (ops.toList.take jc)):=by rw[W];simp
       grind[pR]
      have I:∃n,(n<ops.size/\listed.getD n true=false)/\∀m,m<n->¬(m<ops.size/\listed.getD m true=false):=by
       obtain⟨n,hn⟩:=hex;induction n using Nat.strongRecOn with
       |_ n Z=>
        by_cases hm:∃m,m<n/\(m<ops.size/\listed.getD m true=false)
        .obtain⟨m,h1,h2⟩:=hm;exact Z m h1 h2
        grind
      obtain⟨n,⟨h1,h2⟩,h3⟩:=I;have:n∈Region.ready .any ops listed:=by rw[mem_ready];refine⟨h2,ops[n],σ,λe he V=>?_⟩;have J:=J9 (qj hok n ops[n] σ).1 he V;grind
      grind
   .obtain⟨h1,o,h2,h3⟩:=mem_ready.1 hj;have z:ops.toList[j]?=some o:=by simpa using h2
    have hjl:j<ops.size:=(qAa.1 h2).1;have hpre0:∀p∈(bM ops.toList []).getD j [],listed.getD p false=true:=by intro p hp;obtain⟨e,q1,q2,q3⟩:=OH z hp;grind
    have hjj:j<jc:=by
     by_cases e:j<jc
     .exact e
     .exfalso;have hp0:∃p,p∈pR listed (num 0 (ops.toList.take jc)):=by
       cases W:pR listed (num 0 (ops.toList.take jc))with
       |nil=>rw[W]at B;simp at B
       |cons p r=>exact⟨p,σ⟩
      obtain⟨p,hp⟩:=hp0;unfold pR at hp;rw[List.mem_filter]at hp;have V:=UH hp.1;have hpl:p.1<jc:=θ
      have h1:listed.getD p.1 true=false:=by simpa using hp.2
      have hm:p.1∈(bM ops.toList []).getD j []:=by have:=LX (k:=0) (n:=j) (o:=o) S z ω p.1 ω;grind
      grind
    obtain⟨R1,R2,g1,g2,g3⟩:=yI h1 (l:=ops.toList.take jc) (k:=0) (o:=o) ω (by rw[Nat.sub_zero,List.getElem?_take_of_lt hjj];exact z);have H:∀p∈(bM ops.toList []).getD j [],listed.getD p false=true:=ω
    rw[g1]at G B;obtain⟨X,k1,k2⟩:=front G λp hp=>by
     obtain⟨q1,q2,q3,q4⟩:=g3 p hp;have Y:ops.toList[p.1]?=some p.2:=θ
     refine open_pair hok hhd z Y q2 λhm=>?_;grind
    have hs:=ahu ok hC rfl (hw o (qLe z)) i k1 (rd:=rd) (n:=n) (K:=wpAnyIn (FW rd) n P .any ops Q (u+(ops.size-jc)) (listed.setIfInBounds j true)) (λa' w' i'=>ih (listed.setIfInBounds j true) X a' w' (by
     grind) (λq hq1 hq2=>by
     rw[getD_set_ne false (show j≠q by omega)];exact F q hq1 hq2) (λq U p hp=>by
     by_cases O:j=q
     .subst O;exact getD_set_true (H p hp)
     .rw[getD_set_ne false O]at U;exact getD_set_true (R q U p hp)) (by simpa using A) (by rw[g2];exact k2) i') (Q:=Q)
    unfold wpOpIn;rw[h2];simp only;split
    .grind
    .rename_i hw;rw[if_neg hw]at hs;exact⟨λ_ _=>trivial,hs⟩
theorem Dn:∀(l:List Oper) (k:Nat),(num k l).length=l.length
 |[],_=>rfl
 |o::r,k=>by simp[num,Dn r]
theorem Gz{n:Nat}:∀{l:List Oper}{k:Nat},k+l.length<=n->pR (Array.replicate n false) (num k l)=num k l
 |[],_,_=>rfl
 |o::r,k,h=>by
  simp only[qLl]at h;have:=Gz (n:=n) (l:=r) (k:=k+1) ω;unfold pR at this ⊢;have p:(Array.replicate n false).getD k true=false:=by
   have:k<n:=ω
   simp[this]
  simp only[num,List.filter_cons,p,this];simp
theorem YH(ok:bJ P T)(B:dS P T cx.w0.gl C)(hok:zV T ops.toList (bM ops.toList []) hd 0 ops.toList=true)(l:nT hd (Df T ops.toList)=true)
    {k:St->Option α}{x:α}(r:dD T C true hd ops.toList ops.toList 0 st k=some x)(p:∀o∈ops.toList,zn cx o)(i:Inv cx st a w)
    (A:∀st' a' w',k st'=some x->Inv cx st' a' w'->Q .normal a' w'):(Code.region id ops true).wpIn (FW rd) n P Q a w:=by
  obtain⟨fin,h1,h2⟩:=EZ r;have e:pR (Array.replicate ops.size false) (num 0 ops.toList)=num 0 ops.toList:=Gz σ;refine wpIn_region_any ok.mixed (abL ok B hok l (λa w i=>A fin a w h2 i) p ops.size (Array.replicate ops.size false) st a _ ?_ ?_ σ (by rw[e];exact h1) i.drew)
  .grind[Dn]
  .intro q u;by_cases z:q<ops.size<;>simp[z]at u
theorem abM(ok:bJ P T)(I:dS P T cx.w0.gl C)(hok:zV T ops.toList (bM ops.toList []) hd 0 ops.toList=true)(z:nT hd (Df T ops.toList)=true)
    (F:oP (bM ops.toList []) jc 0 ops.toList=true){k:St->Option α}{x:α}(J:dD T C true hd ops.toList (ops.toList.take jc) 0 st k=some x)(G:∀o∈ops.toList,zn cx o)(i:Inv cx st a w)
    (H:∀st' a' w',k st'=some x->Inv cx st' a' w'->(∃l,J8 T C hd ops.toList l st st')->wpListIn (FW rd) n P ops Q (ops.toList.drop jc) a' w'):(Code.region id ops true).wpIn (FW rd) n P Q a w:=by
  obtain⟨fin,h1,h2⟩:=EZ J;by_cases B:jc<=ops.size
  .have e:pR (Array.replicate ops.size false) (num 0 (ops.toList.take jc))=num 0 (ops.toList.take jc):=Gz (by simp;omega);have u:(num 0 (ops.toList.take jc)).length=jc:=by rw[Dn];simp;omega
   have p:=afK ok I hok z B F (rd:=rd) (n:=n) (Q:=Q) (λa w i=>H fin a w h2 i ⟨_,h1⟩) G jc (Array.replicate ops.size false) st a {w with drawn:=w.drawn+1} (by rw[e,u]) (λq _ r=>by simp[r]) (by intro q r;by_cases A:q<ops.size<;>simp[A]at r) σ (by rw[e];exact h1) i.drew;rw[show jc+(ops.size-jc)=ops.size from ω]at p;exact wpIn_region_any ok.mixed p
  .have N:ops.toList.take jc=ops.toList:=List.take_of_length_le (by simp;omega);have O:ops.toList.drop jc=[]:=List.drop_eq_nil_iff.2 (by simp;omega);have e:pR (Array.replicate ops.size false) (num 0 ops.toList)=num 0 ops.toList:=Gz σ;rw[N]at h1;refine wpIn_region_any ok.mixed (abL ok I hok z (λa w i=>by have:=H fin a w h2 i ⟨_,h1⟩;rw[O]at this;exact this) G ops.size (Array.replicate ops.size false) st a _ ?_ ?_ σ (by rw[e];exact h1) i.drew)
   .grind[Dn]
   .intro q r;by_cases A:q<ops.size<;>simp[A]at r
theorem Rf{ys:List Nat}{ops:List Oper}(h:ZO ys ops=some j):oP (bM ops []) j 0 ops=true:=by unfold ZO at h;grind
theorem YI(ok:bJ P T)(z:dS P T cx.w0.gl C)(r:zl cx.hp0){k:St->Option α}{x:α}(p:dD T C false hd ops.toList ops.toList 0 st k=some x)
    (l:∀o∈ops.toList,zn cx o)(i:Inv cx st a w)
    (u:∀st' a' w',k st'=some x->Inv cx st' a' w'->Q .normal a' w'):(Code.region id ops false).wpIn (FW rd) n P Q a w:=
  wpIn_region_list (QY ok z r u ops.toList 0 st a w l p i)
end
end
section
variable {d s:Nat}
theorem uY(s d:Nat):∀(l:List AV) (i:Nat),(AV.GU s d l)[i]?=(l[i]?).map (AV.ren s d)
 |[],i=>by simp[AV.GU]
 |v::r,0=>by simp[AV.GU]
 |v::r,i+1=>by simp[AV.GU,uY s d r i]
theorem jV(s d:Nat):∀(l:List AV),(AV.GU s d l).length=l.length
 |[]=>rfl
 |v::r=>by simp[AV.GU,jV s d r]
theorem Kr(s d:Nat)(v:AV):(AV.ren s d v).leaf=v.leaf:=by cases v<;>simp[AV.ren,AV.leaf]
theorem OI{x:Nat}(h:x≠s):zL s d x=x:=by
 have:(x==s)=false:=by simpa using h
 simp[zL,this]
theorem rH{s d:Nat}(z:s≠d)(x:Nat):∀{hp:Heap},look hp d=none->look (pX s d hp) x=if x=d then(look hp s).map (aH.ren s d)else if x=s then none else(look hp x).map (aH.ren s d)
 |[],_=>by simp[pX,look]
 |(k,b)::r,h=>by
  have H:k≠d:=by rintro rfl;simp[look]at h
  have A:(k==d)=false:=by simpa using H
  have I:look r d=none:=by simpa[look,A] using h
  have G:=rH z x I;simp only[pX,look];by_cases p:k=s
  .subst p;have F:zL k d k=d:=by simp[zL]
   rw[F];by_cases u:x=d
   .subst u;simp
   .have B:(d==x)=false:=by simpa using λe=>u e.symm
    rw[B,if_neg u];simp only[qCf];rw[G,if_neg u];by_cases l:x=k
    .rw[if_pos l,if_pos l]
    .rw[if_neg l,if_neg l];have e3:(k==x)=false:=by simpa using λe=>l e.symm
     rw[e3];rfl
  .have F:zL s d k=k:=OI p;rw[F];by_cases u:x=k
   .subst u;simp[H,p]
   .have B:(k==x)=false:=by simpa using λe=>u e.symm
    rw[B];simp only[qCf];rw[G];have e3:(k==s)=false:=by simpa using p
    rw[e3];rfl
theorem AR.renamed{w:World}{M:Nat->Prop}{β β':Nat->Option (Nat × Nat)}{h h':Nat->Option aH}(u:∀x blk,h x=some blk->h' (zL s d x)=some (blk.ren s d)/\β' (zL s d x)=β x)
    {v:AV}{c:Value}(G:AR w M β h v c):AR w M β' h' (v.ren s d) c:=by
  induction G with
  |undef c=>exact .undef c
  |p v c G=>exact .p v c G
  |slice x off len a ks xs b o cap h1 B A z J=>exact .slice _ off len a ks xs b o cap (u x _ h1).1 B ((u x _ h1).2.trans A) z J
  |sliceE x off a ks xs base h1 B=>exact .sliceE _ off a ks xs base (u x _ h1).1 B
  |bslice x off len cs b o cap h1 B A z=>exact .bslice _ off len (AV.GU s d cs) b o cap (u x _ h1).1 (by rw[jV];exact B) ((u x _ h1).2.trans A) z
  |bsliceE x off cs base h1 B=>exact .bsliceE _ off (AV.GU s d cs) base (u x _ h1).1 (by rw[jV];exact B)
  |ptrB x off cs b o h1 A=>exact .ptrB _ off (AV.GU s d cs) b o (u x _ h1).1 ((u x _ h1).2.trans A)
  |ptrA x I off a ks xs b o h1 hi A=>exact .ptrA _ I off a ks xs b o (u x _ h1).1 hi ((u x _ h1).2.trans A)
  |pF a ks x off b o f O r N G=>exact .pF a ks x off b o f O r N G
  |fn f cs vs H _ F=>
   refine .fn f _ vs (by rw[jV];exact H) λi c hi=>?_;rw[uY]at hi;cases r:cs[i]? with
   |none=>rw[r]at hi;cases hi
   |some x=>rw[r]at hi;cases hi;exact F i x r
  |agg cs vs H B _ F=>
   refine .agg _ vs (by rw[jV];exact H) (λc N=>?_) λi c hi=>?_
   .obtain⟨i,hi⟩:=List.mem_iff_getElem?.1 N;rw[uY]at hi;cases r:cs[i]? with
    |none=>rw[r]at hi;cases hi
    |some x=>rw[r]at hi;cases hi;rw[Kr];exact B x (qLe r)
   .rw[uY]at hi;cases r:cs[i]? with
    |none=>rw[r]at hi;cases hi
    |some x=>rw[r]at hi;cases hi;exact F i x r
  |o7 cs vs H _ F=>
   refine .o7 _ vs (by rw[jV];exact H) λi c hi=>?_;rw[uY]at hi;cases r:cs[i]? with
   |none=>rw[r]at hi;cases hi
   |some x=>rw[r]at hi;cases hi;exact F i x r
  |AB l=>exact .AB l
  |ptrT x off t c0 c1 b h1 A=>exact .ptrT _ off t (c0.ren s d) (c1.ren s d) b (u x _ h1).1 ((u x _ h1).2.trans A)
  |Iy x t es b o h1 A=>exact .Iy _ t es b o (u x _ h1).1 ((u x _ h1).2.trans A)
  |Iz x e xs b cap h1 A z R J=>exact .Iz _ e xs b cap (u x _ h1).1 ((u x _ h1).2.trans A) z R J
  |yB x e h1=>exact .yB _ e (u x _ h1).1
section
variable {P:Program}{T:Tab}{w0:Base}{Pr M0 M:Nat->Prop}{β UC:Nat->Option (Nat × Nat)}{hp0:Heap}{st st':St}{a:Act}{w:World}
theorem Rel.rename(r:Rel w0 Pr M0 M β st a w)(hne:s≠d)(hd:look st.heap d=none)(hs:s<ah) :
    Rel w0 Pr M0 M (λx=>if x=d then β s else β x) {env:=AV.GU s d st.env,heap:=pX s d st.heap} a w:=by
  have R:=λx=>rH (s:=s) (d:=d) hne x hd;have hh:∀x blk,look st.heap x=some blk->look (pX s d st.heap) (zL s d x)=some (blk.ren s d)/\(if zL s d x=d then β s else β (zL s d x))=β x:=by
   intro x blk l;have p:x≠d:=by rintro rfl;rw[hd]at l;cases l
   by_cases z:x=s
   .subst z;have e:zL x d x=d:=by simp[zL]
    rw[e,R,if_pos rfl,l];exact⟨rfl,σ⟩
   .have e:zL s d x=x:=OI z;rw[e,R,if_neg p,if_neg z,l];exact⟨rfl,by simp[p]⟩
  have key:∀{v:AV}{c:Value},AR w M β (look st.heap) v c->AR w M (λx=>if x=d then β s else β x) (look (pX s d st.heap)) (v.ren s d) c:=λh=>h.renamed hh;have from_:∀x blk',look (pX s d st.heap) x=some blk'->∃y blk,look st.heap y=some blk/\blk'=blk.ren s d/\x=zL s d y/\(if x=d then β s else β x)=β y:=by
   intro x blk' l;rw[R]at l;by_cases p:x=d
   .rw[if_pos p]at l;cases N:look st.heap s with
    |none=>rw[N]at l;cases l
    |some b=>rw[N]at l;cases l;exact⟨s,b,N,rfl,by simp[zL,p],by simp[p]⟩
   .rw[if_neg p]at l;by_cases z:x=s
    .rw[if_pos z]at l;cases l
    .rw[if_neg z]at l;cases N:look st.heap x with
     |none=>rw[N]at l;cases l
     |some b=>rw[N]at l;cases l;exact⟨x,b,N,rfl,(OI z).symm,by simp[p]⟩
  refine⟨by simp only[jV];exact r.mJ,λt v V=>?_,λx blk' l=>?_,λx b o l I=>?_,λx Z b o o' l O I H=>?_,r.dJ,r.jH,r.oZ,r.keep,r.room,r.size,r.os,r.tape,r.output,r.glob⟩
  .simp only[uY]at V;cases he:st.env[t]? with
   |none=>rw[he]at V;cases V
   |some u=>rw[he]at V;cases V;exact key (r.env t u he)
  .obtain⟨y,blk,X,rfl,rfl,J⟩:=from_ x blk' l;cases r.heap y blk X with
   |box cs b o C e fr G F B A U S=>
    refine .box _ b o C e fr (J.trans G) F (by rw[jV];exact B) A (λc hc=>?_) λj c W=>?_
    .obtain⟨i,hi⟩:=List.mem_iff_getElem?.1 hc;rw[uY]at hi;cases l:cs[i]? with
     |none=>rw[l]at hi;cases hi
     |some x=>rw[l]at hi;cases hi;rw[Kr];exact U x (qLe l)
    .rw[uY]at W;cases l:cs[j]? with
     |none=>rw[l]at W;cases W
     |some x=>rw[l]at W;cases W;exact key (S j x l)
   |gJ a ks=>exact .gJ a ks
   |log on ys=>exact .log on ys
   |arr a ks xs b o C e fr G F B A U S=>exact .arr a ks xs b o C e fr (J.trans G) F B A U S
   |tb t c0 c1 b C fr G F B A U S k7 k8=>exact .tb t _ _ b C fr (J.trans G) F B A (by rw[Kr];exact U) (by rw[Kr];exact S) (key k7) (key k8)
   |mp t es b o E k G F B A=>exact .mp t es b o E k (J.trans G) F B A
   |GX e=>exact .GX e
   |br e xs b C fr G F B A g5 g6=>exact .br e xs b C fr (J.trans G) F B A g5 g6
  .obtain⟨blk',l⟩:=Option.isSome_iff_exists.1 l;obtain⟨y,blk,X,_,g3,J⟩:=from_ x blk' l;have I:(if x=d then β s else β x)=some (b,o):=I;rw[J]at I;obtain⟨o1,o2,Y⟩:=r.own y b o (by rw[X];rfl) I;refine⟨o1,o2,Y.1,Y.2.imp id λY=>?_⟩;have hys:y≠s:=ω
   have:zL s d y=y:=OI hys;rw[g3,this];exact Y
  .obtain⟨arb,l⟩:=Option.isSome_iff_exists.1 l;obtain⟨amm,O⟩:=Option.isSome_iff_exists.1 O;obtain⟨y,b1,X,_,g3,J⟩:=from_ x arb l;obtain⟨y',b2,g1',_,g3',g4'⟩:=from_ Z amm O;have I:(if x=d then β s else β x)=some (b,o):=I;have H:(if Z=d then β s else β Z)=some (b,o'):=H;rw[J]at I;rw[g4']at H;rw[g3,g3',r.inj y y' b o o' (by rw[X];rfl) (by rw[g1'];rfl) I H]
theorem aH.afL(s d:Nat)(b:aH):Like b (b.ren s d):=by
 cases b with
 |box cs=>simp[aH.ren,Like,jV]
 |arr=>exact Like.refl _
 |log=>exact Like.refl _
 |tb=>exact rfl
 |mp=>exact Like.refl _
 |br=>exact Like.refl _
theorem WB{β:Nat->Option (Nat × Nat)}{hp:Heap}(z:s≠d)(hd:look hp d=none){b:Nat}(h:lM (λx=>if x=d then β s else β x) (pX s d hp) b):lM β hp b:=by
 obtain⟨x,o,p,r⟩:=h;rw[rH z x hd]at p;by_cases l:x=d
 .rw[if_pos l]at p;simp only[l,if_true]at r;exact⟨s,o,by simpa using p,r⟩
 .rw[if_neg l]at p;simp only[if_neg l]at r;by_cases u:x=s
  .grind
  .rw[if_neg u]at p;exact⟨x,o,by simpa using p,r⟩
theorem Inv.zM{cx:Cx}(i:Inv cx st a w){s d:Nat}(u:s≠d)(G:s<ah)(hd:d<ah):Inv cx (st.zM s d) a w:=by
 have B:=i.strike [d];have z:look (st.strike [d]).heap d=none:=by rw[bY];simp
 unfold St.zM;generalize st.strike [d]=st1 at B z;obtain⟨M,β,L,ds,r,S,R,e3,O⟩:=B;refine⟨M,_,L,ds,r.rename u z G,λx F=>?_,λx F blk' I=>?_,e3,O.less (λp hp=>rfl) λ_ H=>WB u z H⟩
 .grind
 .have h1:x≠d:=ω
  have h2:x≠s:=ω
  have l:look (pX s d st1.heap) x=some blk':=I;rw[rH u x z,if_neg h1,if_neg h2]at l;cases A:look st1.heap x with
  |none=>rw[A]at l;cases l
  |some b=>rw[A]at l;cases l;obtain⟨b0,N,J⟩:=R x F b A;exact⟨b0,N,J.trans (aH.afL s d b)⟩
theorem Inv.jT{cx:Cx}(nv:Nat)(p:List Nat)(u:nv<=ah):∀(l:List Oper) {st:St},Inv cx st a w->Inv cx (Skm.jT nv p l st) a w
 |[],st,i=>i
 |o::r,st,i=>by
  simp only[Skm.jT];split
  .rename_i d _ _;split
   .rename_i s _ _ _ _;cases z:(Nat.ble nv s||(fB d p&&!(s==d)))&&(Nat.blt d nv&&Nat.blt s 100000)with
    |false=>exact Inv.jT nv p u r i
    |true=>
     simp only[qBa]at z;have h2:d<nv:=Nat.le_of_ble_eq_true z.2.1;have h1:s≠d:=by
      intro e;rcases(by simpa only[Bool.or_eq_true] using z.1:Nat.ble nv s=true\/(fB d p&&!(s==d))=true)with h |h
      .exact absurd (Nat.le_of_ble_eq_true h) (Nat.not_le_of_lt (by rw[e];exact h2))
      .simp[e]at h
     have A:s<100000:=Nat.le_of_ble_eq_true z.2.2;have B:ah=100000:=rfl;exact Inv.jT nv p u r (i.zM h1 A (Nat.lt_of_lt_of_le h2 u))
   .exact Inv.jT nv p u r i
  .exact Inv.jT nv p u r i
theorem Inv.fC{cx:Cx}(p:List Nat):∀(l:List Oper) {st:St},Inv cx st a w->Inv cx (Skm.fC p l st) a w
 |[],st,i=>i
 |o::r,st,i=>by
  simp only[Skm.fC];split
  .rename_i x _;split
   .rename_i s _ _ _ _;cases u:fB x p&&(Nat.blt s 5000&&Nat.blt x 5000)with
    |false=>exact Inv.fC p r i
    |true=>
     simp only[qBa]at u;have h1:s<5000:=Nat.le_of_ble_eq_true u.2.1;have h2:x<5000:=Nat.le_of_ble_eq_true u.2.2;have k:∀s y:Nat,s<5000->y<5000->s≠5000+y/\s<ah/\5000+y<ah:=λs y h1 h2=>by have F:ah=100000:=rfl;omega
     obtain⟨B,A,z⟩:=k s x h1 h2;exact Inv.fC p r (i.zM B A z)
   .exact Inv.fC p r i
  .split
   .rename_i d _;split
    .cases u:fB d p&&Nat.blt d 5000 with
     |false=>exact Inv.fC p r i
     |true=>
      simp only[qBa]at u;have h2:d<5000:=Nat.le_of_ble_eq_true u.2;have F:ah=100000:=rfl;have k:∀y:Nat,y<5000->y≠7990/\y<ah/\7990<ah:=λy h=>by have F:ah=100000:=rfl;omega
      obtain⟨B,A,z⟩:=k d h2;exact Inv.fC p r (i.zM B A z)
    .exact Inv.fC p r i
   .exact Inv.fC p r i
  .exact Inv.fC p r i
theorem Inv.ahy{cx:Cx}(i:Inv cx st a w){x:PV}{ss:List Nat}(hd:deep (look st.heap) (st.env.getD d .undef)=some (x,ss))(G:gI ss=true) :
    Inv cx {(st.strike ss)with env:=(st.strike ss).env.set d (.p x)} a w:=by
  by_cases u:d<st.env.length
  .obtain⟨M,β,L,ds,r,B,A,i3,N⟩:=i;have F:st.env[d]?=some (st.env.getD d .undef):=by rw[qLb,qLd u];rfl
   obtain⟨J,I⟩:=Gp (λs b h=>r.heap s b h) (λs b h=>h) hd (r.env d _ F);have l:=r.afG.freeze [] ss G I;rw[List.nil_append]at l
   have z:Rel _ _ _ (bg M β ss) β {(st.strike ss)with env:=(st.strike ss).env.set d (.p x)} a w:=
    ⟨by simpa using l.mJ,λt v h=>by
      simp only at h;rw[List.getElem?_set]at h;split at h
      .rename_i H;split at h
       .cases h;subst H;exact .p _ _ J
       .cases h
      .exact l.env t v h,l.heap,l.own,l.inj,l.dJ,l.jH,l.oZ,l.keep,l.room,l.size,l.os,l.tape,l.output,l.glob⟩
   refine⟨bg M β ss,β,L,ds,r.aaf z,B,A.trans (zi st ss),i3,N.step r z⟩
  .grind[List.getD,deep,JG,Nb]
theorem Inv.oO{cx:Cx}:∀(xs:List Nat) {st:St},Inv cx st a w->Inv cx (Skm.oO xs st) a w
 |[],st,i=>i
 |x::r,st,i=>by
  simp only[Skm.oO];split
  .rename_i v ss hd;cases l:gI ss with
   |false=>exact Inv.oO r i
   |true=>exact Inv.oO r (i.ahy hd l)
  .exact Inv.oO r i
theorem Inv.freezes{cx:Cx}(ts:List Nat):∀(l:List Oper) {st:St},Inv cx st a w->Inv cx (Skm.freezes ts l st) a w
 |[],st,i=>i
 |o::r,st,i=>by
  simp only[Skm.freezes];split
  .exact Inv.freezes ts r (i.oO _)
  .exact Inv.freezes ts r i
theorem Inv.settle{cx:Cx}{F:D7}(i:Inv cx st a w)(p:F.nvars<=ah)(l:List Oper):Inv cx (Skm.settle F l st) a w:=by
 unfold Skm.settle;split
 .exact(i.jT _ _ p l).freezes _ l
 .exact((i.jT _ _ p l).fC _ l).freezes _ l
theorem E5{p:List Nat}:∀(l:List AV) (k i:Nat) (v:AV),(tY p k l)[i]?=some v->v=.undef\/l[i]?=some v
 |[],k,i,v,h=>by simp[tY]at h
 |u::r,k,0,v,h=>by
  simp only[tY,List.getElem?_cons_zero,qOa]at h;cases z:fB k p with
  |true=>rw[z]at h;right;simpa using h
  |false=>rw[z]at h;left;simpa using h.symm
 |u::r,k,i+1,v,h=>by simp only[tY,List.getElem?_cons_succ]at h;simpa using E5 r (k+1) i v h
theorem yJ{p:List Nat}:∀(l:List AV) (k:Nat),(tY p k l).length=l.length
 |[],_=>rfl
 |u::r,k=>by simp[tY,yJ r]
theorem Inv.forget{cx:Cx}(i:Inv cx st a w)(l sites:List Nat):Inv cx (st.forget l sites) a w:=by obtain⟨M,β,L,ds,r,z,u,e3,p⟩:=i;exact Inv.strike ⟨M,β,L,ds,r.abx (yJ _ _) (λt v h=>E5 _ _ _ _ h),z,u,e3,p⟩ _
theorem Inv.aC{cx:Cx}(i:Inv cx st a w)(F:D7)(c:Code):Inv cx (Skm.aC F c st) a w:=by
 unfold Skm.aC;split
 .exact i
 .split
  .exact i
  .exact i.forget _ _
theorem Inv.pJ{cx:Cx}(i:Inv cx st a w){α:Type}{b:Option aH}(z:∀u xs,b=some (.log u xs)->∃ys,look cx.hp0 ah=some (.log u ys)){k:St->Option α}{x:α}(h:Skm.pJ b st k=some x):∃st',k st'=some x/\Inv cx st' a w /\
    ∀u xs,look st'.heap ah=some (.log u xs)->b=some (.log u xs):=by
  unfold Skm.pJ at h;split at h
  .rename_i R xs0 X;split at h
   .rename_i u xs;refine⟨_,h,?_,λon' xs' J=>?_⟩
    .obtain⟨ys,Z⟩:=z u xs rfl;obtain⟨M,β,L,ds,r,e1,e2,e3,fx⟩:=i;have B:∀s,look (put st.heap ah (.log u xs)) s=if s=ah then some (.log u xs)else look st.heap s:=λs=>aZ _ _ _ _
     have V:u=R:=by obtain⟨b0,g1,g2⟩:=e2 ah (qNr _) _ X;rw[Z]at g1;cases g1;exact g2
     have key:∀{v:AV}{c:Value},AR w M β (look st.heap) v c->AR w M β (look (put st.heap ah (.log u xs))) v c:=by
      intro v c S;refine S.mono (λb z=>⟨z,rfl⟩) λs blk _ l=>?_;by_cases e:s=ah
      .subst e;rw[X]at l;cases l;exact⟨.log u xs,by rw[B,if_pos rfl],V.symm,rfl,λ_ _ _ _ h=>h⟩
      .exact⟨blk,by rw[B,if_neg e];exact l,Like.refl _,rfl,λ_ _ _ _ h=>h⟩
     have A:∀s,(look (put st.heap ah (.log u xs)) s).isSome=true->(look st.heap s).isSome=true:=by
      intro s l;rw[B]at l;by_cases e:s=ah
      .subst e;rw[X];rfl
      .rw[if_neg e]at l;exact l
     refine⟨M,β,L,ds,⟨r.mJ,λt v S=>key (r.env t v S),λs blk l=>?_,λs b o l z=>r.own s b o (A s l) z,λs Y b o o' l U=>r.inj s Y b o o' (A s l) (A Y U),r.dJ,r.jH,r.oZ,r.keep,r.room,r.size,r.os,r.tape,r.output,r.glob⟩,e1,λs l blk z=>?_,e3,fx.less (λp hp=>rfl) λ_ ⟨s,o,l,z⟩=>⟨s,o,A s l,z⟩⟩
     .have l:look (put st.heap ah (.log u xs)) s=some blk:=l;rw[B]at l;by_cases e:s=ah
      .rw[if_pos e]at l;cases l;exact .log _ _
      .rw[if_neg e]at l;cases r.heap s blk l with
       |box cs b o C e fr I H G F O N=>exact .box cs b o C e fr I H G F O λj c hj=>key (N j c hj)
       |gJ a ks=>exact .gJ a ks
       |log u ys=>exact .log u ys
       |arr a ks xs b o C e fr I H G F O N=>exact .arr a ks xs b o C e fr I H G F O N
       |tb t c0 c1 b C fr I H G F O N k7 k8=>exact .tb t _ _ b C fr I H G F O N (key k7) (key k8)
       |mp t es b o E k I H G F=>exact .mp t es b o E k I H G F
       |GX e=>exact .GX e
       |br e xs b C fr I H G F g5 g6=>exact .br e xs b C fr I H G F g5 g6
     .have z:look (put st.heap ah (.log u xs)) s=some blk:=z;rw[B]at z;by_cases e:s=ah
      .rw[if_pos e]at z;cases z;subst e;exact⟨_,Z,rfl⟩
      .rw[if_neg e]at z;exact e2 s l blk z
    .have J:look (put st.heap ah (.log u xs)) ah=_:=J;rw[aZ,if_pos rfl]at J;cases J;rfl
   .cases h
  .rename_i W;exact⟨st,h,i,λu xs J=>absurd J (W u xs)⟩
def Ex.afM:Ex->Exit
 |.normal=>.normal
 |.exit id=>.exit id
 |.ret=>.ret
end
end
end Go.Skm
