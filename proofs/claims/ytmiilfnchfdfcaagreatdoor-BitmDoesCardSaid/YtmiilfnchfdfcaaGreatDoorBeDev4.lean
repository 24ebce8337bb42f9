/- Be: Ranges, Dev1, Dev2, Dev4. -/
import Derived.Test.YtmiilfnchfdfcaaGreatDoorBeTableLaw
import Derived.Test.YtmiilfnchfdfcaaGreatDoorShelf
import Derived.Lib.ConvBytes
import Derived.Lib.LazyBuf
import Derived.StillTailTactics
set_option maxRecDepth 100000
set_option maxHeartbeats 40000000
set_option linter.unusedVariables false
namespace Go.Proofs.YtmiilfnchfdfcaaGreatDoor
section
open Go.RowKit Go.Shelf
def Stays (B:Nat)(X Y:World):Prop:=X.heap.size<=Y.heap.size/\∀k,B<=k->k<X.heap.size->Y.heap[k]? =X.heap[k]?
theorem Stays.refl (B:Nat)(X:World):Stays B X X:=⟨Nat.le_refl _,fun _ _ _=>rfl⟩
theorem Stays.trans {B:Nat}{X Y Z:World}(h:Stays B X Y)(k:Stays B Y Z):Stays B X Z:=⟨Nat.le_trans h.1 k.1,fun i hB hi=>(k.2 i hB (Nat.lt_of_lt_of_le hi h.1)).trans (h.2 i hB hi)⟩
theorem Stays.grown {B:Nat}{X Y:World}{row:Option Nat}(h:X.grownBy Y row)(hr:∀j,row=some j->j<B\/X.heap.size<=j):Stays B X Y:=
 ⟨h.size,fun k hB hk=>h.block k hk (fun e=>by have:=hr k e.symm;omega)⟩
theorem Stays.keeps {B:Nat}{X Y:World}(h:Stays B X Y):KeepsFrom B X Y:=⟨h.1,fun k o hB hk _=>(h.2 k hB (Array.getElem?_eq_some_iff.1 hk).1).trans hk⟩
theorem Stays.below {n:Nat}{X Y:World}(h:Below n X Y){B:Nat}(hs:X.heap.size<=n):Stays B X Y:=⟨h.size,fun k _ hk=>h.block k (by omega)⟩
def SeqO {α:Type}(F:Fence)(n:Nat)(P:Program)(g:Nat)(lb:Array Value)(encs:α->Array Value)(Kp:World->World->Prop)(S Sp:List α->Prop)(N:Nat)(w:World):Prop:=
 ∀(l:Nat)(J Jx:List α->World->Prop)(W:World),Below w.heap.size w W->OwnFrom W.heap.size J->OwnFrom W.heap.size Jx->
  (∀pre x W1,J pre W1->pre.length<N->YieldAt F (n-1) P l (encs x) W1 fun e W'=>
   (e=.returned (.bool true)/\J (pre++[x]) W'/\Stays W.heap.size W1 W'/\Kp W1 W')\/(e=.returned (.bool false)/\Jx (pre++[x]) W'/\KeepsFrom W.heap.size W1 W'))->
  J [] W->
  CallsIn F n P g (#[.func (.yield l) #[] #[]]++lb) W fun e W'=>(∃v,e=.returned v)/\((∃xs,S xs/\J xs W')\/(∃pre,Sp pre/\Jx pre W'))
theorem BG {B B':Nat}{X Y:World}(h:KeepsFrom B X Y)(hB:B<=B'):KeepsFrom B' X Y:=⟨h.size,fun k o hk=>h.same k o (Nat.le_trans hB hk)⟩
theorem Dc {X Y:World}{row:Option Nat}{B k:Nat}{o:Obj}(hg:X.grownBy Y row)(hr:∀r,row=some r->B<=r/\∃o:Obj,X.heap[r]? =some o/\o.isCells=false)(hk:k<B)(ho:X.heap[k]? =some o):Y.heap[k]? =some o:=
 (hg.block k (Array.getElem?_eq_some_iff.1 ho).1 (fun e=>by have:=(hr k e.symm).1;omega)).trans ho
theorem ET {F:Fence}{n:Nat}{P:Program}{α:Type}{g:Operand}{ps:Array Tmp}{assign body:Code}{Q:Exit->Act->World->Prop}{a:Act}{w:World}
 (hro:F.round=none) (h1:1<=n) {gf:Nat} {lb:Array Value} (hg:a.eval g=.func (.func gf) #[] lb) (hFg:F.fn gf) (eg:∀args w,(callFunc gf args).run P w=.ok (.enter gf args) w)
 {encs:α->Array Value} {Kp:World->World->Prop} {S Sp:List α->Prop} {N:Nat} {w0:World} (hseq:SeqO F (n-1) P gf lb encs Kp S Sp N w0)
 (hKt:∀{A B C:World},Kp A B->Kp B C->Kp A C) (hKb:∀(W:World)(l:Nat)(o o':Obj),w.heap.size<=l->W.heap[l]? =some o->o.isCells=false->o.isWalk=false->Kp W (W.putObj l o')) (hb0:Below w0.heap.size w0 w) (hps:∀x,(encs x).size=ps.size)
 (I:List α->World->Prop) (Ix:Code->List α->World->Prop) (hI:OwnFrom w.heap.size I) (hIx:∀c,OwnFrom w.heap.size (Ix c)) (h0:I [] w) (Ax:α->Act->World->Prop) (hAx:∀x a',OwnFrom w.heap.size (fun(_:Unit) W=>Ax x a' W))
 (hassign:∀(l:Nat)(pre:List α)(x:α)(W:World)(K:Act->World->Prop),I pre W->(∀a' W',KeepsFrom w.heap.size W W'->Stays (w.heap.size+2) W W'->Kp W W'->I pre W'->Ax x a' W'->K a' W')->
  assign.wpIn (F.inRound l) (n-1-1) P (Exit.then K (fun _ _ _=>False)) {tmps:=(ps.zip (encs x)).foldl (fun t (p,v)=>t.setIfInBounds p v) a.tmps,defers:=[]} W)
 (hbody:∀(l:Nat)(pre:List α)(x:α)(a':Act)(W:World),I pre W->Ax x a' W->pre.length<N->body.wpIn (F.inRound l) (n-1-1) P (ownPostG w.heap.size (fun A B=>Stays (w.heap.size+2) A B/\Kp A B) I Ix (pre++[x]) W) a' W)
 (hdone:∀(D:Nat)(xs:List α)(W:World),w.heap.size<=D->S xs->I xs W->W.heap[D]? =some (.deferred (some []))->Q .normal {a with defers:={target:=.collected D,args:=#[]}::a.defers} W)
 (hstop:∀(D:Nat)(c:Code)(pre:List α)(W:World),w.heap.size<=D->Sp pre->Ix c pre W->W.heap[D]? =some (.deferred (some []))->c.wpIn F n P Q {a with defers:={target:=.collected D,args:=#[]}::a.defers} W):
 (Code.rangeFunc g ps assign body).wpIn F n P Q a w:=by
 refine wpIn_rangeFunc ?_;intro fn hfn;rw[hro];obtain⟨rec,hrec⟩:∃rec:LoopState->Option Code->Loop,rec=fun st pe=>{state:=st,pending:=pe,fn,tmps:=a.tmps,params:=ps,assign,body,defers:=w.heap.size}:=⟨_,rfl⟩
 obtain⟨V,hV⟩:∃V,(w.alloc (.deferred (some []))).alloc (.loop (rec .ready none))=V:=⟨_,rfl⟩;have a4:V.heap.size=w.heap.size+1+1:=by rw[<-hV];simp
 have ac:V.heap[w.heap.size+1]? =some (.loop (rec .ready none)):=by
  have:=World.alloc_heap_new (w.alloc (.deferred (some []))) (.loop (rec .ready none));rwa [World.size_alloc,hV]at this
 have ab:V.heap[w.heap.size]? =some (.deferred (some [])):=by
  rw[<-hV];exact(Below.heap_alloc _ _ _ (by simp)).trans (World.alloc_heap_new w _)
 have a9:I [] V:=by rw[<-hV];exact hI.alloc _ (hI.alloc _ h0)
 have aa:Below w0.heap.size w0 V:=by
  rw[<-hV];exact hb0.trans ((((Below.refl _ w).alloc (Nat.le_refl _) _).alloc (by simp) _).mono hb0.size)
 have a5:∀(o:Obj),OwnFrom V.heap.size (fun(_:List α) W=>W.heap[w.heap.size+1]? =some o/\W.heap[w.heap.size]? =some (.deferred (some []))):=fun o s X Y row hs hy hr=>
  ⟨Dc hy hr (by omega) hs.1,Dc hy hr (by omega) hs.2⟩
 have up:∀{β:Type}{I:β->World->Prop},OwnFrom w.heap.size I->OwnFrom V.heap.size I:=fun h s X Y row hs hy hr=>h s X Y row hs hy (fun r e=>⟨by have:=(hr r e).1;omega,(hr r e).2⟩)
 refine⟨w.heap.size+1,[{target:=.collected w.heap.size,args:=#[]}],V,{target:=.fn (.func gf) lb,args:=#[.func (.yield (w.heap.size+1)) #[] #[]]},V,gf,
  #[.func (.yield (w.heap.size+1)) #[] #[]]++lb,V,?_,?_,?_,?_,fun _=>h1,?_⟩
 · rw[<-hV,hrec];exact run_enterLoop_outer _ _ _ _ _
 · simp only[resolve,hg];simp[go_sem]
 · intro f' hf';simp[Target.leads]at hf';subst hf';exact hFg
 · simp[invoke,go_sem,eg]
 refine(hseq (w.heap.size+1)
  (fun pre W=>I pre W/\W.heap[w.heap.size+1]? =some (.loop (rec .ready none))/\W.heap[w.heap.size]? =some (.deferred (some [])))
  (fun pre W=>∃c,Ix c pre W/\W.heap[w.heap.size+1]? =some (.loop (rec .done (some c)))/\W.heap[w.heap.size]? =some (.deferred (some [])))
  V aa ((up hI).and (a5 _))
  (fun s X Y row hs hy hr=>by obtain⟨c,hs⟩:=hs;exact⟨c,((up (hIx c)).and (a5 _)) s X Y row hs hy hr⟩)
  ?_ ⟨a9,ac,ab⟩).mono ?_
 · rintro pre x W ⟨hi,hl,hd⟩ hlen;have hy:=run_yield (P:=P) (args:=encs x) hl (by rw[hrec];exact hps x);rw[hrec]at hy;refine⟨fn,_,assign,body,hy,roundIn_of_wpIn hfn (hassign _ pre x W _ hi ?_)⟩;clear hy;intro a' U hkf hst hkp hiU hax;have lU:=hkf.same _ _ (by omega) hl rfl;have dU:=hkf.same _ _ (Nat.le_refl _) hd rfl;have sU:w.heap.size+1<U.heap.size:=(Array.getElem?_eq_some_iff.1 lU).1;refine⟨_,run_beginRound lU (by rw[hrec]),?_⟩;obtain⟨U2,hU2⟩:∃U2,U.putObj (w.heap.size+1) (.loop {rec .ready none with state:=.busy})=U2:=⟨_,rfl⟩;rw[hU2];have af:U2.heap[w.heap.size+1]? =some (.loop {rec .ready none with state:=.busy}):=by rw[<-hU2];exact World.putObj_heap_same sU
   have a7:U2.heap[w.heap.size]? =some (.deferred (some [])):=by rw[<-hU2];exact(World.putObj_heap_other (by omega)).trans dU
   have ae:Kp U U2:=by rw[<-hU2];exact hKb _ _ _ _ (by omega) lU rfl rfl
   have ag:Stays V.heap.size U U2:=by rw[<-hU2];exact Stays.grown (grownBy_putObj' _ _ _) (fun j e=>by cases e;omega)
   have a8:KeepsFrom V.heap.size U U2:=by rw[<-hU2];exact KeepsFrom.of_grownBy (grownBy_putObj' _ _ _) (fun j e=>by cases e;omega)
   have ad:I pre U2:=by rw[<-hU2];exact hI.putObj _ hiU (by omega) lU rfl
   have a6:Ax x a' U2:=by rw[<-hU2];exact(hAx x a').putObj (s:=()) _ hax (by omega) lU rfl
   refine wpIn_mono (hbody _ pre x a' _ ad a6 hlen) ?_;have a2:∀(jump:Option Code)(T:World),KeepsFrom w.heap.size U2 T->
    (Instr.endRound (w.heap.size+1) jump).run P T=.ok (.bool jump.isNone) (T.putObj (w.heap.size+1) (.loop (rec (if jump.isNone then .ready else .done) jump)))/\
    T.heap[w.heap.size+1]? =some (.loop {rec .ready none with state:=.busy})/\
    (T.putObj (w.heap.size+1) (.loop (rec (if jump.isNone then .ready else .done) jump))).heap[w.heap.size+1]? =some (.loop (rec (if jump.isNone then .ready else .done) jump))/\
    (T.putObj (w.heap.size+1) (.loop (rec (if jump.isNone then .ready else .done) jump))).heap[w.heap.size]? =some (.deferred (some []))/\
    KeepsFrom V.heap.size W (T.putObj (w.heap.size+1) (.loop (rec (if jump.isNone then .ready else .done) jump))):=fun jump T hT=>by
    have a0:=hT.same _ _ (by omega) af rfl;have:=run_endRound (P:=P) jump a0;refine⟨by rw[hrec]at this ⊢;exact this,a0,World.putObj_heap_same (Array.getElem?_eq_some_iff.1 a0).1,(World.putObj_heap_other (by omega)).trans (hT.same _ _ (Nat.le_refl _) a7 rfl),?_⟩;exact((BG hkf (by omega)).trans a8).trans ((BG hT (by omega)).trans (KeepsFrom.of_grownBy (grownBy_putObj' _ _ _) (fun j e=>by cases e;omega)))
   have a1:∀(c:Code)(T:World),KeepsFrom w.heap.size U2 T->Ix c (pre++[x]) T->∃b W',(Instr.endRound (w.heap.size+1) (some c)).run P T=.ok b W'/\
    ((b=.bool true/\(I (pre++[x]) W'/\W'.heap[w.heap.size+1]? =some (.loop (rec .ready none))/\W'.heap[w.heap.size]? =some (.deferred (some [])))/\Stays V.heap.size W W'/\Kp W W')\/
     (b=.bool false/\(∃c,Ix c (pre++[x]) W'/\W'.heap[w.heap.size+1]? =some (.loop (rec .done (some c)))/\W'.heap[w.heap.size]? =some (.deferred (some [])))/\KeepsFrom V.heap.size W W')):=fun c T hT hx=>by
    obtain⟨hr,a0,hl4,hd4,hk4⟩:=a2 (some c) T hT;exact⟨_,_,hr,.inr ⟨rfl,⟨c,(hIx _).putObj _ hx (by omega) a0 rfl,hl4,hd4⟩,hk4⟩⟩
   rintro e a3 T hp;cases e with
   |normal=>
    obtain⟨hk3,⟨hst3,hkp3⟩,hi3⟩:=hp;obtain⟨hr,a0,hl4,hd4,hk4⟩:=a2 none T hk3;exact⟨_,_,hr,.inl ⟨rfl,⟨hI.putObj _ hi3 (by omega) a0 rfl,hl4,hd4⟩,((a4▸hst:Stays V.heap.size W U).trans ag).trans ((a4▸hst3:Stays V.heap.size U2 T).trans (Stays.grown (grownBy_putObj' _ _ _) (fun j e=>by cases e;omega))),hKt hkp (hKt (hKt ae hkp3) (hKb _ _ _ _ (by omega) a0 rfl rfl))⟩⟩
   |ret=>obtain⟨b,W',hr,h⟩:=a1 .ret T hp.1 hp.2;exact⟨_,_,hr,h.elim (fun h=>.inl ⟨by rw[h.1],h.2⟩) (fun h=>.inr ⟨by rw[h.1],h.2⟩)⟩
   |exit id=>obtain⟨b,W',hr,h⟩:=a1 (.exit id) T hp.1 hp.2;exact⟨_,_,hr,h.elim (fun h=>.inl ⟨by rw[h.1],h.2⟩) (fun h=>.inr ⟨by rw[h.1],h.2⟩)⟩
   |goto t=>obtain⟨b,W',hr,h⟩:=a1 (.goto t) T hp.1 hp.2;exact⟨_,_,hr,h.elim (fun h=>.inl ⟨by rw[h.1],h.2⟩) (fun h=>.inr ⟨by rw[h.1],h.2⟩)⟩
   |panic ch=>exact hp.elim
   |outgrown=>exact hp.elim
 · rintro e W2 ⟨⟨v,rfl⟩,(⟨xs,hS,hi,hl,hk⟩|⟨pre,hSp,c,hi,hl,hk⟩)⟩
   · exact⟨none,_,by have:=run_endLoop (P:=P) hl (by rw[hrec];simp);rw[hrec]at this;exact this,hdone _ xs _ (Nat.le_refl _) hS (hI.putObj _ hi (by omega) hl rfl) ((World.putObj_heap_other (by omega)).trans hk)⟩
   · exact⟨some c,_,by have:=run_endLoop (P:=P) hl (by rw[hrec];simp);rw[hrec]at this;exact this,hstop _ c pre _ (Nat.le_refl _) hSp ((hIx c).putObj _ hi (by omega) hl rfl) ((World.putObj_heap_other (by omega)).trans hk)⟩
theorem OwnFrom.later {β:Type}{B:Nat}{I:β->World->Prop}(h:OwnFrom B I){s:β}{W W':World}(hs:I s W)(hb:Below W.heap.size W W'):I s W':=
 h s W W' none hs ⟨hb.os,hb.tape,hb.output,hb.size,fun k hk _=>hb.block k hk⟩ (fun r e=>by cases e)
theorem AbidesFrom.later {β:Type}{B:Nat}{I:β->World->Prop}(h:AbidesFrom B I){s:β}{W W':World}(hs:I s W)(hb:Below W.heap.size W W'):I s W':=
 h s W W' none hs ⟨hb.os,hb.tape,hb.output,hb.size,fun k hk _=>hb.block k hk⟩ (fun r e=>by cases e)
structure KeepB (B:Nat) (bs:List Nat) (X Y:World):Prop where
 below:Below B X Y
 at_:∀g∈bs,Y.heap[g]? =X.heap[g]?
theorem KeepB.refl (B:Nat)(bs:List Nat)(X:World):KeepB B bs X X:=⟨Below.refl _ _,fun _ _=>rfl⟩
theorem KeepB.trans {B:Nat}{bs:List Nat}{X Y Z:World}(h:KeepB B bs X Y)(k:KeepB B bs Y Z):KeepB B bs X Z:=⟨h.below.trans k.below,fun g hg=>(k.at_ g hg).trans (h.at_ g hg)⟩
theorem KeepB.later {B:Nat}{bs:List Nat}{X Y:World}(h:Below X.heap.size X Y)(hB:B<=X.heap.size)(hbs:∀g∈bs,g<X.heap.size):KeepB B bs X Y:=⟨h.mono hB,fun g hg=>h.block g (hbs g hg)⟩
theorem KeepB.putObj {B:Nat}{bs:List Nat}{W:World}{l:Nat}(o':Obj)(hB:B<=l)(hbs:∀g∈bs,g≠l):KeepB B bs W (W.putObj l o'):=
 ⟨⟨rfl,rfl,rfl,by simp[World.putObj],fun k hk=>World.putObj_heap_other (by omega)⟩,fun g hg=>World.putObj_heap_other (hbs g hg)⟩
theorem Blk.at_ {X Y:World}{g:Nat}{t:TypeId}{cs:Array Value}(h:Blk X g t cs)(k:Y.heap[g]? =X.heap[g]?):Blk Y g t cs:=k.trans h
theorem Fp {W w1:World}{n₀ B:Nat}{t e:TypeId}{size:Nat}{v v':Value}{k m:Nat}{xs ys:List Value}{tmp:Obj}
 (hv:Blk W B t #[v]) (hte:t≠e) (hrow:W.ownsRow n₀ e size v k xs) (hn₀:n₀<=W.heap.size) (hown':w1.ownsRow n₀ e size v' m ys) (hgrow:(W.alloc tmp).grownBy w1 v.ownBlock):
 Blk w1 B t #[v]/\Blk (w1.setCell ⟨B,0,none⟩ v') B t #[v']/\(w1.setCell ⟨B,0,none⟩ v').ownsRow n₀ e size v' m ys/\KeepsOthers W (w1.setCell ⟨B,0,none⟩ v')/\
  (∀B0,B0<=n₀->B0<=B->Below B0 W (w1.setCell ⟨B,0,none⟩ v'))/\∀g,g<n₀->g≠B->(w1.setCell ⟨B,0,none⟩ v').heap[g]? =W.heap[g]? :=by
 have a1:Boxed w1 B t v:=(Boxed.alloc hv tmp).kept hgrow (Boxed.not_row hv hte hrow);have a0:∀j,v.ownBlock=some j->n₀<=j:=fun j ej=>by
  rcases hrow.2 with ⟨rfl,_⟩|⟨g,cap,cur,rfl,hb,_,_⟩
  · simp[Value.ownBlock]at ej
  · obtain rfl:g=j:=by simpa[Value.ownBlock]using ej
    exact hb
 refine⟨a1,Boxed.set v' a1,hown'.kept (grownBy_setCell' w1 B v') (.inr (a1.not_row hte hown').symm),?_,fun B0 h0 hB=>?_,fun g hg hne=>?_⟩
 · refine((KeepsOthers.alloc W tmp).trans (KeepsOthers.of_grownBy hgrow fun j o ej hj=>?_)).trans (KeepsOthers.setCell _ _ _)
   rcases(hrow.alloc tmp).2 with ⟨rfl,_⟩|⟨g,cap,cur,rfl,_,hgb,_⟩
   · simp[Value.ownBlock]at ej
   · obtain rfl:g=j:=by simpa[Value.ownBlock]using ej
     rw[hgb]at hj;cases hj;rfl
 · exact(((Below.refl B0 W).alloc (by omega) tmp).grown hgrow (by simp;omega) fun j ej=>by have:=a0 j ej;omega).setCell (p:=⟨B,0,none⟩) hB v'
 · rw[Below.heap_setCell _ _ _ _ hne,hgrow.block g (by simp;omega) (fun e=>by have:=a0 g e.symm;omega),Below.heap_alloc _ _ _ (by omega)]
theorem Fl {α:Type}{f:Nat->α×Int}{n:Nat}(h:∀i,i<n->(f i).2=0):allN f n=((List.range n).map (fun i=>(f i).1),0):=by
 have h2:=Cw h;obtain⟨a,b⟩:=Cx h2;refine Prod.ext (List.ext_getElem? fun i=>?_) h2;by_cases hi:i<n
 · rw[(b i hi).2];simp[hi]
 · rw[List.getElem?_eq_none (by omega),List.getElem?_eq_none (by simp;omega)]
theorem Me (B:Nat)(bs:List Nat){V:World}{B':Nat}(hB:B<=B')(hbs:∀g∈bs,g<V.heap.size)(hV:B'=V.heap.size):OwnFrom B' (fun(_:Unit) W=>KeepB B bs V W):=by
 subst hV;intro s X Y row hs hy hr;refine hs.trans ⟨⟨hy.os,hy.tape,hy.output,hy.size,fun k hk=>?_⟩,fun g hg=>?_⟩
 · rcases Nat.lt_or_ge k X.heap.size with h|h
   · exact hy.block k h (fun e=>by have:=(hr k e.symm).1;omega)
   · have:=hs.below.size;omega
 · exact hy.block g (Nat.lt_of_lt_of_le (hbs g hg) hs.below.size) (fun e=>by have:=(hr g e.symm).1;have:=hbs g hg;omega)
def StaysC (B c:Nat)(X Y:World):Prop:=X.heap.size<=Y.heap.size/\∀k,B<=k->k<B+c->k<X.heap.size->Y.heap[k]? =X.heap[k]?
theorem StaysC.refl (B c:Nat)(X:World):StaysC B c X X:=⟨Nat.le_refl _,fun _ _ _ _=>rfl⟩
theorem StaysC.trans {B c:Nat}{X Y Z:World}(h:StaysC B c X Y)(k:StaysC B c Y Z):StaysC B c X Z:=⟨Nat.le_trans h.1 k.1,fun i hB hc hi=>(k.2 i hB hc (Nat.lt_of_lt_of_le hi h.1)).trans (h.2 i hB hc hi)⟩
theorem StaysC.grown {B c:Nat}{X Y:World}{row:Option Nat}(h:X.grownBy Y row)(hr:∀j,row=some j->j<B\/B+c<=j):StaysC B c X Y:=
 ⟨h.size,fun k hB hc hk=>h.block k hk (fun e=>by have:=hr k e.symm;omega)⟩
theorem StaysC.below {n:Nat}{X Y:World}(h:Below n X Y){B c:Nat}(hs:X.heap.size<=n):StaysC B c X Y:=⟨h.size,fun k _ _ hk=>h.block k (by omega)⟩
theorem StaysC.zero {B:Nat}{X Y:World}(h:X.heap.size<=Y.heap.size):StaysC B 0 X Y:=⟨h,fun k h1 h2=>by omega⟩
def SeqC {α:Type}(c:Nat)(F:Fence)(n:Nat)(P:Program)(g:Nat)(lb:Array Value)(encs:α->Array Value)(Kp:World->World->Prop)(S Sp:List α->Prop)(N:Nat)(w:World):Prop:=
 ∀(l:Nat)(J Jx:List α->World->Prop)(W:World),Below w.heap.size w W->OwnFrom W.heap.size J->OwnFrom W.heap.size Jx->
  (∀pre x W1,J pre W1->pre.length<N->W.heap.size+c<=W1.heap.size->YieldAt F (n-1) P l (encs x) W1 fun e W'=>
   (e=.returned (.bool true)/\J (pre++[x]) W'/\KeepsFrom W.heap.size W1 W'/\StaysC W.heap.size c W1 W'/\Kp W1 W')\/(e=.returned (.bool false)/\Jx (pre++[x]) W'/\KeepsFrom W.heap.size W1 W'))->
  J [] W->
  CallsIn F n P g (#[.func (.yield l) #[] #[]]++lb) W fun e W'=>(∃v,e=.returned v)/\((∃xs,S xs/\J xs W')\/(∃pre,Sp pre/\Jx pre W'))
theorem ES {cn:Nat}{F:Fence}{n:Nat}{P:Program}{α:Type}{g:Operand}{ps:Array Tmp}{assign body:Code}{Q:Exit->Act->World->Prop}{a:Act}{w:World}
 (hro:F.round=none) (h1:1<=n) {gf:Nat} {lb:Array Value} (hg:a.eval g=.func (.func gf) #[] lb) (hFg:F.fn gf) (eg:∀args w,(callFunc gf args).run P w=.ok (.enter gf args) w)
 {encs:α->Array Value} {Kp:World->World->Prop} {S Sp:List α->Prop} {N:Nat} {w0:World} (hseq:SeqC cn F (n-1) P gf lb encs Kp S Sp N w0)
 (hKt:∀{A B C:World},Kp A B->Kp B C->Kp A C) (hKb:∀(W:World)(l:Nat)(o o':Obj),w.heap.size<=l->W.heap[l]? =some o->o.isCells=false->o.isWalk=false->Kp W (W.putObj l o')) (hb0:Below w0.heap.size w0 w) (hps:∀x,(encs x).size=ps.size)
 (I:List α->World->Prop) (Ix:Code->List α->World->Prop) (hI:OwnFrom w.heap.size I) (hIx:∀c,OwnFrom w.heap.size (Ix c)) (h0:I [] w) (Ax:α->Act->World->Prop) (hAx:∀x a',OwnFrom w.heap.size (fun(_:Unit) W=>Ax x a' W))
 (hassign:∀(l:Nat)(pre:List α)(x:α)(W:World)(K:Act->World->Prop),I pre W->(∀a' W',KeepsFrom w.heap.size W W'->StaysC (w.heap.size+2) cn W W'->Kp W W'->I pre W'->Ax x a' W'->K a' W')->
  assign.wpIn (F.inRound l) (n-1-1) P (Exit.then K (fun _ _ _=>False)) {tmps:=(ps.zip (encs x)).foldl (fun t (p,v)=>t.setIfInBounds p v) a.tmps,defers:=[]} W)
 (hbody:∀(l:Nat)(pre:List α)(x:α)(a':Act)(W:World),I pre W->Ax x a' W->pre.length<N->w.heap.size+2+cn<=W.heap.size->body.wpIn (F.inRound l) (n-1-1) P (ownPostG w.heap.size (fun A B=>StaysC (w.heap.size+2) cn A B/\Kp A B) I Ix (pre++[x]) W) a' W)
 (hdone:∀(D:Nat)(xs:List α)(W:World),w.heap.size<=D->S xs->I xs W->W.heap[D]? =some (.deferred (some []))->Q .normal {a with defers:={target:=.collected D,args:=#[]}::a.defers} W)
 (hstop:∀(D:Nat)(c:Code)(pre:List α)(W:World),w.heap.size<=D->Sp pre->Ix c pre W->W.heap[D]? =some (.deferred (some []))->c.wpIn F n P Q {a with defers:={target:=.collected D,args:=#[]}::a.defers} W):
 (Code.rangeFunc g ps assign body).wpIn F n P Q a w:=by
 refine wpIn_rangeFunc ?_;intro fn hfn;rw[hro];obtain⟨rec,hrec⟩:∃rec:LoopState->Option Code->Loop,rec=fun st pe=>{state:=st,pending:=pe,fn,tmps:=a.tmps,params:=ps,assign,body,defers:=w.heap.size}:=⟨_,rfl⟩
 obtain⟨V,hV⟩:∃V,(w.alloc (.deferred (some []))).alloc (.loop (rec .ready none))=V:=⟨_,rfl⟩;have a4:V.heap.size=w.heap.size+1+1:=by rw[<-hV];simp
 have ad:V.heap[w.heap.size+1]? =some (.loop (rec .ready none)):=by
  have:=World.alloc_heap_new (w.alloc (.deferred (some []))) (.loop (rec .ready none));rwa [World.size_alloc,hV]at this
 have ac:V.heap[w.heap.size]? =some (.deferred (some [])):=by
  rw[<-hV];exact(Below.heap_alloc _ _ _ (by simp)).trans (World.alloc_heap_new w _)
 have aa:I [] V:=by rw[<-hV];exact hI.alloc _ (hI.alloc _ h0)
 have ab:Below w0.heap.size w0 V:=by
  rw[<-hV];exact hb0.trans ((((Below.refl _ w).alloc (Nat.le_refl _) _).alloc (by simp) _).mono hb0.size)
 have a6:∀(o:Obj),OwnFrom V.heap.size (fun(_:List α) W=>W.heap[w.heap.size+1]? =some o/\W.heap[w.heap.size]? =some (.deferred (some []))):=fun o s X Y row hs hy hr=>
  ⟨Dc hy hr (by omega) hs.1,Dc hy hr (by omega) hs.2⟩
 have up:∀{β:Type}{I:β->World->Prop},OwnFrom w.heap.size I->OwnFrom V.heap.size I:=fun h s X Y row hs hy hr=>h s X Y row hs hy (fun r e=>⟨by have:=(hr r e).1;omega,(hr r e).2⟩)
 refine⟨w.heap.size+1,[{target:=.collected w.heap.size,args:=#[]}],V,{target:=.fn (.func gf) lb,args:=#[.func (.yield (w.heap.size+1)) #[] #[]]},V,gf,
  #[.func (.yield (w.heap.size+1)) #[] #[]]++lb,V,?_,?_,?_,?_,fun _=>h1,?_⟩
 · rw[<-hV,hrec];exact run_enterLoop_outer _ _ _ _ _
 · simp only[resolve,hg];simp[go_sem]
 · intro f' hf';simp[Target.leads]at hf';subst hf';exact hFg
 · simp[invoke,go_sem,eg]
 refine(hseq (w.heap.size+1)
  (fun pre W=>I pre W/\W.heap[w.heap.size+1]? =some (.loop (rec .ready none))/\W.heap[w.heap.size]? =some (.deferred (some [])))
  (fun pre W=>∃c,Ix c pre W/\W.heap[w.heap.size+1]? =some (.loop (rec .done (some c)))/\W.heap[w.heap.size]? =some (.deferred (some [])))
  V ab ((up hI).and (a6 _))
  (fun s X Y row hs hy hr=>by obtain⟨c,hs⟩:=hs;exact⟨c,((up (hIx c)).and (a6 _)) s X Y row hs hy hr⟩)
  ?_ ⟨aa,ad,ac⟩).mono ?_
 · rintro pre x W ⟨hi,hl,hd⟩ hlen hsz;have hy:=run_yield (P:=P) (args:=encs x) hl (by rw[hrec];exact hps x);rw[hrec]at hy;refine⟨fn,_,assign,body,hy,roundIn_of_wpIn hfn (hassign _ pre x W _ hi ?_)⟩;clear hy;intro a' U hkf hst hkp hiU hax;have lU:=hkf.same _ _ (by omega) hl rfl;have dU:=hkf.same _ _ (Nat.le_refl _) hd rfl;have sU:w.heap.size+1<U.heap.size:=(Array.getElem?_eq_some_iff.1 lU).1;refine⟨_,run_beginRound lU (by rw[hrec]),?_⟩;obtain⟨U2,hU2⟩:∃U2,U.putObj (w.heap.size+1) (.loop {rec .ready none with state:=.busy})=U2:=⟨_,rfl⟩;rw[hU2];have ag:U2.heap[w.heap.size+1]? =some (.loop {rec .ready none with state:=.busy}):=by rw[<-hU2];exact World.putObj_heap_same sU
   have a8:U2.heap[w.heap.size]? =some (.deferred (some [])):=by rw[<-hU2];exact(World.putObj_heap_other (by omega)).trans dU
   have af:Kp U U2:=by rw[<-hU2];exact hKb _ _ _ _ (by omega) lU rfl rfl
   have a5:StaysC V.heap.size cn U U2:=by rw[<-hU2];exact StaysC.grown (grownBy_putObj' _ _ _) (fun j e=>by cases e;omega)
   have a9:KeepsFrom V.heap.size U U2:=by rw[<-hU2];exact KeepsFrom.of_grownBy (grownBy_putObj' _ _ _) (fun j e=>by cases e;omega)
   have ae:I pre U2:=by rw[<-hU2];exact hI.putObj _ hiU (by omega) lU rfl
   have a7:Ax x a' U2:=by rw[<-hU2];exact(hAx x a').putObj (s:=()) _ hax (by omega) lU rfl
   refine wpIn_mono (hbody _ pre x a' _ ae a7 hlen (by have h1:=hst.1;have h2:=a5.1;omega)) ?_;have a2:∀(jump:Option Code)(T:World),KeepsFrom w.heap.size U2 T->
    (Instr.endRound (w.heap.size+1) jump).run P T=.ok (.bool jump.isNone) (T.putObj (w.heap.size+1) (.loop (rec (if jump.isNone then .ready else .done) jump)))/\
    T.heap[w.heap.size+1]? =some (.loop {rec .ready none with state:=.busy})/\
    (T.putObj (w.heap.size+1) (.loop (rec (if jump.isNone then .ready else .done) jump))).heap[w.heap.size+1]? =some (.loop (rec (if jump.isNone then .ready else .done) jump))/\
    (T.putObj (w.heap.size+1) (.loop (rec (if jump.isNone then .ready else .done) jump))).heap[w.heap.size]? =some (.deferred (some []))/\
    KeepsFrom V.heap.size W (T.putObj (w.heap.size+1) (.loop (rec (if jump.isNone then .ready else .done) jump))):=fun jump T hT=>by
    have a0:=hT.same _ _ (by omega) ag rfl;have:=run_endRound (P:=P) jump a0;refine⟨by rw[hrec]at this ⊢;exact this,a0,World.putObj_heap_same (Array.getElem?_eq_some_iff.1 a0).1,(World.putObj_heap_other (by omega)).trans (hT.same _ _ (Nat.le_refl _) a8 rfl),?_⟩;exact((BG hkf (by omega)).trans a9).trans ((BG hT (by omega)).trans (KeepsFrom.of_grownBy (grownBy_putObj' _ _ _) (fun j e=>by cases e;omega)))
   have a1:∀(c:Code)(T:World),KeepsFrom w.heap.size U2 T->Ix c (pre++[x]) T->∃b W',(Instr.endRound (w.heap.size+1) (some c)).run P T=.ok b W'/\
    ((b=.bool true/\(I (pre++[x]) W'/\W'.heap[w.heap.size+1]? =some (.loop (rec .ready none))/\W'.heap[w.heap.size]? =some (.deferred (some [])))/\KeepsFrom V.heap.size W W'/\StaysC V.heap.size cn W W'/\Kp W W')\/
     (b=.bool false/\(∃c,Ix c (pre++[x]) W'/\W'.heap[w.heap.size+1]? =some (.loop (rec .done (some c)))/\W'.heap[w.heap.size]? =some (.deferred (some [])))/\KeepsFrom V.heap.size W W')):=fun c T hT hx=>by
    obtain⟨hr,a0,hl4,hd4,hk4⟩:=a2 (some c) T hT;exact⟨_,_,hr,.inr ⟨rfl,⟨c,(hIx _).putObj _ hx (by omega) a0 rfl,hl4,hd4⟩,hk4⟩⟩
   rintro e a3 T hp;cases e with
   |normal=>
    obtain⟨hk3,⟨hst3,hkp3⟩,hi3⟩:=hp;obtain⟨hr,a0,hl4,hd4,hk4⟩:=a2 none T hk3;exact⟨_,_,hr,.inl ⟨rfl,⟨hI.putObj _ hi3 (by omega) a0 rfl,hl4,hd4⟩,hk4,((a4▸hst:StaysC V.heap.size cn W U).trans a5).trans ((a4▸hst3:StaysC V.heap.size cn U2 T).trans (StaysC.grown (grownBy_putObj' _ _ _) (fun j e=>by cases e;omega))),hKt hkp (hKt (hKt af hkp3) (hKb _ _ _ _ (by omega) a0 rfl rfl))⟩⟩
   |ret=>obtain⟨b,W',hr,h⟩:=a1 .ret T hp.1 hp.2;exact⟨_,_,hr,h.elim (fun h=>.inl ⟨by rw[h.1],h.2⟩) (fun h=>.inr ⟨by rw[h.1],h.2⟩)⟩
   |exit id=>obtain⟨b,W',hr,h⟩:=a1 (.exit id) T hp.1 hp.2;exact⟨_,_,hr,h.elim (fun h=>.inl ⟨by rw[h.1],h.2⟩) (fun h=>.inr ⟨by rw[h.1],h.2⟩)⟩
   |goto t=>obtain⟨b,W',hr,h⟩:=a1 (.goto t) T hp.1 hp.2;exact⟨_,_,hr,h.elim (fun h=>.inl ⟨by rw[h.1],h.2⟩) (fun h=>.inr ⟨by rw[h.1],h.2⟩)⟩
   |panic ch=>exact hp.elim
   |outgrown=>exact hp.elim
 · rintro e W2 ⟨⟨v,rfl⟩,(⟨xs,hS,hi,hl,hk⟩|⟨pre,hSp,c,hi,hl,hk⟩)⟩
   · exact⟨none,_,by have:=run_endLoop (P:=P) hl (by rw[hrec];simp);rw[hrec]at this;exact this,hdone _ xs _ (Nat.le_refl _) hS (hI.putObj _ hi (by omega) hl rfl) ((World.putObj_heap_other (by omega)).trans hk)⟩
   · exact⟨some c,_,by have:=run_endLoop (P:=P) hl (by rw[hrec];simp);rw[hrec]at this;exact this,hstop _ c pre _ (Nat.le_refl _) hSp ((hIx c).putObj _ hi (by omega) hl rfl) ((World.putObj_heap_other (by omega)).trans hk)⟩
attribute [local go_sem] Ad Af Ag Ab Ai Ah Oper.semAt_some
theorem Kz (D:Dk)(p q:Pl)(h:D.data.length<=140737488355328)(w:World):
 CR 194 #[dval D p q] w (.int .i64 D.sz):=by
 obtain⟨A1,c1⟩:=p;obtain⟨A2,c2⟩:=q;go_enter Tryz.func194,Tryz.ntmps194;go_wp2_with fail
 go_ret
 exact⟨rfl,Yz _⟩
theorem Bt (D:Dk)(p q:Pl)(h:D.data.length<=140737488355328)(k:Int)(w:World):
 CR 179 #[dval D p q,.int .i64 k] w (.bool (!D.there k)):=by
 have hs:=Kz D p q h;obtain⟨A1,c1⟩:=p;obtain⟨A2,c2⟩:=q;by_cases h0:k<0
 · have Hw:=hid (show D.there k=false by simp[Dk.there];omega);go_enter Tryz.func179,Tryz.ntmps179;go_wp2_with fail
   go_ret
   exact⟨by rw[Hw.out];rfl,Yz _⟩
 · have Hw:=hid (show(!D.there k)=decide ((D.sz:Int)<=k) by simp[Dk.there];rw[decide_eq_true (by omega:0<=k)];simp;rw[<-decide_not];congr 1;simp);go_enter Tryz.func179,Tryz.ntmps179;go_wp2_with (go_at_call 194;refine(hs _).mono ?_;rintro e w1 ⟨rfl,hb1⟩)
   go_ret
   exact⟨by rw[Hw.out];rfl,bt (Yz _) hb1⟩
def PutsIn (g off:Nat)(l:List (Int×List UInt8))(W:World):Prop:=
 ∀j (hj:j<l.length),W.cell? ⟨g,off+j*2,none⟩=some (.int .i64 l[j].1)/\W.cell? ⟨g,off+j*2+1,none⟩=some (.string (bs l[j].2))
def seqEnc (l:List (Int×List UInt8))(i:Fin l.length):Array Value:=#[.int .i64 (i.val:Int),.agg #[.int .i64 l[i.val].1,.string (bs l[i.val].2)]]
theorem Ns (F:Fence)(n:Nat)(h7:F.fn 203)(hro:F.round=none)(hn:1<=n)(l Bs g off cap:Nat)(A:Option Addr)(L:List (Int×List UInt8))(hA:L≠[]->A=some ⟨g,off,none⟩)(hreach:L.length<=1099511627776)(hcap:cap<=maxLen)(hlc:L.length<=cap)
 (J Jx:List (Fin L.length)->World->Prop)
 (hK:∀pre W,J pre W->W.cell? ⟨Bs,0,none⟩=some (.slice A L.length cap)/\PutsIn g off L W)
 (hY:∀pre x W,J pre W->pre.length<L.length->YieldAt F (n-1) Tryz.prog l (seqEnc L x) W fun e W'=>
  (e=.returned (.bool true)/\J (pre++[x]) W')\/(e=.returned (.bool false)/\Jx (pre++[x]) W'))
 (W:World) (h0:J [] W):
 CallsIn F n Tryz.prog 203 #[.func (.yield l) #[] #[],.pointer (some ⟨Bs,0,none⟩)] W fun e W'=>(∃v,e=.returned v)/\
  ((∃ys,ys.map (fun y=>y.val)=(List.range L.length).reverse/\J ys W')\/(∃pre,pre.map (fun y=>y.val)=((List.range L.length).reverse).take pre.length/\Jx pre W')):=by
 unfold maxLen at hcap;refine callsIn_of_wp Tryz.func203 rfl h7 ?_ hro;simp only[Tryz.ntmps203,Nat.reduceAdd,Nat.reduceSub,Yn];obtain⟨hBs,hby⟩:=hK _ _ h0
 gi_wp2
 gi_loopw [3] (fun i wr=>∃(pre:List (Fin L.length)),pre.length<=L.length/\i=.int .i64 ((L.length:Int)-1-pre.length)/\Hid (pre.map (fun y=>y.val)=((List.range L.length).reverse).take pre.length)/\J pre wr)
  (fun i _=>(intOf i+1).toNat)
 case atStart=>exact⟨[],Nat.zero_le _,by simp,Lib.hid rfl,h0⟩
 case round=>
  clear hBs hby;obtain⟨pre,hk,rfl,hpm,hJs⟩:=hrel;obtain⟨hbx,hby⟩:=hK _ _ hJs;by_cases hlt:pre.length<L.length
  · obtain rfl:=hA (by rintro rfl;simp at hlt);obtain⟨i,hi⟩:∃i,Hid (i=L.length-1-pre.length):=⟨_,hid rfl⟩;have hiL:i<L.length:=by have:=hi.out;omega
    obtain⟨x0,x1⟩:=hby i hiL;have a0:((L.length:Int)-1-pre.length)=(i:Int):=by have:=hi.out;omega
    have Hy:=hY pre ⟨i,hiL⟩ wr hJs (by omega);obtain⟨fn,tmps,assign,body,hy,hR⟩:=Hy;simp only[seqEnc]at hy;rw[a0];generalize hz:L[i]=z at*;obtain⟨za,zs⟩:=z;clear hz a0
    gi_wp2
    refine hR.mono ?_;rintro e W3 (⟨rfl,hJ3⟩|⟨rfl,hJx3⟩)
    · gi_wp2
      go_roundw
      case rel=>exact⟨pre++[⟨i,hiL⟩],by simp;omega,Ik (by have:=hi.out;simp;omega),hid (by
       rw[List.map_append,hpm.out];simp only[List.length_append,List.map_cons,List.map_nil,List.length_singleton]
       rw[List.take_succ_eq_append_getElem (by simpa using hlt)];simp[hi.out]),hJ3⟩
      case measure=>have:=hi.out;simp[intOf]
    · gi_wp2
      refine bodyPost_ret (results_none rfl _ _ _) rfl ?_;exact⟨⟨_,rfl⟩,.inr ⟨pre++[⟨i,hiL⟩],by
       rw[List.map_append,hpm.out];simp only[List.length_append,List.map_cons,List.map_nil,List.length_singleton]
       rw[List.take_succ_eq_append_getElem (by simpa using hlt)];simp[hi.out],hJx3⟩⟩
  · have a1:L.length<=pre.length:=by omega
    gi_wp2
    go_end0
    exact⟨⟨_,rfl⟩,.inl ⟨pre,by rw[hpm.out,List.take_of_length_le (by simpa using a1)],hJs⟩⟩
theorem OS {F:Fence}(hr:∀k,F.room k){n m:Nat}{P:Program}{l:Nat}{f:FuncId}{tmps:Array Value}{assign body:Code}{w:World}{R:Ending->World->Prop}
 (h:RoundIn F n P l f tmps assign body w R):RoundIn F m P l f tmps assign body w R:=⟨h.1,fun c cs _=>h.2 c cs (hr _)⟩
def PutsK (Bs:Nat)(sv:Value)(g off:Nat)(L:List (Int×List UInt8))(W W':World):Prop:=
 (W.cell? ⟨Bs,0,none⟩=some sv->W'.cell? ⟨Bs,0,none⟩=some sv)/\(PutsIn g off L W->PutsIn g off L W')
theorem PutsK.t {Bs:Nat}{sv:Value}{g off:Nat}{L:List (Int×List UInt8)}{A B C:World}(h:PutsK Bs sv g off L A B)(k:PutsK Bs sv g off L B C):PutsK Bs sv g off L A C:=
 ⟨fun x=>k.1 (h.1 x),fun x=>k.2 (h.2 x)⟩
theorem Cn {g off:Nat}{L:List (Int×List UInt8)}{W W':World}(h:PutsIn g off L W)(hk:W'.heap[g]? =W.heap[g]?):PutsIn g off L W':=fun j hj=>
 ⟨(World.cell?_of_block (w:=W) (a:=⟨g,off+j*2,none⟩) hk).trans (h j hj).1,(World.cell?_of_block (w:=W) (a:=⟨g,off+j*2+1,none⟩) hk).trans (h j hj).2⟩
theorem PutsK.b {Bs:Nat}{sv:Value}{g off:Nat}{L:List (Int×List UInt8)}(W:World)(l:Nat)(o o':Obj)(h:W.heap[l]? =some o)(hc:o.isCells=false):PutsK Bs sv g off L W (W.putObj l o'):=
 ⟨fun x=>cell_kept x (grownBy_putObj' W l o') (fun r e=>by cases e;exact⟨_,h,hc⟩),
  fun x j hj=>⟨cell_kept (x j hj).1 (grownBy_putObj' W l o') (fun r e=>by cases e;exact⟨_,h,hc⟩),cell_kept (x j hj).2 (grownBy_putObj' W l o') (fun r e=>by cases e;exact⟨_,h,hc⟩)⟩⟩
theorem Nt (F:Fence)(n:Nat)(h94:F.fn 203)(hro:F.round=none)(hn:1<=n)(Bs g off cap:Nat)(A:Option Addr)(L:List (Int×List UInt8))(hA:L≠[]->A=some ⟨g,off,none⟩)(hreach:L.length<=1099511627776)(hcap:cap<=maxLen)(hlc:L.length<=cap)(w:World)(hB:Bs<w.heap.size)(hg:g<w.heap.size)
 (hBs:w.cell? ⟨Bs,0,none⟩=some (.slice A L.length cap)) (hc:PutsIn g off L w):
 SeqStopsK F n Tryz.prog 203 #[.pointer (some ⟨Bs,0,none⟩)] (seqEnc L) (PutsK Bs (.slice A L.length cap) g off L) (fun ys=>ys.map (fun y=>y.val)=(List.range L.length).reverse) (fun pre=>pre.map (fun y=>y.val)=((List.range L.length).reverse).take pre.length) L.length w:=fun l J Jx W hW _ _ hY h0=>by
 refine(Ns F n h94 hro hn l Bs g off cap A L hA hreach hcap hlc
  (fun pre W=>J pre W/\W.cell? ⟨Bs,0,none⟩=some (.slice A L.length cap)/\PutsIn g off L W) Jx (fun pre W h=>h.2) ?_ W ⟨h0,(hW.cell (p:=⟨Bs,0,none⟩) hB).trans hBs,Cn hc (hW.block g hg)⟩).mono ?_
 · rintro pre x W1 ⟨hj,h1,h2⟩ hl;obtain⟨fn,tmps,assign,body,hy,hR⟩:=hY pre x W1 hj hl;refine⟨fn,tmps,assign,body,hy,hR.mono ?_⟩;rintro e W' (⟨he,hj',hk⟩|h)
   · exact .inl ⟨he,hj',hk.1 h1,hk.2 h2⟩
   · exact .inr h
 · rintro e W' ⟨hv,(⟨ys,h1,h2,_⟩|h)⟩
   · exact⟨hv,.inl ⟨ys,h1,h2⟩⟩
   · exact⟨hv,.inr h⟩
theorem putsBackFn (F:Fence)(n:Nat)(h81:F.fn 196)(hro:F.round=none)(a:Option Addr)(len cap:Nat)(w:World):
 CallsIn F n Tryz.prog 196 #[.slice a len cap] w fun e w'=>e=.returned (.func (.func 203) #[] #[.pointer (some ⟨w.heap.size,0,none⟩)])/\w'=w.alloc (.cells #[.slice a len cap] 22):=by
 refine callsIn_of_wp Tryz.func196 rfl h81 ?_ hro;simp only[Tryz.ntmps196,Nat.reduceAdd,Nat.reduceSub,Yn]
 gi_wp2
 go_ret
 exact⟨rfl,rfl⟩
def oneEnc (L:List (Int×List UInt8))(i:Fin L.length):Array Value:=#[.agg #[.int .i64 L[i.val].1,.string (bs L[i.val].2)]]
def KeptK (g:Nat)(A B:World):Prop:=B.heap[g]? =A.heap[g]?
theorem EB {g:Nat}{X Y:World}(h:Y.heap[g]? =X.heap[g]?)(hg:g<X.heap.size):g<Y.heap.size:=by
 rcases Nat.lt_or_ge g Y.heap.size with h'|h'
 · exact h'
 · rw[Array.getElem?_eq_none h',Array.getElem?_eq_getElem hg]at h;cases h
theorem DZ {B k:Nat}{X Y:World}{t:TypeId}{cs:Array Value}(h:Blk X k t cs)(hs:Stays B X Y)(hk:B<=k):Blk Y k t cs:=
 (hs.2 k hk (Array.getElem?_eq_some_iff.1 (show X.heap[k]? =some _ from h)).1).trans h
def putsAx (l Bd Y c1:Nat)(A:Option Addr)(D:Dk)(y:Fin D.cache.length)(a':Act)(V:World):Prop:=
 ∃B,a'={tmps:=#[.func (.yield l) #[] #[],.pointer (some ⟨Bd,0,none⟩),.pointer (some ⟨Y,0,none⟩),undef,.pointer (some ⟨B,0,none⟩),.pointer (some ⟨Bd,1,none⟩),.slice A D.cache.length c1,.func (.func 203) #[] #[.pointer (some ⟨Y+1,0,none⟩)],.int .i64 (y.val:Int),.agg #[.int .i64 D.cache[y.val].1,.string (bs D.cache[y.val].2)],undef,undef,undef,undef],defers:=[]}/\
  Blk V B 115 #[.int .i64 D.cache[y.val].1,.string (bs D.cache[y.val].2)]
theorem Nr (l Bd Y c1:Nat)(A:Option Addr)(D:Dk)(y:Fin D.cache.length)(a':Act)(B:Nat):OwnFrom B (fun(_:Unit) V=>putsAx l Bd Y c1 A D y a' V):=fun s X Z row ⟨b,he,hs⟩ hy hr=>
 ⟨b,he,(Own.from (AE b _ (fun _:Unit=>_)) B) s X Z row hs hy hr⟩
theorem Nv (F:Fence)(n:Nat)(h80:F.fn 195)(h81:F.fn 196)(h94:F.fn 203)(hro:F.round=none)(hrm:∀k,F.room k)(hn:3<=n)(D:Dk)(g off:Nat)(p q:Pl)(hp:D.cache≠[]->p.a=some ⟨g,off,none⟩)(Bd:Nat)(w:World)(hD:IsDk w D p q)(hB:Bd<w.heap.size)(hg:g<w.heap.size)(t:TypeId)
 (hBd:Blk w Bd t #[.string (bs D.data),.slice p.a D.cache.length p.c,.int .i64 D.fuse,.bool D.off,.slice q.a D.bad.length q.c]) (hc:PutsIn g off D.cache w):
 SeqO F n Tryz.prog 195 #[.pointer (some ⟨Bd,0,none⟩)] (oneEnc D.cache) (KeptK g) (fun ys=>ys.map (fun y=>y.val)=(List.range D.cache.length).reverse) (fun pre=>pre.map (fun y=>y.val)=((List.range D.cache.length).reverse).take pre.length) D.cache.length w:=by
 intro l J Jx W hW hJ hJx hY h0;obtain⟨A,c1⟩:=p;obtain⟨A2,c2⟩:=q;simp only at hp;have y0:=blk5 ((hBd.below hW hB).alloc (.cells #[.func (.yield l) #[] #[]] 268));have byl:=Blk.new W 268 #[.func (.yield l) #[] #[]];have a0:g<W.heap.size:=Nat.lt_of_lt_of_le hg hW.size;have hcW:=Cn hc (hW.block g hg);have a2:=hD.cl;have a4:=hD.pm;have a3:=hD.pc;have h1:1<=n:=by omega
 refine callsIn_of_wp_marks Tryz.func195 rfl h80 ?_ hro;simp only[Tryz.ntmps195,Nat.reduceAdd,Nat.reduceSub,Yn]
 gi_wp2_with (gi_at_call 196;refine(putsBackFn F _ h81 hro _ _ _ _).mono ?_;rintro e w' ⟨rfl,rfl⟩)
 have hbx:=Blk.new (W.alloc (.cells #[.func (.yield l) #[] #[]] 268)) 22 #[.slice A D.cache.length c1];rw[World.size_alloc]at hbx;refine wpIn_rangeFunc_ownH hro (by omega) (gf:=203) (lb:=#[.pointer (some ⟨W.heap.size+1,0,none⟩)]) rfl h94 (enters_of Tryz.func203 (by kernel_rfl) rfl)
  (Nt F (n-1) h94 hro (by omega) (W.heap.size+1) g off c1 A D.cache hp a2 a4 a3 ((W.alloc (.cells #[.func (.yield l) #[] #[]] 268)).alloc (.cells #[.slice A D.cache.length c1] 22)) (by simp) (by simp;omega) (by rw[hbx.cell];rfl) ?hby) PutsK.t (fun W l o o' q1 q2 q3 q4=>PutsK.b W l o o' q2 q3) (Below.refl _ _) (fun _=>rfl)
  (fun pre V=>J pre V/\(Blk V W.heap.size 268 #[.func (.yield l) #[] #[]]/\Blk V (W.heap.size+1) 22 #[.slice A D.cache.length c1])/\V.heap[g]? =W.heap[g]?)
  (fun c pre V=>c=.ret/\Jx pre V) ?hI ?hIx ?h0 (putsAx l Bd W.heap.size c1 A D) (fun y a'=>Nr _ _ _ _ _ _ _ _ _) ?assign ?body ?done ?stop
 case hby=>exact Cn hcW ((Below.heap_alloc _ _ _ (by simp;omega)).trans (Below.heap_alloc _ _ _ a0))
 case h0=>exact⟨hJ.alloc _ (hJ.alloc _ h0),⟨(byl.alloc _),hbx⟩,(Below.heap_alloc _ _ _ (by simp;omega)).trans (Below.heap_alloc _ _ _ a0)⟩
 case assign=>
  intro l' pre y V K ⟨hj,⟨hb1,hb2⟩,hg3⟩ hK
  dsimp only[seqEnc]
  gi_wp2
  refine hK _ _ (KeepsFrom.of_grownBy (World.grownBy_alloc V _ none) (fun j e=>by cases e)) ⟨fun x=>?_,fun x=>Cn x ?_⟩ ⟨hJ.alloc _ hj,⟨hb1.alloc _,hb2.alloc _⟩,?_⟩ ⟨V.heap.size,rfl,Blk.new _ _ _⟩
  · exact(Yz (W:=V) _).cell (Bb x)|>.trans x
  · exact Below.heap_alloc _ _ _ (EB hg3 a0)
  · exact(Below.heap_alloc _ _ _ (EB hg3 a0)).trans hg3
 case hI=>
  have hB:W.heap.size<=((W.alloc (.cells #[.func (.yield l) #[] #[]] 268)).alloc (.cells #[.slice A D.cache.length c1] 22)).heap.size:=by simp;omega
  refine OwnFrom.and (fun s X Y row hs hy hr=>hJ s X Y row hs hy (fun r e=>⟨Nat.le_trans hB (hr r e).1,(hr r e).2⟩)) (OwnFrom.and (Own.from (Own.and (AE _ _ _) (AE _ _ _)) _) ?_);intro s X Y row hs hy hr;exact(hy.block g (EB hs a0) (fun e=>by have:=(hr g e.symm).1;omega)).trans hs
 case hIx=>
  intro c;have hB:W.heap.size<=((W.alloc (.cells #[.func (.yield l) #[] #[]] 268)).alloc (.cells #[.slice A D.cache.length c1] 22)).heap.size:=by simp;omega
  exact fun s X Y row hs hy hr=>⟨hs.1,hJx s X Y row hs.2 hy (fun r e=>⟨Nat.le_trans hB (hr r e).1,(hr r e).2⟩)⟩
 case body=>
  rintro l' pre y a' V hl' hrec ⟨hj,⟨hb1,hb2⟩,hg3⟩ ⟨B,rfl,hbp⟩ hpl;have z1:=blk1 hb1;have z2:=blk2 hbp;obtain⟨fn,tmps,assign,body,hy,hR⟩:=hY pre y V hj hpl;simp only[oneEnc]at hy;have a1:RoundIn (F.inRound l') (n-1-1-1) Tryz.prog l fn tmps assign body V _:=OS hrm (m:=n-1-1-1) hR;have h3:1<=n-1-1:=by omega
  gi_wp2
  refine RoundIn.mono a1 ?_;rintro e V' (⟨rfl,hj',hst,hkg⟩|⟨rfl,hj',hkf⟩)
  · gi_wp2
    exact⟨BG hst.keeps (by simp;omega),⟨fun _=>by rw[(DZ hb2 hst (Nat.le_succ _)).cell];rfl,fun x=>Cn x hkg⟩,hj',⟨DZ hb1 hst (Nat.le_refl _),DZ hb2 hst (Nat.le_succ _)⟩,hkg.trans hg3⟩
  · gi_wp2
    exact⟨BG hkf (by simp;omega),rfl,hj'⟩
 case done=>
  rintro Dd ys V hDd hys ⟨hj,⟨hb1,hb2⟩,hg3⟩ hK
  gi_wp2
  refine⟨by simp,.inl ⟨_,_,rfl,run_takeDeferred hK,?_⟩⟩;exact⟨_,results_none rfl _ _ _,⟨_,rfl⟩,.inl ⟨ys,hys,hJ.putObj _ hj (by simp at hDd;omega) hK rfl⟩⟩
 case stop=>
  rintro Dd c pre V hDd hpre ⟨rfl,hj⟩ hK
  gi_wp2
  refine⟨by simp,.inl ⟨_,_,rfl,run_takeDeferred hK,?_⟩⟩;exact⟨_,results_none rfl _ _ _,⟨_,rfl⟩,.inr ⟨pre,hpre,hJx.putObj _ hj (by simp at hDd;omega) hK rfl⟩⟩
theorem CB (A:Option Addr)(l:List Int)(c:Nat)(x:Int)(w:World)(hA:Cells w A (intCells l))(hl:l.length<=17592186044416):
 Calls Tryz.prog 180 #[.slice A l.length c,.int .i64 x] w fun e w'=>e=.returned (.bool (decide (x∈l)))/\w'=w:=by
 cases l with
 |nil=>
  refine(Tryz.slices_Contains_int_empty A c x w).mono ?_;rintro e w' ⟨rfl,rfl⟩;exact⟨by simp,rfl⟩
 |cons a l=>
  obtain⟨b,off,rfl,hc⟩:=hA.int (i:=0) (by simp);refine(Tryz.slices_Contains_int b off (a::l).length c (a::l) x w (Nat.le_refl _) (by omega) (fun j hj=>by rw[hc j hj,List.getD_eq_getElem?_getD,List.getElem?_eq_getElem hj];rfl)).mono ?_;rintro e w' ⟨rfl,rfl⟩;refine⟨?_,rfl⟩;rw[List.take_of_length_le (Nat.le_refl _)];simp[List.contains_eq_mem]
theorem Nu (F:Fence)(n:Nat)(h63:F.fn 184)(hro:F.round=none)(D:Dk)(p q:Pl)(w:World):
 CallsIn F n Tryz.prog 184 #[dval D p q] w fun e w'=>e=.returned (.func (.func 195) #[] #[.pointer (some ⟨w.heap.size,0,none⟩)])/\w'=w.alloc (.cells #[.string (bs D.data),.slice p.a D.cache.length p.c,.int .i64 D.fuse,.bool D.off,.slice q.a D.bad.length q.c] 25):=by
 refine callsIn_of_wp Tryz.func184 rfl h63 ?_ hro;simp only[Tryz.ntmps184,Nat.reduceAdd,Nat.reduceSub,Yn]
 gi_wp2
 go_ret
 exact⟨rfl,rfl⟩
theorem PJ {n:Nat}{pre':List (Fin n)}{y:Fin n}(h:(pre'++[y]).map (fun y=>y.val)=((List.range n).reverse).take (pre'++[y]).length)(P:Fin n->Prop)(hP:∀y∈pre',P y):
 ∀j (hj:j<n),y.val<j->P ⟨j,hj⟩:=by
 intro j hj hy;have a0:pre'.length+1<=n:=by
  have:=congrArg List.length h;simp at this;omega
 have hg:∀i (hi:i<pre'.length+1),((pre'++[y])[i]'(by simpa using hi)).val=n-1-i:=by
  intro i hi;have e:((pre'++[y]).map (fun y=>y.val))[i]? =some ((pre'++[y])[i]'(by simpa using hi)).val:=by
   rw[List.getElem?_map,List.getElem?_eq_getElem (by simpa using hi)];rfl
  rw[h,List.getElem?_take_of_lt (by simpa using hi),List.getElem?_reverse (by simp;omega)]at e;simp only[List.length_range]at e;rw[List.getElem?_range (by omega)]at e;exact(Option.some.inj e).symm
 have hl:=hg pre'.length (by omega);simp at hl;have hi:=hg (n-1-j) (by omega);rw[List.getElem_append_left (by omega)]at hi;have:(pre'[n-1-j]'(by omega))=⟨j,hj⟩:=Fin.ext (by rw[hi];simp;omega);rw[<-this];exact hP _ (List.getElem_mem _)
theorem Kx (D:Dk)(p q:Pl)(k:Nat)(w:World)(hD:IsDk w D p q)(hl:D.data.length=D.sz*64)(h1:D.off=false)(h2:D.there k=true)(h3:¬(k:Int)∈D.bad):
 CR 165 #[dval D p q,.int .i64 k] w (.tuple #[.string (bs (D.sees k)),.int .i64 0]):=by
 obtain⟨A1,c1⟩:=p;obtain⟨A2,c2⟩:=q;have a2:0<=(k:Int)/\(k:Int)<D.sz:=by simpa[Dk.there]using h2
 have a8:k*64+64<=D.data.length:=by rw[hl];omega
 have a6:=hD.data;have a5:=hD.cl;have Hl:=hid hl;have Hk:=hid a2;have a0:=fun(W:World)(hW:Below w.heap.size w W)=>CB A2 D.bad c2 k W (hD.below hW).bad hD.bl
 rw[decide_eq_false h3]at a0;have a1:=Bt D ⟨A1,c1⟩ ⟨A2,c2⟩ hD.data k;rw[h2]at a1;have m1:(0:Int)<=(k:Int)*64:=by omega
 have m2:(k:Int)*64<=D.data.length:=by omega
 clear hl a2 h2 h3;have a4:=(Aq w (.cells #[.string (bs D.data),.slice A1 D.cache.length c1,.int .i64 D.fuse,.bool D.off,.slice A2 D.bad.length c2] 25) (.cells #[.int .i64 k] 3));have x0:=apc5 (Blk.new w 25) D A1 c1 A2 c2;obtain⟨data,cache,fuse,off,bad⟩:=D;simp only at h1 a8 a6 a5 m2;subst h1;refine(callsIn_wide (n:=6)).1 (callsIn_of_wp_marks Tryz.func165 rfl trivial (wpIn_wide.2 ?_) rfl);simp only[Tryz.ntmps165,Nat.reduceAdd,Nat.reduceSub,Yn];go_wp2_with fail
 go_step3
 go_wp2_with first|(go_at_call 179;refine(a1 _).mono ?_;rintro e w1 ⟨rfl,hb1⟩;have b1:=bt a4 hb1;obtain⟨x1,x2⟩:=AS hb1;have y1:=blk5 x1;have y2:=blk1 x2)|(go_at_call 180;refine(a0 _ b1).mono ?_;rintro e w2 ⟨rfl,rfl⟩)
 go_step3
 have x3:=Blk.new w2 9 #[.string (bs (List.take 64 (List.drop (k*64) data)))];have y3:=blk5 (x1.alloc (.cells #[.string (bs (List.take 64 (List.drop (k*64) data)))] 9));go_wp2_with (go_at_call 184;refine(callsIn_wide.1 (Nu Fence.wide 5 trivial rfl ⟨data,cache,fuse,false,bad⟩ ⟨A1,c1⟩ ⟨A2,c2⟩ _)).mono ?_;rintro e w3 ⟨rfl,rfl⟩)
 have n1:1<=6:=by omega
 obtain⟨g,off,hp,hg⟩:∃g off,(cache≠[]->A1=some ⟨g,off,none⟩)/\g<w.heap.size+1/\PutsIn g off cache w2:=by
  cases hcs:cache with
  |nil=>exact⟨w.heap.size,0,fun h=>absurd rfl h,by omega,fun j hj=>by simp at hj⟩
  |cons a l=>
   obtain⟨b,o,e,hc⟩:=(hD.below b1).cache.put (i:=0) (by simp[hcs]);have e':A1=some ⟨b,o,none⟩:=e;subst e';have h0:=hD.cache.put (i:=0) (by simp[hcs]);obtain⟨b',o',e',hc'⟩:=h0;cases e'
   have a9:=Bb (hc' 0 (by simp[hcs])).1;simp only at a9;exact⟨b,o,fun _=>rfl,by omega,by rw[<-hcs];exact hc⟩
 have aa:=hb1.size;simp only[Ys]at aa;have a3:IsDk ((w2.alloc (.cells #[.string (bs (List.take 64 (List.drop (k*64) data)))] 9)).alloc (.cells #[.string (bs data),.slice A1 cache.length c1,.int .i64 fuse,.bool false,.slice A2 bad.length c2] 25)) ⟨data,cache,fuse,false,bad⟩ ⟨A1,c1⟩ ⟨A2,c2⟩:=(hD.below b1).below (Aq _ _ _);have x4:=Blk.new (w2.alloc (.cells #[.string (bs (List.take 64 (List.drop (k*64) data)))] 9)) 25 #[.string (bs data),.slice A1 cache.length c1,.int .i64 fuse,.bool false,.slice A2 bad.length c2];rw[World.size_alloc]at x4;refine(wpIn_wide (n:=6)).1 ?_;refine ET rfl n1 (gf:=195) (lb:=#[.pointer (some ⟨w2.heap.size+1,0,none⟩)]) rfl trivial (enters_of Tryz.func195 (by kernel_rfl) rfl)
  (Nv Fence.wide 5 trivial trivial trivial rfl room_wide (by omega) ⟨data,cache,fuse,false,bad⟩ g off ⟨A1,c1⟩ ⟨A2,c2⟩ hp (w2.heap.size+1) _ a3 (by simp) (by simp;omega) 25 x4 ?hby)
  (fun h k=>Eq.trans k h) (fun W l o o' q1 q2 q3 q4=>World.putObj_heap_other (by simp at q1;omega)) (Below.refl _ _) (fun _=>rfl)
  (fun pre V=>(Blk V w2.heap.size 9 #[.string (bs (List.take 64 (List.drop (k*64) data)))]/\Blk V (w.heap.size+1) 3 #[.int .i64 k])/\Below w.heap.size w V/\Hid (∀y∈pre,cache[y.val].1≠k))
  (fun c pre V=>(∃pre' y,pre=pre'++[y]/\Hid (cache[y.val].1=(k:Int)/\∀y∈pre',cache[y.val].1≠(k:Int))/\Blk V w2.heap.size 9 #[.string (bs cache[y.val].2)])/\Below w.heap.size w V/\c=.exit 1)
  ?hI ?hIx ?h0
  (fun y a' V=>∃B,a'={tmps:=#[dval ⟨data,cache,fuse,false,bad⟩ ⟨A1,c1⟩ ⟨A2,c2⟩,.int .i64 k,.pointer (some ⟨w.heap.size,0,none⟩),.pointer (some ⟨w.heap.size+1,0,none⟩),.string (bs []),.int .i64 0,.pointer (some ⟨w2.heap.size,0,none⟩),.pointer (some ⟨B,0,none⟩),.bool false,.pointer (some ⟨w.heap.size,3,none⟩),.bool false,.bool false,
   .agg #[.string (bs data),.slice A1 cache.length c1,.int .i64 fuse,.bool false,.slice A2 bad.length c2],.int .i64 k,.bool false,.bool false,.pointer (some ⟨w.heap.size,4,none⟩),.slice A2 bad.length c2,.int .i64 k,.bool false,.pointer (some ⟨w.heap.size,0,none⟩),.string (bs data),.int .i64 k,.int .i64 (k*64),.string (bs (List.drop (k*64) data)),.string (bs (List.take 64 (List.drop (k*64) data))),
   .agg #[.string (bs data),.slice A1 cache.length c1,.int .i64 fuse,.bool false,.slice A2 bad.length c2],.func (.func 195) #[] #[.pointer (some ⟨w2.heap.size+1,0,none⟩)],.agg #[.int .i64 cache[y.val].1,.string (bs cache[y.val].2)],undef,undef,undef,undef,undef,undef,undef],defers:=[]}/\Blk V B 115 #[.int .i64 cache[y.val].1,.string (bs cache[y.val].2)])
  ?hAx ?assign ?body ?done ?stop
 case hby=>exact Cn hg.2 ((Below.heap_alloc _ _ _ (by simp;omega)).trans (Below.heap_alloc _ _ _ (by omega)))
 case hI=>exact OwnFrom.and (Own.from (Own.and (AE _ _ _) (AE _ _ _)) _) (OwnFrom.and (ownFrom_below (Nat.le_refl _) (by simp;omega)) (fun _ _ _ _ hs _ _=>hs))
 case hIx=>
  rintro c s X Y row ⟨⟨pre',y,e,h,hb⟩,hB,hc⟩ hy hr;refine⟨⟨pre',y,e,h,?_⟩,ownFrom_below (β:=Unit) (Nat.le_refl _) (by simp;omega) () X Y row hB hy hr,hc⟩;exact(Own.from (AE _ _ (fun _:Unit=>_)) _) () X Y row hb hy hr
 case h0=>exact⟨⟨x3.alloc _,(x2.alloc _).alloc _⟩,bt b1 (Aq _ _ _),hid (fun y hy=>by cases hy)⟩
 case hAx=>
  intro y a' s X Y row ⟨B,e,hs⟩ hy hr;exact⟨B,e,(Own.from (AE B _ (fun _:Unit=>_)) _) () X Y row hs hy hr⟩
 case assign=>
  rintro l pre y V K ⟨⟨hb1,hb2⟩,hB,hh⟩ hK
  dsimp only[oneEnc]
  gi_wp2
  refine hK _ _ (KeepsFrom.of_grownBy (World.grownBy_alloc V _ none) (fun j e=>by cases e)) (Stays.grown (World.grownBy_alloc V _ none) (fun j e=>by cases e)) (Below.heap_alloc _ _ _ (by have:=(Array.getElem?_eq_some_iff.1 hb2).1;omega)) ⟨⟨hb1.alloc _,hb2.alloc _⟩,hB.alloc (by have:=(Array.getElem?_eq_some_iff.1 hb2).1;omega) _,hh⟩ ⟨V.heap.size,rfl,Blk.new _ _ _⟩
 case body=>
  rintro l pre y a' V ⟨⟨hb1,hb2⟩,hB,hh⟩ ⟨B,rfl,hbp⟩ hpl;have z1:=blk1 hb1;have z2:=blk1 hb2;have z3:=blk2 hbp;have f1:=hb1.frozen 0;by_cases he:cache[y.val].1=k
  · have He:=hid he;have a7:(cache[y.val].1==(k:Int))=true:=by simpa using he
    clear he
    gi_wp2
    exact⟨(KeepsOthers.setCell _ _ _).from _,⟨pre,y,rfl,hid ⟨He.out,hh.out⟩,hb1.set 0 _⟩,hB.setCell (p:=⟨w2.heap.size,0,none⟩) (by simp;omega) _,rfl⟩
  · have He:=hid he;have a7:(cache[y.val].1==(k:Int))=false:=by simpa using he
    clear he
    gi_wp2
    exact⟨KeepsFrom.refl _ _,⟨Stays.refl _ _,rfl⟩,⟨hb1,hb2⟩,hB,hid (fun y' hy'=>by
     rcases List.mem_append.1 hy' with h|h
     · exact hh.out y' h
     · rw[List.mem_singleton.1 h];exact He.out)⟩
 case done=>
  rintro Dd ys V hDd hys ⟨⟨hb1,hb2⟩,hB,hh⟩ hK;have z1:=blk1 hb1;go_wp2_with fail
  refine⟨by simp,.inl ⟨_,_,rfl,run_takeDeferred hK,?_⟩⟩;refine⟨.tuple #[.string (bs (List.take 64 (List.drop (k*64) data))),.int .i64 0],by simp[results,Tryz.results165,go_sem],?_,?_⟩
  · rw[Dk.sees,Dk.seesIn_none (fun j hj=>by
     have:j∈ys.map (fun y=>y.val):=by rw[hys];simpa using hj
     obtain⟨y,hy,rfl⟩:=List.mem_map.1 this;exact hh.out y hy)]
    simp only[Option.getD_none,Dk.sector,Int.toNat_natCast,List.drop_take];rw[show(k+1)*64-k*64=64 by omega]
  · exact hB.trans (belowK_b (w:=w) (Nat.le_refl _) V Dd _ _ (by simp at hDd;omega) hK rfl rfl)
 case stop=>
  rintro Dd c pre V hDd hpre ⟨⟨pre',y,rfl,hh,hb1⟩,hB,rfl⟩ hK;have z1:=blk1 hb1;refine wpIn_wide.2 ?_;go_wp2_with fail
  refine⟨by simp,.inl ⟨_,_,rfl,run_takeDeferred hK,?_⟩⟩;refine⟨.tuple #[.string (bs cache[y.val].2),.int .i64 0],by simp[results,Tryz.results165,go_sem],?_,?_⟩
  · rw[Dk.sees,Dk.seesIn_some (i:=y.val) y.isLt hh.out.1 (PJ hpre (fun y=>cache[y.val].1≠(k:Int)) hh.out.2)];rfl
  · exact hB.trans (belowK_b (w:=w) (Nat.le_refl _) V Dd _ _ (by simp at hDd;omega) hK rfl rfl)
theorem Kw (D:Dk)(p q:Pl)(w:World)(hD:IsDk w D p q)(k:Int)(h1:D.off=true):
 CR 165 #[dval D p q,.int .i64 k] w (.tuple #[.string (bs (D.read k).1),.int .i64 (D.read k).2]):=by
 have Hw:=hid (show D.read k=([],12) by simp[Dk.read, *]);obtain⟨A1,c1⟩:=p;obtain⟨A2,c2⟩:=q;go_enter Tryz.func165,Tryz.ntmps165;go_wp2_with fail
 go_step3
 go_wp2_with fail
 try rw[Exit.noGoto_ret]
 go_ret2
 exact⟨by rw[Hw.out];rfl,Aq _ _ _⟩
theorem Ky (D:Dk)(p q:Pl)(w:World)(hD:IsDk w D p q)(k:Int)(h1:D.off=false)(h2:D.there k=false):
 CR 165 #[dval D p q,.int .i64 k] w (.tuple #[.string (bs (D.read k).1),.int .i64 (D.read k).2]):=by
 have Hw:=hid (show D.read k=([],10) by simp[Dk.read, *]);obtain⟨A1,c1⟩:=p;obtain⟨A2,c2⟩:=q;have a0:=Bt D ⟨A1,c1⟩ ⟨A2,c2⟩ hD.data k;rw[h2]at a0;clear h2;obtain⟨data,cache,fuse,off,bad⟩:=D;simp only at h1;subst h1;go_enter Tryz.func165,Tryz.ntmps165;go_wp2_with fail
 go_step3
 go_wp2_with (go_at_call 179;refine(a0 _).mono ?_;rintro e w1 ⟨rfl,hb1⟩)
 try rw[Exit.noGoto_ret]
 go_ret2
 exact⟨by rw[Hw.out];rfl,bt (Aq _ _ _) hb1⟩
theorem Kv (D:Dk)(p q:Pl)(w:World)(hD:IsDk w D p q)(k:Int)(h1:D.off=false)(h2:D.there k=true)(h3:k∈D.bad):
 CR 165 #[dval D p q,.int .i64 k] w (.tuple #[.string (bs (D.read k).1),.int .i64 (D.read k).2]):=by
 have Hw:=hid (show D.read k=([],13) by simp[Dk.read, *]);obtain⟨A1,c1⟩:=p;obtain⟨A2,c2⟩:=q;have a0:=fun(W:World)(hW:Below w.heap.size w W)=>CB A2 D.bad c2 k W (hD.below hW).bad hD.bl
 rw[decide_eq_true h3]at a0;have a1:=Bt D ⟨A1,c1⟩ ⟨A2,c2⟩ hD.data k;rw[h2]at a1;clear h2 h3;have a2:=(Aq w (.cells #[.string (bs D.data),.slice A1 D.cache.length c1,.int .i64 D.fuse,.bool D.off,.slice A2 D.bad.length c2] 25) (.cells #[.int .i64 k] 3));obtain⟨data,cache,fuse,off,bad⟩:=D;simp only at h1;subst h1;go_enter Tryz.func165,Tryz.ntmps165;go_wp2_with fail
 go_step3
 go_wp2_with first|(go_at_call 179;refine(a1 _).mono ?_;rintro e w1 ⟨rfl,hb1⟩;have b1:=bt a2 hb1;obtain⟨x1,x2⟩:=AS hb1;have y1:=blk5 x1;have y2:=blk1 x2)|(go_at_call 180;refine(a0 _ b1).mono ?_;rintro e w2 ⟨rfl,rfl⟩)
 try rw[Exit.noGoto_ret]
 go_ret2
 exact⟨by rw[Hw.out];rfl,b1⟩
theorem Ku (D:Dk)(p q:Pl)(w:World)(hD:IsDk w D p q)(k:Int)(hl:D.data.length=D.sz*64):
 CR 165 #[dval D p q,.int .i64 k] w (.tuple #[.string (bs (D.read k).1),.int .i64 (D.read k).2]):=by
 cases h1:D.off with
 |true=>exact Kw D p q w hD k h1
 |false=>
  cases h2:D.there k with
  |false=>exact Ky D p q w hD k h1 h2
  |true=>
   by_cases h3:k∈D.bad
   · exact Kv D p q w hD k h1 h2 h3
   · obtain⟨k,rfl⟩:=Int.eq_ofNat_of_zero_le (show 0<=k by simp[Dk.there]at h2;exact h2.1);rw[show D.read k=(D.sees k,0) by simp[Dk.read, *]];exact Kx D p q k w hD hl h1 h2 h3
end
section
open Go.RowKit Go.Shelf
attribute [local go_sem] Ad Af Ag Ab Ai Ah
theorem FZ (D:Dk)(p q:Pl)(w:World)(h:D.fuse=0):
 CR 79 #[dval D p q] w (.tuple #[dval {D with off:=true} p q,.bool false]):=by
 obtain⟨A1,c1⟩:=p;obtain⟨A2,c2⟩:=q;obtain⟨data,cache,fuse,off,bad⟩:=D;simp only at h;subst h;go_enter Tryz.func79,Tryz.ntmps79;go_wp2_with fail
 refine bodyPost_ret (v:=.tuple #[dval ⟨data,cache,0,true,bad⟩ ⟨A1,c1⟩ ⟨A2,c2⟩,.bool false]) (by simp[results,Tryz.results79,go_sem]) rfl ?_;exact⟨rfl,Aq _ _ _⟩
theorem Km (D:Dk)(p q:Pl)(w:World)(h:0<D.fuse)(hf:D.fuse<=9223372036854775807):
 CR 79 #[dval D p q] w (.tuple #[dval D.burnt p q,.bool true]):=by
 have Hb:=hid (show D.burnt={D with fuse:=D.fuse-1} by simp[Dk.burnt,h]);obtain⟨A1,c1⟩:=p;obtain⟨A2,c2⟩:=q;obtain⟨data,cache,fuse,off,bad⟩:=D;simp only at h hf;have h':((fuse:Int)==0)=false:=by simp;omega
 go_enter Tryz.func79,Tryz.ntmps79;go_wp2_with fail
 refine bodyPost_ret (v:=.tuple #[dval ⟨data,cache,fuse-1,off,bad⟩ ⟨A1,c1⟩ ⟨A2,c2⟩,.bool true]) (by simp[results,Tryz.results79,go_sem]) rfl ?_;exact⟨by rw[Hb.out],Aq _ _ _⟩
theorem Kn (D:Dk)(p q:Pl)(w:World)(h:D.fuse<0):
 CR 79 #[dval D p q] w (.tuple #[dval D.burnt p q,.bool true]):=by
 have Hb:=hid (show D.burnt=D by have h0:¬0<D.fuse:=(by omega);simp[Dk.burnt,h0]);obtain⟨A1,c1⟩:=p;obtain⟨A2,c2⟩:=q;obtain⟨data,cache,fuse,off,bad⟩:=D;simp only at h;have h':((fuse:Int)==0)=false:=by simp;omega
 go_enter Tryz.func79,Tryz.ntmps79;go_wp2_with fail
 refine bodyPost_ret (v:=.tuple #[dval ⟨data,cache,fuse,off,bad⟩ ⟨A1,c1⟩ ⟨A2,c2⟩,.bool true]) (by simp[results,Tryz.results79,go_sem]) rfl ?_;exact⟨by rw[Hb.out],Aq _ _ _⟩
theorem C8 (D:Dk)(p q:Pl)(w:World)(h0:D.fuse≠0)(hf:D.fuse<=9223372036854775807):
 CR 79 #[dval D p q] w (.tuple #[dval D.burnt p q,.bool true]):=by
 by_cases h:0<D.fuse
 · exact Km D p q w h hf
 · exact Kn D p q w (by omega)
theorem Tryz.infoPut':(Tryz.prog.info? 115).map (fun i=>(i.zero,i.size,i.bytes))=some (some (.agg #[.int .i64 0,.string ⟨#[]⟩]),2,24):=by kernel_rfl
theorem JT (A:Option Addr)(l:List (Int×List UInt8))(c:Nat)(w:World)(hA:Cells w A (putCells l))(hl:l.length<=1099511627776)(hn:A=none->c=0):
 Calls Tryz.prog 181 #[.slice A l.length c] w fun e w'=>∃v',e=.returned v'/\w'.ownsRow w.heap.size 115 2 v' l.length (putCells l)/\Below w.heap.size w w':=by
 have a1:∀(w:World)(a:Option Addr)(n c n' c':Nat),(binOp .eql 22 (.slice a n c) (.slice none n' c')).run Tryz.prog w=.ok (.bool a.isNone) w:=fun w a n c n' c'=>Lib.run_eql_slice_nil w _ _ a n c n' c' Tryz.underlying22
 obtain⟨i0,hi,hz0,hz1,hz2⟩:=info_parts Tryz.infoPut';cases A with
 |none=>
  have a0:l=[]:=by
   rcases hA with h|⟨b,off,he,_⟩
   · have:=congrArg List.length h;rw[Cm]at this;exact List.length_eq_zero_iff.1 (by simp at this;omega)
   · cases he
  subst a0;go_enter Tryz.func181,Tryz.ntmps181;go_wp2_with fail
  go_ret
  exact⟨_,rfl,World.ownsRow_nil _ _ _ _,Below.refl _ _⟩
 |some ad=>
  go_enter Tryz.func181,Tryz.ntmps181;go_wp2_with (at_builtin;refine Bg rfl _ _ 22 rfl w.heap.size 115 i0 (.agg #[.int .i64 0,.string ⟨#[]⟩]) 2 24 Tryz.underlying22 hi hz0 hz1 hz2 rfl (by decide) _ 0 [] rfl (World.ownsRow_made w #[] 0 (Nat.le_refl _) (Nat.zero_le _) rfl) (some ad) l.length c (putCells l) rfl (hA.below (Yz _)) (Cm _) (fun h=>by cases h) (G0 _) (by unfold maxLen;omega) (by omega) (by simp) ?_;intro v1 w3 hown1 hbl1;rw[Nat.zero_add,List.nil_append]at hown1)
  go_ret
  exact⟨_,rfl,hown1,(Yz _).trans hbl1⟩
theorem KD (D:Dk)(p q:Pl)(w:World)(hD:IsDk w D p q)(k:Int)(s:List UInt8)(hs:s.length<=9223372036854775807)(h1:D.off=true):
 CX 154 #[dval D p q,.int .i64 k,.string (bs s)] w (RetDkN w.heap.size D p q (D.write k s)):=by
 have Hw:=hid (show D.write k s=(D,12) by simp[Dk.write,h1]);obtain⟨A1,c1⟩:=p;obtain⟨A2,c2⟩:=q;obtain⟨data,cache,fuse,off,bad⟩:=D;simp only at h1;subst h1;go_enter Tryz.func154,Tryz.ntmps154;go_wp2_with fail
 rw[Hw.out];refine bodyPost_ret (v:=.tuple #[dval ⟨data,cache,fuse,true,bad⟩ ⟨A1,c1⟩ ⟨A2,c2⟩,.int .i64 12]) (by simp[results,Tryz.results154,go_sem]) rfl ?_;exact⟨⟨_,_,rfl,hD.below (Aq _ _ _),fun _ _ h=>h⟩,Aq _ _ _⟩
theorem KF (D:Dk)(p q:Pl)(w:World)(hD:IsDk w D p q)(k:Int)(s:List UInt8)(hs:s.length<=9223372036854775807)(h1:D.off=false)(h2:D.there k=false):
 CX 154 #[dval D p q,.int .i64 k,.string (bs s)] w (RetDkN w.heap.size D p q (D.write k s)):=by
 have Hw:=hid (show D.write k s=(D,10) by simp[Dk.write, *]);obtain⟨A1,c1⟩:=p;obtain⟨A2,c2⟩:=q;have a2:=hD.data;have a1:=hD.cl;have a0:=Bt D ⟨A1,c1⟩ ⟨A2,c2⟩ hD.data k;rw[h2]at a0;obtain⟨data,cache,fuse,off,bad⟩:=D;simp only at h1 a2 a1;subst h1;clear h2;go_enter Tryz.func154,Tryz.ntmps154;go_wp2_with (go_at_call 179;refine(a0 _).mono ?_;rintro e w1 ⟨rfl,hb1⟩;obtain⟨b0,b1⟩:=AS hb1;have y0:=blk5 b0;have y1:=blk5 b1;have y2:=b1.frozen;have y3:=b0.frozen)
 rw[Hw.out];have z1:=Ap b1 (.string (bs data)) (.slice A1 cache.length c1) (.int .i64 fuse) (.bool false) (.slice A2 bad.length c2);have hb:=Ao (bt (Aq _ _ _) hb1) (g:=w.heap.size+1) (by omega) (.string (bs data)) (.slice A1 cache.length c1) (.int .i64 fuse) (.bool false) (.slice A2 bad.length c2);have z2:=blk5 z1;refine bodyPost_ret (v:=.tuple #[dval ⟨data,cache,fuse,false,bad⟩ ⟨A1,c1⟩ ⟨A2,c2⟩,.int .i64 10]) (by simp[results,Tryz.results154,go_sem,z2]) rfl ?_;exact⟨⟨_,_,rfl,hD.below hb,fun _ _ h=>h⟩,hb⟩
theorem KG (D:Dk)(p q:Pl)(w:World)(hD:IsDk w D p q)(k:Int)(s:List UInt8)(hs:s.length<=9223372036854775807)(h1:D.off=false)(h2:D.there k=true)(h3:s.length≠64):
 CX 154 #[dval D p q,.int .i64 k,.string (bs s)] w (RetDkN w.heap.size D p q (D.write k s)):=by
 have Hw:=hid (show D.write k s=(D,11) by simp[Dk.write, *]);obtain⟨A1,c1⟩:=p;obtain⟨A2,c2⟩:=q;have a2:=hD.data;have a1:=hD.cl;have a0:=Bt D ⟨A1,c1⟩ ⟨A2,c2⟩ hD.data k;rw[h2]at a0;obtain⟨data,cache,fuse,off,bad⟩:=D;simp only at h1 a2 a1;subst h1;have hl:((s.length:Int) !=64)=true:=by simp;omega
 clear h2 h3;go_enter Tryz.func154,Tryz.ntmps154;go_wp2_with (go_at_call 179;refine(a0 _).mono ?_;rintro e w1 ⟨rfl,hb1⟩;obtain⟨b0,b1⟩:=AS hb1;have y0:=blk5 b0;have y1:=blk5 b1;have y2:=b1.frozen;have y3:=b0.frozen)
 rw[Hw.out];have z1:=Ap b1 (.string (bs data)) (.slice A1 cache.length c1) (.int .i64 fuse) (.bool false) (.slice A2 bad.length c2);have hb:=Ao (bt (Aq _ _ _) hb1) (g:=w.heap.size+1) (by omega) (.string (bs data)) (.slice A1 cache.length c1) (.int .i64 fuse) (.bool false) (.slice A2 bad.length c2);have z2:=blk5 z1;refine bodyPost_ret (v:=.tuple #[dval ⟨data,cache,fuse,false,bad⟩ ⟨A1,c1⟩ ⟨A2,c2⟩,.int .i64 11]) (by simp[results,Tryz.results154,go_sem,z2]) rfl ?_;exact⟨⟨_,_,rfl,hD.below hb,fun _ _ h=>h⟩,hb⟩
theorem KB (D:Dk)(p q:Pl)(w:World)(hD:IsDk w D p q)(k:Int)(s:List UInt8)(hs:s.length<=9223372036854775807)(h1:D.off=false)(h2:D.there k=true)(h3:s.length=64)(h4:D.fuse=0):
 CX 154 #[dval D p q,.int .i64 k,.string (bs s)] w (RetDkN w.heap.size D p q (D.write k s)):=by
 have Hw:=hid (show D.write k s=({D with off:=true},12) by simp[Dk.write, *]);obtain⟨A1,c1⟩:=p;obtain⟨A2,c2⟩:=q;have a6:=hD.data;have a5:=hD.cl;have a0:=Bt D ⟨A1,c1⟩ ⟨A2,c2⟩ hD.data k;rw[h2]at a0;have a4:=fun W=>FZ D ⟨A1,c1⟩ ⟨A2,c2⟩ W h4
 obtain⟨data,cache,fuse,off,bad⟩:=D;simp only at h1 a6 a5 h4;subst h1;subst h4;have hl:((s.length:Int) !=64)=false:=by simp;omega
 clear h2 h3;go_enter Tryz.func154,Tryz.ntmps154;go_wp2_with first|(go_at_call 179;refine(a0 _).mono ?_;rintro e w1 ⟨rfl,hb1⟩;obtain⟨b0,b1⟩:=AS hb1;have y0:=blk5 b0;have y1:=blk5 b1;have y2:=b1.frozen;have y3:=b0.frozen)|(go_at_call 79;refine(a4 _).mono ?_;rintro e w2 ⟨rfl,hb2⟩;have s2:w.heap.size+1+1<=w1.heap.size:=(by simpa using hb1.size);have s3:w1.heap.size<=w2.heap.size:=hb2.size;have a8:¬(w2.heap.size=w.heap.size+1):=(by omega);have ne2:¬(w.heap.size+1=w2.heap.size):=(by omega);have hW:=(bt (bt (Aq _ _ _) hb1) hb2).alloc (by omega) (.cells #[.string (bs data),.slice A1 cache.length c1,.int .i64 0,.bool true,.slice A2 bad.length c2] 25);have a2:=(b0.bl hb2).alloc (.cells #[.string (bs data),.slice A1 cache.length c1,.int .i64 0,.bool true,.slice A2 bad.length c2] 25);have a1:=(b1.bl hb2).alloc (.cells #[.string (bs data),.slice A1 cache.length c1,.int .i64 0,.bool true,.slice A2 bad.length c2] 25);have a3:=Blk.new w2 25 #[.string (bs data),.slice A1 cache.length c1,.int .i64 0,.bool true,.slice A2 bad.length c2];have a9:=blk5 a2;have aa:=blk5 a1;have ab:=blk5 a3;have a7:=a1.frozen)
 rw[Hw.out];have z1:=Ap a1 (.string (bs data)) (.slice A1 cache.length c1) (.int .i64 0) (.bool true) (.slice A2 bad.length c2);have hb:=Ao (hW) (g:=w.heap.size+1) (by omega) (.string (bs data)) (.slice A1 cache.length c1) (.int .i64 0) (.bool true) (.slice A2 bad.length c2);have z2:=blk5 z1;refine bodyPost_ret (v:=.tuple #[dval ⟨data,cache,0,true,bad⟩ ⟨A1,c1⟩ ⟨A2,c2⟩,.int .i64 12]) (by simp[results,Tryz.results154,go_sem,z2]) rfl ?_;exact⟨⟨_,_,rfl,(hD.setOff true).below hb,fun _ _ h=>h⟩,hb⟩
theorem KA (D:Dk)(p q:Pl)(w:World)(hD:IsDk w D p q)(k:Int)(s:List UInt8)(hs:s.length<=9223372036854775807)(h1:D.off=false)(h2:D.there k=true)(h3:s.length=64)(h4:D.fuse≠0)(h5:k∈D.bad):
 CX 154 #[dval D p q,.int .i64 k,.string (bs s)] w (RetDkN w.heap.size D p q (D.write k s)):=by
 have Hw:=hid (show D.write k s=(D,13) by simp[Dk.write, *]);obtain⟨A1,c1⟩:=p;obtain⟨A2,c2⟩:=q;have a7:=hD.data;have a6:=hD.cl;have a0:=fun(W:World)(hW:Below w.heap.size w W)=>CB A2 D.bad c2 k W (hD.below hW).bad hD.bl
 rw[decide_eq_true h5]at a0;have a1:=Bt D ⟨A1,c1⟩ ⟨A2,c2⟩ hD.data k;rw[h2]at a1;have a3:=fun W=>C8 D ⟨A1,c1⟩ ⟨A2,c2⟩ W h4 hD.fuse.2
 obtain⟨data,cache,fuse,off,bad⟩:=D;simp only at h1 a7 a6 h4;subst h1;obtain⟨F,hF⟩:∃F,F=if 0<fuse then fuse-1 else fuse:=⟨_,rfl⟩
 rw[show(⟨data,cache,fuse,false,bad⟩:Dk).burnt=⟨data,cache,F,false,bad⟩ by rw[hF];rfl]at a3;have hl:((s.length:Int) !=64)=false:=by simp;omega
 clear h2 h3 h4 h5 hF;go_enter Tryz.func154,Tryz.ntmps154;go_wp2_with first|(go_at_call 179;refine(a1 _).mono ?_;rintro e w1 ⟨rfl,hb1⟩;obtain⟨b0,b1⟩:=AS hb1;have y0:=blk5 b0;have y1:=blk5 b1;have y2:=b1.frozen;have y3:=b0.frozen)|(go_at_call 79;refine(a3 _).mono ?_;rintro e w2 ⟨rfl,hb2⟩;have s2:w.heap.size+1+1<=w1.heap.size:=(by simpa using hb1.size);have s3:w1.heap.size<=w2.heap.size:=hb2.size;have a9:¬(w2.heap.size=w.heap.size+1):=(by omega);have ne2:¬(w.heap.size+1=w2.heap.size):=(by omega);have hW:=(bt (bt (Aq _ _ _) hb1) hb2).alloc (by omega) (.cells #[.string (bs data),.slice A1 cache.length c1,.int .i64 F,.bool false,.slice A2 bad.length c2] 25);have a4:=(b0.bl hb2).alloc (.cells #[.string (bs data),.slice A1 cache.length c1,.int .i64 F,.bool false,.slice A2 bad.length c2] 25);have a2:=(b1.bl hb2).alloc (.cells #[.string (bs data),.slice A1 cache.length c1,.int .i64 F,.bool false,.slice A2 bad.length c2] 25);have a5:=Blk.new w2 25 #[.string (bs data),.slice A1 cache.length c1,.int .i64 F,.bool false,.slice A2 bad.length c2];have aa:=blk5 a4;have ab:=blk5 a2;have ac:=blk5 a5;have a8:=a2.frozen)|(go_at_call 180;refine(a0 _ hW).mono ?_;rintro e w3 ⟨rfl,rfl⟩)
 rw[Hw.out];have z1:=Ap a2 (.string (bs data)) (.slice A1 cache.length c1) (.int .i64 fuse) (.bool false) (.slice A2 bad.length c2);have hb:=Ao (hW) (g:=w.heap.size+1) (by omega) (.string (bs data)) (.slice A1 cache.length c1) (.int .i64 fuse) (.bool false) (.slice A2 bad.length c2);have z2:=blk5 z1;refine bodyPost_ret (v:=.tuple #[dval ⟨data,cache,fuse,false,bad⟩ ⟨A1,c1⟩ ⟨A2,c2⟩,.int .i64 13]) (by simp[results,Tryz.results154,go_sem,z2]) rfl ?_;exact⟨⟨_,_,rfl,hD.below hb,fun _ _ h=>h⟩,hb⟩
theorem KC (D:Dk)(p q:Pl)(w:World)(hD:IsDk w D p q)(k:Int)(s:List UInt8)(hs:s.length<=9223372036854775807)(h1:D.off=false)(h2:D.there k=true)(h3:s.length=64)(h4:D.fuse≠0)(h5:k∉D.bad)(h6:4096<=D.cache.length):
 CX 154 #[dval D p q,.int .i64 k,.string (bs s)] w (RetDkN w.heap.size D p q (D.write k s)):=by
 have Hw:=hid (show D.write k s=(D,16) by simp[Dk.write, *]);obtain⟨A1,c1⟩:=p;obtain⟨A2,c2⟩:=q;have a7:=hD.data;have a6:=hD.cl;have a0:=fun(W:World)(hW:Below w.heap.size w W)=>CB A2 D.bad c2 k W (hD.below hW).bad hD.bl
 rw[decide_eq_false h5]at a0;have a1:=Bt D ⟨A1,c1⟩ ⟨A2,c2⟩ hD.data k;rw[h2]at a1;have a3:=fun W=>C8 D ⟨A1,c1⟩ ⟨A2,c2⟩ W h4 hD.fuse.2
 obtain⟨data,cache,fuse,off,bad⟩:=D;simp only at h1 a7 a6 h4 h6;subst h1;obtain⟨F,hF⟩:∃F,F=if 0<fuse then fuse-1 else fuse:=⟨_,rfl⟩
 rw[show(⟨data,cache,fuse,false,bad⟩:Dk).burnt=⟨data,cache,F,false,bad⟩ by rw[hF];rfl]at a3;have hl:((s.length:Int) !=64)=false:=by simp;omega
 clear h2 h3 h4 h5 hF;go_enter Tryz.func154,Tryz.ntmps154;go_wp2_with first|(go_at_call 179;refine(a1 _).mono ?_;rintro e w1 ⟨rfl,hb1⟩;obtain⟨b0,b1⟩:=AS hb1;have y0:=blk5 b0;have y1:=blk5 b1;have y2:=b1.frozen;have y3:=b0.frozen)|(go_at_call 79;refine(a3 _).mono ?_;rintro e w2 ⟨rfl,hb2⟩;have s2:w.heap.size+1+1<=w1.heap.size:=(by simpa using hb1.size);have s3:w1.heap.size<=w2.heap.size:=hb2.size;have a9:¬(w2.heap.size=w.heap.size+1):=(by omega);have ne2:¬(w.heap.size+1=w2.heap.size):=(by omega);have hW:=(bt (bt (Aq _ _ _) hb1) hb2).alloc (by omega) (.cells #[.string (bs data),.slice A1 cache.length c1,.int .i64 F,.bool false,.slice A2 bad.length c2] 25);have a4:=(b0.bl hb2).alloc (.cells #[.string (bs data),.slice A1 cache.length c1,.int .i64 F,.bool false,.slice A2 bad.length c2] 25);have a2:=(b1.bl hb2).alloc (.cells #[.string (bs data),.slice A1 cache.length c1,.int .i64 F,.bool false,.slice A2 bad.length c2] 25);have a5:=Blk.new w2 25 #[.string (bs data),.slice A1 cache.length c1,.int .i64 F,.bool false,.slice A2 bad.length c2];have aa:=blk5 a4;have ab:=blk5 a2;have ac:=blk5 a5;have a8:=a2.frozen)|(go_at_call 180;refine(a0 _ hW).mono ?_;rintro e w3 ⟨rfl,rfl⟩)
 rw[Hw.out];have z1:=Ap a2 (.string (bs data)) (.slice A1 cache.length c1) (.int .i64 fuse) (.bool false) (.slice A2 bad.length c2);have hb:=Ao (hW) (g:=w.heap.size+1) (by omega) (.string (bs data)) (.slice A1 cache.length c1) (.int .i64 fuse) (.bool false) (.slice A2 bad.length c2);have z2:=blk5 z1;refine bodyPost_ret (v:=.tuple #[dval ⟨data,cache,fuse,false,bad⟩ ⟨A1,c1⟩ ⟨A2,c2⟩,.int .i64 16]) (by simp[results,Tryz.results154,go_sem,z2]) rfl ?_;exact⟨⟨_,_,rfl,hD.below hb,fun _ _ h=>h⟩,hb⟩
theorem KE (D:Dk)(p q:Pl)(w:World)(hD:IsDk w D p q)(k:Int)(hk: -9223372036854775808<=k/\k<=9223372036854775807)(s:List UInt8)(hs:s.length<=9223372036854775807)(h1:D.off=false)(h2:D.there k=true)(h3:s.length=64)(h4:D.fuse≠0)(h5:k∉D.bad)(h6:D.cache.length<4096):
 CX 154 #[dval D p q,.int .i64 k,.string (bs s)] w (RetDkN w.heap.size D p q (D.write k s)):=by
 have Hw:=hid (show D.write k s=(({D with cache:=D.cache++[(k,s)]}:Dk).burnt,0) by simp[Dk.write,h1,h2,h3,h4,h5];omega);obtain⟨A1,c1⟩:=p;obtain⟨A2,c2⟩:=q;have af:=hD.data;have a9:=hD.cl;have a0:=fun(W:World)(hW:Below w.heap.size w W)=>CB A2 D.bad c2 k W (hD.below hW).bad hD.bl
 rw[decide_eq_false h5]at a0;have a1:=Bt D ⟨A1,c1⟩ ⟨A2,c2⟩ hD.data k;rw[h2]at a1;have a8:=fun W=>C8 D ⟨A1,c1⟩ ⟨A2,c2⟩ W h4 hD.fuse.2
 have a6:=fun(W:World)(hW:Below w.heap.size w W)=>JT A1 D.cache c1 W (hD.below hW).cache a9 hD.pn
 obtain⟨data,cache,fuse,off,bad⟩:=D;simp only at h1 af a9 h4 h6;subst h1;obtain⟨F,hF⟩:∃F,F=if 0<fuse then fuse-1 else fuse:=⟨_,rfl⟩
 have ac: -9223372036854775808<=F/\F<=9223372036854775807:=by have:=hD.fuse;simp only at this;rw[hF];split<;>omega
 rw[show(⟨data,cache,fuse,false,bad⟩:Dk).burnt=⟨data,cache,F,false,bad⟩ by rw[hF];rfl]at a8;rw[show(⟨data,cache++[(k,s)],fuse,false,bad⟩:Dk).burnt=⟨data,cache++[(k,s)],F,false,bad⟩ by rw[hF];rfl]at Hw;have hl:((s.length:Int) !=64)=false:=by simp;omega
 clear h2 h3 h4 h5 hF;obtain⟨i0,hi,hz0,hz1,hz2⟩:=info_parts Tryz.infoPut';go_enter Tryz.func154,Tryz.ntmps154;go_wp2_with (first|(go_at_call 179;refine(a1 _).mono ?_;rintro e w1 ⟨rfl,hb1⟩;obtain⟨b0,b1⟩:=AS hb1;have y0:=blk5 b0;have y1:=blk5 b1;have y2:=b1.frozen;have y3:=b0.frozen)|(go_at_call 180;refine(a0 _ hW).mono ?_;rintro e w2 ⟨rfl,rfl⟩)|(go_at_call 79;go_loud (refine(a8 _).mono ?_;rintro e w2 ⟨rfl,hb2⟩;have s2:w.heap.size+1+1<=w1.heap.size:=(by simpa using hb1.size);have s3:w1.heap.size<=w2.heap.size:=hb2.size;have aj:¬(w2.heap.size=w.heap.size+1):=(by omega);have ne2:¬(w.heap.size+1=w2.heap.size):=(by omega);have hW:=(bt (bt (Aq _ _ _) hb1) hb2).alloc (by omega) (.cells #[.string (bs data),.slice A1 cache.length c1,.int .i64 F,.bool false,.slice A2 bad.length c2] 25);have a4:=(b0.bl hb2).alloc (.cells #[.string (bs data),.slice A1 cache.length c1,.int .i64 F,.bool false,.slice A2 bad.length c2] 25);have a2:=(b1.bl hb2).alloc (.cells #[.string (bs data),.slice A1 cache.length c1,.int .i64 F,.bool false,.slice A2 bad.length c2] 25);have a3:=Blk.new w2 25 #[.string (bs data),.slice A1 cache.length c1,.int .i64 F,.bool false,.slice A2 bad.length c2];have ak:=blk5 a4;have al:=blk5 a2;have an:=blk5 a3))|(go_at_call 181;refine(a6 _ hW).mono ?_;rintro e w4 ⟨v1,rfl,hown1,hb4⟩;obtain⟨V1,C1,hv1,hv2,hv3,hv4⟩:=Aw hown1;rw[hv1];rw[hv1]at hown1;clear hv1)|(at_builtin;refine Bg rfl (.tmp 47) (.tmp 51) 22 rfl _ 115 i0 (.agg #[.int .i64 0,.string ⟨#[]⟩]) 2 24 Tryz.underlying22 hi hz0 hz1 hz2 rfl (by decide) _ cache.length (putCells cache) rfl (hown1.alloc _) (some ⟨w4.heap.size,0,none⟩) 1 1 [.int .i64 k,.string (bs s)] rfl (FI _ _ _) rfl (fun h=>by cases h) (by simp[Value.oneCell']) (by unfold maxLen;omega) (by omega) (by have:=hb4.size;simp at this ⊢;omega) ?_;intro v2 w5 hown2 hbl2;obtain⟨V2,C2,hw1,hw2,hw3,hw4⟩:=Aw hown2;rw[hw1];rw[hw1]at hown2;clear hw1;have ag:=((a4.bl hb4).alloc (.cells #[.int .i64 k,.string (bs s)] 115)).below hbl2 a4.lt;have a5:=((a2.bl hb4).alloc (.cells #[.int .i64 k,.string (bs s)] 115)).below hbl2 a2.lt;have a7:=((a3.bl hb4).alloc (.cells #[.int .i64 k,.string (bs s)] 115)).below hbl2 a3.lt;have am:=blk5 a5;have ao:=blk5 a7;have ah:=a5.frozen;have ai:=a7.frozen))
 rw[Hw.out];have ad:Below w.heap.size w w5:=(((hW.trans (hb4.mono (by simp;omega))).alloc (by have:=hb4.size;simp at this;omega) _).trans (hbl2.mono (by simp;omega)));have ae:=ad.setCell (p:=⟨w2.heap.size,1,none⟩) (by simp;omega) (.slice V2 (cache.length+1) C2);have aa:=a5.other (a:=⟨w2.heap.size,1,none⟩) (by simp;omega) (.slice V2 (cache.length+1) C2);have z1:=Ap aa (.string (bs data)) (.slice V2 (cache.length+1) C2) (.int .i64 F) (.bool false) (.slice A2 bad.length c2);have hb:=Ao ae (g:=w.heap.size+1) (by omega) (.string (bs data)) (.slice V2 (cache.length+1) C2) (.int .i64 F) (.bool false) (.slice A2 bad.length c2);have z2:=blk5 z1;refine bodyPost_ret (v:=.tuple #[dval ⟨data,cache++[(k,s)],F,false,bad⟩ ⟨V2,C2⟩ ⟨A2,c2⟩,.int .i64 0]) (by simp[results,Tryz.results154,go_sem,z2]) rfl ?_;have ab:=hD.below hb;refine⟨⟨⟨V2,C2⟩,⟨A2,c2⟩,rfl,{ab with cache:=?_,pn:=hw4,pc:=by simpa using hw2,pm:=hw3,cl:=by simp;omega,fuse:=ac,strs:=?_,ats:=?_},fun g hg h=>⟨by have:=A7 (g:=g) hown2 (by have:=a2.lt;omega);simpa using this,h.2⟩⟩,hb⟩
 · have hc:=Cells.of_own hown2;have e0:putCells cache++[.int .i64 k,.string (bs s)]=putCells (cache++[(k,s)]):=by simp[putCells]
   rw[e0]at hc;have q0:=AF hown2 a3.lt;have q1:=AF hown2 a2.lt;exact(hc.setCell (p:=⟨w2.heap.size,1,none⟩) q0 _).set5 q1 _ _ _ _ _
 · intro x hx
   rcases List.mem_append.1 hx with h|h
   · exact hD.strs x h
   · simp at h;subst h;exact hs
 · intro x hx
   rcases List.mem_append.1 hx with h|h
   · exact hD.ats x h
   · simp at h;subst h;exact hk
theorem F6 (D:Dk)(p q:Pl)(w:World)(hD:IsDk w D p q)(k:Int)(hk: -9223372036854775808<=k/\k<=9223372036854775807)(s:List UInt8)(hs:s.length<=9223372036854775807):
 CX 154 #[dval D p q,.int .i64 k,.string (bs s)] w (RetDkN w.heap.size D p q (D.write k s)):=by
 cases h1:D.off with
 |true=>exact KD D p q w hD k s hs h1
 |false=>
  cases h2:D.there k with
  |false=>exact KF D p q w hD k s hs h1 h2
  |true=>
   by_cases h3:s.length=64
   · by_cases h4:D.fuse=0
     · exact KB D p q w hD k s hs h1 h2 h3 h4
     · by_cases h5:k∈D.bad
       · exact KA D p q w hD k s hs h1 h2 h3 h4 h5
       · by_cases h6:4096<=D.cache.length
         · exact KC D p q w hD k s hs h1 h2 h3 h4 h5 h6
         · exact KE D p q w hD k hk s hs h1 h2 h3 h4 h5 (by omega)
   · exact KG D p q w hD k s hs h1 h2 h3
theorem Mv:Tryz.prog.follows .mixedOrders=true:=by kernel_rfl
theorem JP (w:World)(e:TypeId)(l:List UInt8):Below w.heap.size w (Lib.bytesWorld w e (bs l))/\RowB (Lib.bytesWorld w e (bs l)) w.heap.size l:=by
 refine⟨⟨rfl,rfl,rfl,by rw[Lib.bytesWorld_size];omega,fun k hk=>Lib.bytesWorld_at_old w e _ k hk⟩,fun j hj=>⟨?_,?_⟩⟩
 · rw[Lib.bytesWorld_cell w e (bs l) j (by rw[Ab];exact hj),A9];simp[hj]
 · have hs:l.length<=(Lib.bytesCells w e (bs l)).size:=by simp[Lib.bytesCells,bs]
   simp only[World.frozen?,Lib.bytesWorld_at_new];simp;omega
theorem Ko (i:Int)(w:World):Calls Tryz.prog 81 #[.int .i64 i] w fun e w'=>e=.returned (.bool true)/\w'=w:=by
 go_enter Tryz.func81,Tryz.ntmps81;go_wp2_with fail
 go_ret
 exact⟨rfl,rfl⟩
theorem Kt (D:Dk)(p q:Pl)(w:World)(hD:IsDk w D p q)(hf:D.fit=true):
 CR 80 #[dval D p q,.func (.func 81) #[] #[]] w (.string (bs (D.last fun i=>true))):=by
 obtain⟨A1,c1⟩:=p;obtain⟨A2,c2⟩:=q;obtain⟨f1,f2,f3,f4,f5,_⟩:=Dk.fit_parts hf;have Hf:=hid hf;clear hf
 have aa:=hid f5;clear f5
 have F3:=hid f3;clear f3
 have aj:=hD.data;have hb:=Yz (W:=w) (.cells #[.string (bs D.data),.slice A1 D.cache.length c1,.int .i64 D.fuse,.bool D.off,.slice A2 D.bad.length c2] 25);have hbx:=apc5 (Blk.new w 25) D A1 c1 A2 c2;generalize hkeep:(fun i:Nat=>true)=keep;have a2:=hid hkeep;clear hkeep
 have a5:=Lib.run_convert_string_bytes (P:=Tryz.prog) (w.alloc (.cells #[.string (bs D.data),.slice A1 D.cache.length c1,.int .i64 D.fuse,.bool D.off,.slice A2 D.bad.length c2] 25)) 9 139 5 (bs D.data) Tryz.underlying9 Tryz.underlying139 Tryz.underlying5;obtain⟨q1,q2⟩:=JP (w.alloc (.cells #[.string (bs D.data),.slice A1 D.cache.length c1,.int .i64 D.fuse,.bool D.off,.slice A2 D.bad.length c2] 25)) 5 D.data;have ad:D.data.length<=grownCap (w.alloc (.cells #[.string (bs D.data),.slice A1 D.cache.length c1,.int .i64 D.fuse,.bool D.off,.slice A2 D.bad.length c2] 25)) D.data.length 0 5:=grownCap_ge _ _ _ _;rw[World.size_alloc]at q2;replace hb:=bt hb q1;replace hbx:=hbx.below q1 (by simp);clear q1;simp only[Ab,World.size_alloc]at a5;generalize grownCap (w.alloc (.cells #[.string (bs D.data),.slice A1 D.cache.length c1,.int .i64 D.fuse,.bool D.off,.slice A2 D.bad.length c2] 25)) D.data.length 0 5=cap at*;generalize Lib.bytesWorld (w.alloc (.cells #[.string (bs D.data),.slice A1 D.cache.length c1,.int .i64 D.fuse,.bool D.off,.slice A2 D.bad.length c2] 25)) 5 (bs D.data)=w1 at*;have k1:=blk5 hbx;go_enter Tryz.func80,Tryz.ntmps80;go_wp2_with fail
 go_loopw [14] (fun x W=>∃i:Nat,i<=D.cache.length/\x=.int .i64 i/\RowB W (w.heap.size+1) (D.lastN keep i)/\
  Blk W w.heap.size 25 #[.string (bs D.data),.slice A1 D.cache.length c1,.int .i64 D.fuse,.bool D.off,.slice A2 D.bad.length c2]/\Below w.heap.size w W) (fun x _=>D.cache.length-(intOf x).toNat)
 case atStart=>exact⟨0,Nat.zero_le _,rfl,q2,hbx,hb⟩
 case round=>
  clear hbx hb q2 a5 k1;obtain⟨i,hi,rfl,hrow,hbx,hb⟩:=hrel;have k0:=blk5 hbx;by_cases hlt:i<D.cache.length
  · obtain⟨pb,po,hpa,hcell⟩:=(hD.below hb).cache.put hlt;simp only at hpa;subst hpa;obtain⟨x0,x1⟩:=hcell i hlt;clear hcell;obtain⟨z1,z2,z3⟩:=aa.out i hlt;obtain⟨k,s,hx⟩:∃(k:Nat)(s:List UInt8),D.cache[i]=((k:Int),s):=⟨D.cache[i].1.toNat,D.cache[i].2,Prod.ext (by simp;omega) rfl⟩;have Hls:=hid (Dk.lastN_succ D keep i hlt);rw[hx]at x0 x1 z2 z3 Hls;simp only at x0 x1 z2 z3 Hls;clear z1 hx;have a1:D.data.length=D.sz*64:=F3.out;have hw:IntKind.i64.wrap ((k:Int)*64)=(k:Int)*64:=IntWalk.i64_in _ (by omega);have af:(0:Int)<=(k:Int)*64:=by omega
    have ag:(k:Int)*64<=D.data.length:=by omega
    have ah:¬cap=k*64:=by omega
    have ak:((k:Int)*64).toNat=k*64:=by omega
    clear a1;have a9:keep i=true:=by rw[<-a2.out]
    have Hki:=hid a9;clear a9
    have a3:=fun(W:World)=>Ko i W
    obtain⟨ai,kp⟩:=Z2 (Blk.new wr 115 #[.int .i64 k,.string (bs s)]);go_wp2_with (go_at_call 81;refine(a3 _).mono ?_;rintro e w' ⟨rfl,rfl⟩)
    have ae:w.heap.size+1<wr.heap.size:=Bb (hrow 0 (by rw[Dk.lastN_length Hf.out];omega)).1;have a0:RowB (wr.alloc (.cells #[.int .i64 k,.string (bs s)] 115)) (w.heap.size+1) (D.lastN keep i):=hrow.kept (Below.heap_alloc _ _ _ ae);have ab:=hb.alloc (by omega) (.cells #[.int .i64 k,.string (bs s)] 115);have a6:=hbx.alloc (.cells #[.int .i64 k,.string (bs s)] 115);clear hrow x0 x1 k0 a3;generalize wr.alloc (.cells #[.int .i64 k,.string (bs s)] 115)=W2 at*
    go_still_tail 7,Mv
    change wpList _ _ _ _ _ W2.drew
    have a0:RowB W2.drew (w.heap.size+1) (D.lastN keep i):=a0;have a8:=Dk.lastN_length Hf.out keep i;have a1:D.data.length=D.sz*64:=F3.out;refine wpList_step (fun K hK=>step_copy_string rfl (.tmp 26) (.tmp 28) 139 9 rfl 5 Tryz.underlying139 Tryz.sizeOf5 (w.heap.size+1) (k*64) (D.data.length-k*64) (cap-k*64) rfl (bs s) rfl
     (by rw[Ab];omega) (fun j hj=>by rw[Ab]at hj;rw[(a0 (k*64+j) (by omega)).1];rfl) (fun j hj=>by rw[Ab]at hj;exact(a0 (k*64+j) (by omega)).2) (hK _ _ ?_))
    rw[A9];have a4:=a0.setCells s (k*64) (by omega);have ac:=below_setCells' (B:=w.heap.size) (g:=w.heap.size+1) (by omega) (s.map fun x=>Value.int .u8 (x.toNat:Int)) (k*64) ab.drew;have a7:Blk (W2.drew.setCells (w.heap.size+1) (k*64) (s.map fun x=>Value.int .u8 (x.toNat:Int))) w.heap.size 25 _:=(Bx (by omega) _ _ _).trans a6;generalize W2.drew.setCells (w.heap.size+1) (k*64) (s.map fun x=>Value.int .u8 (x.toNat:Int))=w3 at*;clear a1 a8;go_wp2_with fail
    refine⟨?_,?measure⟩
    (repeat apply Exists.intro)
    refine⟨?rel,rfl⟩
    case rel=>exact⟨i+1,by omega,by go_num,by rw[Hls.out,Hki.out,if_pos rfl];exact a4,a7,ac⟩
    case measure=>simp[intOf];omega
  · obtain rfl:i=D.cache.length:=by omega
    have a5:=run_convert_bytes_back (P:=Tryz.prog) wr 139 9 5 ⟨w.heap.size+1,0,none⟩ cap (D.lastN keep D.cache.length) Tryz.underlying139 Tryz.underlying5 Tryz.underlying9 (fun j hj=>by
     have e:(Addr.add ⟨w.heap.size+1,0,none⟩ j)=⟨w.heap.size+1,j,none⟩:=by simp only[Addr.add];split<;>simp_all
     rw[e];exact(hrow j hj).1)
    rw[Dk.lastN_length Hf.out,<-F3.out,Ad]at a5;go_wp2_with fail
    go_ret
    exact⟨rfl,hb⟩
theorem Kr (D:Dk)(p q:Pl)(w:World)(hD:IsDk w D p q)(h1:D.off=true):
 CX 40 #[dval D p q] w (RetDkN w.heap.size D p q D.flush):=by
 have Hw:=hid (show D.flush=(D,12) by simp[Dk.flush,h1]);go_enter Tryz.func40,Tryz.ntmps40;go_wp2_with fail
 rw[Hw.out];refine bodyPost_ret (v:=.tuple #[dval D p q,.int .i64 12]) (by simp[results,Tryz.results40,go_sem,h1]) rfl ?_;exact⟨⟨_,_,rfl,hD.below (Aq _ _ _),fun _ _ h=>h⟩,Aq _ _ _⟩
theorem Kq (D:Dk)(p q:Pl)(w:World)(hD:IsDk w D p q)(h1:D.off=false)(h2:D.fuse=0):
 CX 40 #[dval D p q] w (RetDkN w.heap.size D p q D.flush):=by
 have Hw:=hid (show D.flush=({D with off:=true},12) by simp[Dk.flush,h1,h2]);obtain⟨A1,c1⟩:=p;obtain⟨A2,c2⟩:=q;have a1:=fun W=>FZ D ⟨A1,c1⟩ ⟨A2,c2⟩ W h2
 obtain⟨data,cache,fuse,off,bad⟩:=D;simp only at h1 h2;subst h1 h2;go_enter Tryz.func40,Tryz.ntmps40;go_wp2_with (go_at_call 79;refine(a1 _).mono ?_;rintro e w2 ⟨rfl,hb2⟩;obtain⟨b0,b1⟩:=AS hb2;have s2:w.heap.size+1+1<=w2.heap.size:=(by simpa using hb2.size);have a3:¬(w2.heap.size=w.heap.size+1):=(by omega);have ne2:¬(w.heap.size+1=w2.heap.size):=(by omega);have a0:=b1.alloc (.cells #[.string (bs data),.slice A1 cache.length c1,.int .i64 0,.bool true,.slice A2 bad.length c2] 25);have a4:=blk5 a0;have a2:=a0.frozen;have hW:=(bt (Aq _ _ _) hb2).alloc (by omega) (.cells #[.string (bs data),.slice A1 cache.length c1,.int .i64 0,.bool true,.slice A2 bad.length c2] 25))
 rw[Hw.out];have z1:=Ap a0 (.string (bs data)) (.slice A1 cache.length c1) (.int .i64 0) (.bool true) (.slice A2 bad.length c2);have hb:=Ao hW (g:=w.heap.size+1) (by omega) (.string (bs data)) (.slice A1 cache.length c1) (.int .i64 0) (.bool true) (.slice A2 bad.length c2);have z2:=blk5 z1;refine bodyPost_ret (v:=.tuple #[dval ⟨data,cache,0,true,bad⟩ ⟨A1,c1⟩ ⟨A2,c2⟩,.int .i64 12]) (by simp[results,Tryz.results40,go_sem,z2]) rfl ?_;exact⟨⟨_,_,rfl,(hD.setOff true).below hb,fun _ _ h=>h⟩,hb⟩
theorem Ks (D:Dk)(p q:Pl)(w:World)(hD:IsDk w D p q)(hf:D.fit=true)(h1:D.off=false)(h2:D.fuse≠0):
 CX 40 #[dval D p q] w (RetDkN w.heap.size D p q D.flush):=by
 have Hw:=hid (show D.flush=(({D with data:=D.last fun _=>true,cache:=[]}:Dk).burnt,0) by simp[Dk.flush,h1,h2]);have a5:=Dk.lastN_length hf (fun _=>true) D.cache.length;obtain⟨f1,f2,f3,_⟩:=Dk.fit_parts hf;obtain⟨A1,c1⟩:=p;obtain⟨A2,c2⟩:=q;have a0:=fun(W:World)(hW:IsDk W D ⟨A1,c1⟩ ⟨A2,c2⟩)=>Kt D ⟨A1,c1⟩ ⟨A2,c2⟩ W hW hf
 have a4:=fun W=>C8 D ⟨A1,c1⟩ ⟨A2,c2⟩ W h2 hD.fuse.2
 change (D.last fun _=>true).length=_ at a5
 generalize (D.last fun _=>true)=L at*;have hL:L.length<=140737488355328:=by have:=hD.data;omega
 clear f1 f2 f3 a5 hf h2;obtain⟨data,cache,fuse,off,bad⟩:=D;simp only at h1;subst h1;obtain⟨F,hF⟩:∃F,F=if 0<fuse then fuse-1 else fuse:=⟨_,rfl⟩
 have a9: -9223372036854775808<=F/\F<=9223372036854775807:=by have:=hD.fuse;simp only at this;rw[hF];split<;>omega
 rw[show(⟨data,cache,fuse,false,bad⟩:Dk).burnt=⟨data,cache,F,false,bad⟩ by rw[hF];rfl]at a4;rw[show(⟨L,[],fuse,false,bad⟩:Dk).burnt=⟨L,[],F,false,bad⟩ by rw[hF];rfl]at Hw;clear hF;go_enter Tryz.func40,Tryz.ntmps40;go_wp2_with (first|(go_at_call 79;refine(a4 _).mono ?_;rintro e w2 ⟨rfl,hb2⟩;obtain⟨b0,b1⟩:=AS hb2;have s2:w.heap.size+1+1<=w2.heap.size:=(by simpa using hb2.size);have ae:¬(w2.heap.size=w.heap.size+1):=(by omega);have ne2:¬(w.heap.size+1=w2.heap.size):=(by omega);have a6:=b0.alloc (.cells #[.string (bs data),.slice A1 cache.length c1,.int .i64 F,.bool false,.slice A2 bad.length c2] 25);have a1:=b1.alloc (.cells #[.string (bs data),.slice A1 cache.length c1,.int .i64 F,.bool false,.slice A2 bad.length c2] 25);have a8:=Blk.new w2 25 #[.string (bs data),.slice A1 cache.length c1,.int .i64 F,.bool false,.slice A2 bad.length c2];have af:=blk5 a6;have ag:=blk5 a1;have ab:=a1.frozen;have hW:=(bt (Aq _ _ _) hb2).alloc (by omega) (.cells #[.string (bs data),.slice A1 cache.length c1,.int .i64 F,.bool false,.slice A2 bad.length c2] 25))|(go_at_call 80;refine(a0 _ (hD.below hW)).mono ?_;rintro e w3 ⟨rfl,hb3⟩;have a2:=a1.bl hb3;have a3:=a8.bl hb3;have ah:=blk5 a2;have ai:=blk5 a3;have ac:=a2.frozen;have ad:=a3.frozen;have hX:=bt hW hb3))
 rw[Hw.out];have aa:=(hX.setCell (p:=⟨w2.heap.size,0,none⟩) (by simp;omega) (.string (bs L))).setCell (p:=⟨w2.heap.size,1,none⟩) (by simp;omega) (.slice none 0 0);have a7:=(a2.other (a:=⟨w2.heap.size,0,none⟩) (by simp;omega) (.string (bs L))).other (a:=⟨w2.heap.size,1,none⟩) (by simp;omega) (.slice none 0 0);have z1:=Ap a7 (.string (bs L)) (.slice none 0 0) (.int .i64 F) (.bool false) (.slice A2 bad.length c2);have hb:=Ao aa (g:=w.heap.size+1) (by omega) (.string (bs L)) (.slice none 0 0) (.int .i64 F) (.bool false) (.slice A2 bad.length c2);have z2:=blk5 z1;refine bodyPost_ret (v:=.tuple #[dval ⟨L,[],F,false,bad⟩ ⟨none,0⟩ ⟨A2,c2⟩,.int .i64 0]) (by simp[results,Tryz.results40,go_sem,z2]) rfl ?_;exact⟨⟨_,_,rfl,((hD.flushed hL).setFuse a9).below hb,fun _ _ h=>⟨.inl rfl,h.2⟩⟩,hb⟩
theorem F5 (D:Dk)(p q:Pl)(w:World)(hD:IsDk w D p q)(hf:D.fit=true):
 CX 40 #[dval D p q] w (RetDkN w.heap.size D p q D.flush):=by
 cases h1:D.off with
 |true=>exact Kr D p q w hD h1
 |false=>
  by_cases h2:D.fuse=0
  · exact Kq D p q w hD h1 h2
  · exact Ks D p q w hD hf h1 h2
end
end Go.Proofs.YtmiilfnchfdfcaaGreatDoor
