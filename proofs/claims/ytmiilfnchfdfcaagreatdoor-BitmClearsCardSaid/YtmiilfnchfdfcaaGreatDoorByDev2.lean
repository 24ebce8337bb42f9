/- By: Dev1, Dev2. -/
import Derived.Test.YtmiilfnchfdfcaaGreatDoorByRanges
import Derived.Test.YtmiilfnchfdfcaaGreatDoorShelf
import Derived.WalkMore
set_option maxRecDepth 100000
set_option maxHeartbeats 40000000
set_option linter.unusedVariables false
namespace Go.Proofs.YtmiilfnchfdfcaaGreatDoor
section
open Go.RowKit Go.Shelf
attribute [local go_sem] Ad Ag Ah Ac Aj Ai Oper.semAt_some
theorem JG (D:Dk)(p q:Pl)(h:D.data.length<=140737488355328)(w:World):
 Calls Tryz.prog 194 #[dval D p q] w fun e w'=>e=.returned (.int .i64 D.sz)/\Below w.heap.size w w':=by
 obtain⟨A1,c1⟩:=p;obtain⟨A2,c2⟩:=q;go_enter Tryz.func194,Tryz.ntmps194;go_wp2_with fail
 go_ret
 exact⟨rfl,Yz _⟩
theorem Bi (D:Dk)(p q:Pl)(h:D.data.length<=140737488355328)(k:Int)(w:World):
 Calls Tryz.prog 179 #[dval D p q,.int .i64 k] w fun e w'=>e=.returned (.bool (!D.there k))/\Below w.heap.size w w':=by
 have hs:=JG D p q h;obtain⟨A1,c1⟩:=p;obtain⟨A2,c2⟩:=q;by_cases h0:k<0
 · have Hw:=hid (show D.there k=false by simp[Dk.there];omega);go_enter Tryz.func179,Tryz.ntmps179;go_wp2_with fail
   go_ret
   exact⟨by rw[Hw.out];rfl,Yz _⟩
 · have Hw:=hid (show(!D.there k)=decide ((D.sz:Int)<=k) by simp[Dk.there];rw[decide_eq_true (by omega:0<=k)];simp;rw[<-decide_not];congr 1;simp);go_enter Tryz.func179,Tryz.ntmps179;go_wp2_with (go_at_call 194;refine(hs _).mono ?_;rintro e w1 ⟨rfl,hb1⟩)
   go_ret
   exact⟨by rw[Hw.out];rfl,bt (Yz _) hb1⟩
def PutsIn (g off:Nat)(l:List (Int×List UInt8))(W:World):Prop:=
 ∀j (hj:j<l.length),W.cell? ⟨g,off+j*2,none⟩=some (.int .i64 l[j].1)/\W.cell? ⟨g,off+j*2+1,none⟩=some (.string (bs l[j].2))
def seqEnc (l:List (Int×List UInt8))(i:Fin l.length):Array Value:=#[.int .i64 (i.val:Int),.agg #[.int .i64 l[i.val].1,.string (bs l[i.val].2)]]
theorem Mq (F:Fence)(n:Nat)(h7:F.fn 203)(hro:F.round=none)(hn:1<=n)(l Bs g off cap:Nat)(A:Option Addr)(L:List (Int×List UInt8))(hA:L≠[]->A=some ⟨g,off,none⟩)(hreach:L.length<=1099511627776)(hcap:cap<=maxLen)(hlc:L.length<=cap)
 (J Jx:List (Fin L.length)->World->Prop)
 (hK:∀pre W,J pre W->W.cell? ⟨Bs,0,none⟩=some (.slice A L.length cap)/\PutsIn g off L W)
 (hY:∀pre x W,J pre W->pre.length<L.length->YieldAt F (n-1) Tryz.prog l (seqEnc L x) W fun e W'=>
  (e=.returned (.bool true)/\J (pre++[x]) W')\/(e=.returned (.bool false)/\Jx (pre++[x]) W'))
 (W:World) (h0:J [] W):
 CallsIn F n Tryz.prog 203 #[.func (.yield l) #[] #[],.pointer (some ⟨Bs,0,none⟩)] W fun e W'=>(∃v,e=.returned v)/\
  ((∃ys,ys.map (fun y=>y.val)=(List.range L.length).reverse/\J ys W')\/(∃pre,pre.map (fun y=>y.val)=((List.range L.length).reverse).take pre.length/\Jx pre W')):=by
 unfold maxLen at hcap;refine callsIn_of_wp Tryz.func203 rfl h7 ?_ hro;simp only[Tryz.ntmps203,Nat.reduceAdd,Nat.reduceSub,Yn];obtain⟨hBs,hby⟩:=hK _ _ h0
 gi_wp2
 gi_loopw [3] (fun i wr=>∃(pre:List (Fin L.length)),pre.length<=L.length/\i=.int .i64 ((L.length:Int)-1-pre.length)/\Hid (pre.map (fun y=>y.val)=((List.range L.length).reverse).take pre.length)/\J pre wr)
  (fun i _=>(intOf i+1).toNat)
 case atStart=>exact⟨[],Nat.zero_le _,by simp,Lib.hid rfl,h0⟩
 case round=>
  clear hBs hby;obtain⟨pre,hk,rfl,hpm,hJs⟩:=hrel;obtain⟨hbx,hby⟩:=hK _ _ hJs;by_cases hlt:pre.length<L.length
  · obtain rfl:=hA (by rintro rfl;simp at hlt);obtain⟨i,hi⟩:∃i,Hid (i=L.length-1-pre.length):=⟨_,hid rfl⟩;have hiL:i<L.length:=by have:=hi.out;omega
    obtain⟨x0,x1⟩:=hby i hiL;have hie:((L.length:Int)-1-pre.length)=(i:Int):=by have:=hi.out;omega
    have Hy:=hY pre ⟨i,hiL⟩ wr hJs (by omega);obtain⟨fn,tmps,assign,body,hy,hR⟩:=Hy;simp only[seqEnc]at hy;rw[hie];generalize hz:L[i]=z at*;obtain⟨za,zs⟩:=z;clear hz hie
    gi_wp2
    refine hR.mono ?_;rintro e W3 (⟨rfl,hJ3⟩|⟨rfl,hJx3⟩)
    · gi_wp2
      go_roundw
      case rel=>exact⟨pre++[⟨i,hiL⟩],by simp;omega,GH (by have:=hi.out;simp;omega),hid (by
       rw[List.map_append,hpm.out];simp only[List.length_append,List.map_cons,List.map_nil,List.length_singleton]
       rw[List.take_succ_eq_append_getElem (by simpa using hlt)];simp[hi.out]),hJ3⟩
      case measure=>have:=hi.out;simp[intOf]
    · gi_wp2
      refine bodyPost_ret (results_none rfl _ _ _) rfl ?_;exact⟨⟨_,rfl⟩,.inr ⟨pre++[⟨i,hiL⟩],by
       rw[List.map_append,hpm.out];simp only[List.length_append,List.map_cons,List.map_nil,List.length_singleton]
       rw[List.take_succ_eq_append_getElem (by simpa using hlt)];simp[hi.out],hJx3⟩⟩
  · have hle:L.length<=pre.length:=by omega
    gi_wp2
    go_end0
    exact⟨⟨_,rfl⟩,.inl ⟨pre,by rw[hpm.out,List.take_of_length_le (by simpa using hle)],hJs⟩⟩
theorem NH {F:Fence}(hr:∀k,F.room k){n m:Nat}{P:Program}{l:Nat}{f:FuncId}{tmps:Array Value}{assign body:Code}{w:World}{R:Ending->World->Prop}
 (h:RoundIn F n P l f tmps assign body w R):RoundIn F m P l f tmps assign body w R:=⟨h.1,fun c cs _=>h.2 c cs (hr _)⟩
def PutsK (Bs:Nat)(sv:Value)(g off:Nat)(L:List (Int×List UInt8))(W W':World):Prop:=
 (W.cell? ⟨Bs,0,none⟩=some sv->W'.cell? ⟨Bs,0,none⟩=some sv)/\(PutsIn g off L W->PutsIn g off L W')
theorem PutsK.t {Bs:Nat}{sv:Value}{g off:Nat}{L:List (Int×List UInt8)}{A B C:World}(h:PutsK Bs sv g off L A B)(k:PutsK Bs sv g off L B C):PutsK Bs sv g off L A C:=
 ⟨fun x=>k.1 (h.1 x),fun x=>k.2 (h.2 x)⟩
theorem Cc {g off:Nat}{L:List (Int×List UInt8)}{W W':World}(h:PutsIn g off L W)(hk:W'.heap[g]? =W.heap[g]?):PutsIn g off L W':=fun j hj=>
 ⟨(World.cell?_of_block (w:=W) (a:=⟨g,off+j*2,none⟩) hk).trans (h j hj).1,(World.cell?_of_block (w:=W) (a:=⟨g,off+j*2+1,none⟩) hk).trans (h j hj).2⟩
theorem PutsK.b {Bs:Nat}{sv:Value}{g off:Nat}{L:List (Int×List UInt8)}(W:World)(l:Nat)(o o':Obj)(h:W.heap[l]? =some o)(hc:o.isCells=false):PutsK Bs sv g off L W (W.putObj l o'):=
 ⟨fun x=>cell_kept x (grownBy_putObj' W l o') (fun r e=>by cases e;exact⟨_,h,hc⟩),
  fun x j hj=>⟨cell_kept (x j hj).1 (grownBy_putObj' W l o') (fun r e=>by cases e;exact⟨_,h,hc⟩),cell_kept (x j hj).2 (grownBy_putObj' W l o') (fun r e=>by cases e;exact⟨_,h,hc⟩)⟩⟩
theorem Mr (F:Fence)(n:Nat)(h94:F.fn 203)(hro:F.round=none)(hn:1<=n)(Bs g off cap:Nat)(A:Option Addr)(L:List (Int×List UInt8))(hA:L≠[]->A=some ⟨g,off,none⟩)(hreach:L.length<=1099511627776)(hcap:cap<=maxLen)(hlc:L.length<=cap)(w:World)(hB:Bs<w.heap.size)(hg:g<w.heap.size)
 (hBs:w.cell? ⟨Bs,0,none⟩=some (.slice A L.length cap)) (hc:PutsIn g off L w):
 SeqStopsK F n Tryz.prog 203 #[.pointer (some ⟨Bs,0,none⟩)] (seqEnc L) (PutsK Bs (.slice A L.length cap) g off L) (fun ys=>ys.map (fun y=>y.val)=(List.range L.length).reverse) (fun pre=>pre.map (fun y=>y.val)=((List.range L.length).reverse).take pre.length) L.length w:=fun l J Jx W hW _ _ hY h0=>by
 refine(Mq F n h94 hro hn l Bs g off cap A L hA hreach hcap hlc
  (fun pre W=>J pre W/\W.cell? ⟨Bs,0,none⟩=some (.slice A L.length cap)/\PutsIn g off L W) Jx (fun pre W h=>h.2) ?_ W ⟨h0,(hW.cell (p:=⟨Bs,0,none⟩) hB).trans hBs,Cc hc (hW.block g hg)⟩).mono ?_
 · rintro pre x W1 ⟨hj,h1,h2⟩ hl;obtain⟨fn,tmps,assign,body,hy,hR⟩:=hY pre x W1 hj hl;refine⟨fn,tmps,assign,body,hy,hR.mono ?_⟩;rintro e W' (⟨he,hj',hk⟩|h)
   · exact .inl ⟨he,hj',hk.1 h1,hk.2 h2⟩
   · exact .inr h
 · rintro e W' ⟨hv,(⟨ys,h1,h2,_⟩|h)⟩
   · exact⟨hv,.inl ⟨ys,h1,h2⟩⟩
   · exact⟨hv,.inr h⟩
theorem putsBackFn (F:Fence)(n:Nat)(h81:F.fn 196)(hro:F.round=none)(a:Option Addr)(len cap:Nat)(w:World):
 CallsIn F n Tryz.prog 196 #[.slice a len cap] w fun e w'=>e=.returned (.func (.func 203) #[] #[.pointer (some ⟨w.heap.size,0,none⟩)])/\w'=w.alloc (.cells #[.slice a len cap] 22):=by
 refine callsIn_of_wp Tryz.func196 rfl h81 ?_ hro;simp only[Tryz.ntmps196,Nat.reduceAdd,Nat.reduceSub,Yn]
 gi_wp2
 go_ret
 exact⟨rfl,rfl⟩
def oneEnc (L:List (Int×List UInt8))(i:Fin L.length):Array Value:=#[.agg #[.int .i64 L[i.val].1,.string (bs L[i.val].2)]]
def KeptK (g:Nat)(A B:World):Prop:=B.heap[g]? =A.heap[g]?
theorem Eb {g:Nat}{X Y:World}(h:Y.heap[g]? =X.heap[g]?)(hg:g<X.heap.size):g<Y.heap.size:=by
 rcases Nat.lt_or_ge g Y.heap.size with h'|h'
 · exact h'
 · rw[Array.getElem?_eq_none h',Array.getElem?_eq_getElem hg]at h;cases h
theorem DE {B k:Nat}{X Y:World}{t:TypeId}{cs:Array Value}(h:Blk X k t cs)(hs:Stays B X Y)(hk:B<=k):Blk Y k t cs:=
 (hs.2 k hk (Array.getElem?_eq_some_iff.1 (show X.heap[k]? =some _ from h)).1).trans h
def putsAx (l Bd Y c1:Nat)(A:Option Addr)(D:Dk)(y:Fin D.cache.length)(a':Act)(V:World):Prop:=
 ∃B,a'={tmps:=#[.func (.yield l) #[] #[],.pointer (some ⟨Bd,0,none⟩),.pointer (some ⟨Y,0,none⟩),undef,.pointer (some ⟨B,0,none⟩),.pointer (some ⟨Bd,1,none⟩),.slice A D.cache.length c1,.func (.func 203) #[] #[.pointer (some ⟨Y+1,0,none⟩)],.int .i64 (y.val:Int),.agg #[.int .i64 D.cache[y.val].1,.string (bs D.cache[y.val].2)],undef,undef,undef,undef],defers:=[]}/\
  Blk V B 115 #[.int .i64 D.cache[y.val].1,.string (bs D.cache[y.val].2)]
theorem Mp (l Bd Y c1:Nat)(A:Option Addr)(D:Dk)(y:Fin D.cache.length)(a':Act)(B:Nat):OwnFrom B (fun(_:Unit) V=>putsAx l Bd Y c1 A D y a' V):=fun s X Z row ⟨b,he,hs⟩ hy hr=>
 ⟨b,he,(Own.from (AA b _ (fun _:Unit=>_)) B) s X Z row hs hy hr⟩
theorem Mt (F:Fence)(n:Nat)(h80:F.fn 195)(h81:F.fn 196)(h94:F.fn 203)(hro:F.round=none)(hrm:∀k,F.room k)(hn:3<=n)(D:Dk)(g off:Nat)(p q:Pl)(hp:D.cache≠[]->p.a=some ⟨g,off,none⟩)(Bd:Nat)(w:World)(hD:IsDk w D p q)(hB:Bd<w.heap.size)(hg:g<w.heap.size)(t:TypeId)
 (hBd:Blk w Bd t #[.string (bs D.data),.slice p.a D.cache.length p.c,.int .i64 D.fuse,.bool D.off,.slice q.a D.bad.length q.c]) (hc:PutsIn g off D.cache w):
 SeqO F n Tryz.prog 195 #[.pointer (some ⟨Bd,0,none⟩)] (oneEnc D.cache) (KeptK g) (fun ys=>ys.map (fun y=>y.val)=(List.range D.cache.length).reverse) (fun pre=>pre.map (fun y=>y.val)=((List.range D.cache.length).reverse).take pre.length) D.cache.length w:=by
 intro l J Jx W hW hJ hJx hY h0;obtain⟨A,c1⟩:=p;obtain⟨A2,c2⟩:=q;simp only at hp;have y0:=blk5 ((hBd.below hW hB).alloc (.cells #[.func (.yield l) #[] #[]] 268));have byl:=Blk.new W 268 #[.func (.yield l) #[] #[]];have hgW:g<W.heap.size:=Nat.lt_of_lt_of_le hg hW.size;have hcW:=Cc hc (hW.block g hg);have hcl:=hD.cl;have hpm:=hD.pm;have hpc:=hD.pc;have h1:1<=n:=by omega
 refine callsIn_of_wp_marks Tryz.func195 rfl h80 ?_ hro;simp only[Tryz.ntmps195,Nat.reduceAdd,Nat.reduceSub,Yn]
 gi_wp2_with (gi_at_call 196;refine(putsBackFn F _ h81 hro _ _ _ _).mono ?_;rintro e w' ⟨rfl,rfl⟩)
 have hbx:=Blk.new (W.alloc (.cells #[.func (.yield l) #[] #[]] 268)) 22 #[.slice A D.cache.length c1];rw[World.size_alloc]at hbx;refine wpIn_rangeFunc_ownH hro (by omega) (gf:=203) (lb:=#[.pointer (some ⟨W.heap.size+1,0,none⟩)]) rfl h94 (enters_of Tryz.func203 (by kernel_rfl) rfl)
  (Mr F (n-1) h94 hro (by omega) (W.heap.size+1) g off c1 A D.cache hp hcl hpm hpc ((W.alloc (.cells #[.func (.yield l) #[] #[]] 268)).alloc (.cells #[.slice A D.cache.length c1] 22)) (by simp) (by simp;omega) (by rw[hbx.cell];rfl) ?hby) PutsK.t (fun W l o o' q1 q2 q3 q4=>PutsK.b W l o o' q2 q3) (Below.refl _ _) (fun _=>rfl)
  (fun pre V=>J pre V/\(Blk V W.heap.size 268 #[.func (.yield l) #[] #[]]/\Blk V (W.heap.size+1) 22 #[.slice A D.cache.length c1])/\V.heap[g]? =W.heap[g]?)
  (fun c pre V=>c=.ret/\Jx pre V) ?hI ?hIx ?h0 (putsAx l Bd W.heap.size c1 A D) (fun y a'=>Mp _ _ _ _ _ _ _ _ _) ?assign ?body ?done ?stop
 case hby=>exact Cc hcW ((Below.heap_alloc _ _ _ (by simp;omega)).trans (Below.heap_alloc _ _ _ hgW))
 case h0=>exact⟨hJ.alloc _ (hJ.alloc _ h0),⟨(byl.alloc _),hbx⟩,(Below.heap_alloc _ _ _ (by simp;omega)).trans (Below.heap_alloc _ _ _ hgW)⟩
 case assign=>
  intro l' pre y V K ⟨hj,⟨hb1,hb2⟩,hg3⟩ hK
  dsimp only[seqEnc]
  gi_wp2
  refine hK _ _ (KeepsFrom.of_grownBy (World.grownBy_alloc V _ none) (fun j e=>by cases e)) ⟨fun x=>?_,fun x=>Cc x ?_⟩ ⟨hJ.alloc _ hj,⟨hb1.alloc _,hb2.alloc _⟩,?_⟩ ⟨V.heap.size,rfl,Blk.new _ _ _⟩
  · exact(Yz (W:=V) _).cell (AZ x)|>.trans x
  · exact Below.heap_alloc _ _ _ (Eb hg3 hgW)
  · exact(Below.heap_alloc _ _ _ (Eb hg3 hgW)).trans hg3
 case hI=>
  have hB:W.heap.size<=((W.alloc (.cells #[.func (.yield l) #[] #[]] 268)).alloc (.cells #[.slice A D.cache.length c1] 22)).heap.size:=by simp;omega
  refine OwnFrom.and (fun s X Y row hs hy hr=>hJ s X Y row hs hy (fun r e=>⟨Nat.le_trans hB (hr r e).1,(hr r e).2⟩)) (OwnFrom.and (Own.from (Own.and (AA _ _ _) (AA _ _ _)) _) ?_);intro s X Y row hs hy hr;exact(hy.block g (Eb hs hgW) (fun e=>by have:=(hr g e.symm).1;omega)).trans hs
 case hIx=>
  intro c;have hB:W.heap.size<=((W.alloc (.cells #[.func (.yield l) #[] #[]] 268)).alloc (.cells #[.slice A D.cache.length c1] 22)).heap.size:=by simp;omega
  exact fun s X Y row hs hy hr=>⟨hs.1,hJx s X Y row hs.2 hy (fun r e=>⟨Nat.le_trans hB (hr r e).1,(hr r e).2⟩)⟩
 case body=>
  rintro l' pre y a' V hl' hrec ⟨hj,⟨hb1,hb2⟩,hg3⟩ ⟨B,rfl,hbp⟩ hpl;have z1:=blk1 hb1;have z2:=blk2 hbp;obtain⟨fn,tmps,assign,body,hy,hR⟩:=hY pre y V hj hpl;simp only[oneEnc]at hy;have hRR:RoundIn (F.inRound l') (n-1-1-1) Tryz.prog l fn tmps assign body V _:=NH hrm (m:=n-1-1-1) hR;have h3:1<=n-1-1:=by omega
  gi_wp2
  refine RoundIn.mono hRR ?_;rintro e V' (⟨rfl,hj',hst,hkg⟩|⟨rfl,hj',hkf⟩)
  · gi_wp2
    exact⟨By hst.keeps (by simp;omega),⟨fun _=>by rw[(DE hb2 hst (Nat.le_succ _)).cell];rfl,fun x=>Cc x hkg⟩,hj',⟨DE hb1 hst (Nat.le_refl _),DE hb2 hst (Nat.le_succ _)⟩,hkg.trans hg3⟩
  · gi_wp2
    exact⟨By hkf (by simp;omega),rfl,hj'⟩
 case done=>
  rintro Dd ys V hDd hys ⟨hj,⟨hb1,hb2⟩,hg3⟩ hK
  gi_wp2
  refine⟨by simp,.inl ⟨_,_,rfl,run_takeDeferred hK,?_⟩⟩;exact⟨_,results_none rfl _ _ _,⟨_,rfl⟩,.inl ⟨ys,hys,hJ.putObj _ hj (by simp at hDd;omega) hK rfl⟩⟩
 case stop=>
  rintro Dd c pre V hDd hpre ⟨rfl,hj⟩ hK
  gi_wp2
  refine⟨by simp,.inl ⟨_,_,rfl,run_takeDeferred hK,?_⟩⟩;exact⟨_,results_none rfl _ _ _,⟨_,rfl⟩,.inr ⟨pre,hpre,hJx.putObj _ hj (by simp at hDd;omega) hK rfl⟩⟩
theorem Cm (A:Option Addr)(l:List Int)(c:Nat)(x:Int)(w:World)(hA:Cells w A (intCells l))(hl:l.length<=17592186044416):
 Calls Tryz.prog 180 #[.slice A l.length c,.int .i64 x] w fun e w'=>e=.returned (.bool (decide (x∈l)))/\w'=w:=by
 cases l with
 |nil=>
  refine(Tryz.slices_Contains_int_empty A c x w).mono ?_;rintro e w' ⟨rfl,rfl⟩;exact⟨by simp,rfl⟩
 |cons a l=>
  obtain⟨b,off,rfl,hc⟩:=hA.int (i:=0) (by simp);refine(Tryz.slices_Contains_int b off (a::l).length c (a::l) x w (Nat.le_refl _) (by omega) (fun j hj=>by rw[hc j hj,List.getD_eq_getElem?_getD,List.getElem?_eq_getElem hj];rfl)).mono ?_;rintro e w' ⟨rfl,rfl⟩;refine⟨?_,rfl⟩;rw[List.take_of_length_le (Nat.le_refl _)];simp[List.contains_eq_mem]
theorem Ms (F:Fence)(n:Nat)(h63:F.fn 184)(hro:F.round=none)(D:Dk)(p q:Pl)(w:World):
 CallsIn F n Tryz.prog 184 #[dval D p q] w fun e w'=>e=.returned (.func (.func 195) #[] #[.pointer (some ⟨w.heap.size,0,none⟩)])/\w'=w.alloc (.cells #[.string (bs D.data),.slice p.a D.cache.length p.c,.int .i64 D.fuse,.bool D.off,.slice q.a D.bad.length q.c] 25):=by
 refine callsIn_of_wp Tryz.func184 rfl h63 ?_ hro;simp only[Tryz.ntmps184,Nat.reduceAdd,Nat.reduceSub,Yn]
 gi_wp2
 go_ret
 exact⟨rfl,rfl⟩
theorem Ou {n:Nat}{pre':List (Fin n)}{y:Fin n}(h:(pre'++[y]).map (fun y=>y.val)=((List.range n).reverse).take (pre'++[y]).length)(P:Fin n->Prop)(hP:∀y∈pre',P y):
 ∀j (hj:j<n),y.val<j->P ⟨j,hj⟩:=by
 intro j hj hy;have hlen:pre'.length+1<=n:=by
  have:=congrArg List.length h;simp at this;omega
 have hg:∀i (hi:i<pre'.length+1),((pre'++[y])[i]'(by simpa using hi)).val=n-1-i:=by
  intro i hi;have e:((pre'++[y]).map (fun y=>y.val))[i]? =some ((pre'++[y])[i]'(by simpa using hi)).val:=by
   rw[List.getElem?_map,List.getElem?_eq_getElem (by simpa using hi)];rfl
  rw[h,List.getElem?_take_of_lt (by simpa using hi),List.getElem?_reverse (by simp;omega)]at e;simp only[List.length_range]at e;rw[List.getElem?_range (by omega)]at e;exact(Option.some.inj e).symm
 have hl:=hg pre'.length (by omega);simp at hl;have hi:=hg (n-1-j) (by omega);rw[List.getElem_append_left (by omega)]at hi;have:(pre'[n-1-j]'(by omega))=⟨j,hj⟩:=Fin.ext (by rw[hi];simp;omega);rw[<-this];exact hP _ (List.getElem_mem _)
theorem JE (D:Dk)(p q:Pl)(k:Nat)(w:World)(hD:IsDk w D p q)(hl:D.data.length=D.sz*64)(h1:D.off=false)(h2:D.there k=true)(h3:¬(k:Int)∈D.bad):
 Calls Tryz.prog 165 #[dval D p q,.int .i64 k] w fun e w'=>e=.returned (.tuple #[.string (bs (D.sees k)),.int .i64 0])/\Below w.heap.size w w':=by
 obtain⟨A1,c1⟩:=p;obtain⟨A2,c2⟩:=q;have hk':0<=(k:Int)/\(k:Int)<D.sz:=by simpa[Dk.there]using h2
 have hks:k*64+64<=D.data.length:=by rw[hl];omega
 have hdl:=hD.data;have hcl:=hD.cl;have Hl:=hid hl;have Hk:=hid hk';have hcon2:=fun(W:World)(hW:Below w.heap.size w W)=>Cm A2 D.bad c2 k W (hD.below hW).bad hD.bl
 rw[decide_eq_false h3]at hcon2;have hout2:=Bi D ⟨A1,c1⟩ ⟨A2,c2⟩ hD.data k;rw[h2]at hout2;have m1:(0:Int)<=(k:Int)*64:=by omega
 have m2:(k:Int)*64<=D.data.length:=by omega
 clear hl hk' h2 h3;have hb0:=(Ap w (.cells #[.string (bs D.data),.slice A1 D.cache.length c1,.int .i64 D.fuse,.bool D.off,.slice A2 D.bad.length c2] 25) (.cells #[.int .i64 k] 3));have x0:=Blk.new w 25 #[.string (bs D.data),.slice A1 D.cache.length c1,.int .i64 D.fuse,.bool D.off,.slice A2 D.bad.length c2];obtain⟨data,cache,fuse,off,bad⟩:=D;simp only at h1 hks hdl hcl m2;subst h1;refine(callsIn_wide (n:=6)).1 (callsIn_of_wp_marks Tryz.func165 rfl trivial (wpIn_wide.2 ?_) rfl);simp only[Tryz.ntmps165,Nat.reduceAdd,Nat.reduceSub,Yn];go_wp2_with fail
 go_step3
 go_wp2_with first|(go_at_call 179;refine(hout2 _).mono ?_;rintro e w1 ⟨rfl,hb1⟩;have b1:=bt hb0 hb1;obtain⟨x1,x2⟩:=AO hb1;have y1:=blk5 x1;have y2:=blk1 x2)|(go_at_call 180;refine(hcon2 _ b1).mono ?_;rintro e w2 ⟨rfl,rfl⟩)
 go_step3
 have x3:=Blk.new w2 9 #[.string (bs (List.take 64 (List.drop (k*64) data)))];have y3:=blk5 (x1.alloc (.cells #[.string (bs (List.take 64 (List.drop (k*64) data)))] 9));go_wp2_with (go_at_call 184;refine(callsIn_wide.1 (Ms Fence.wide 5 trivial rfl ⟨data,cache,fuse,false,bad⟩ ⟨A1,c1⟩ ⟨A2,c2⟩ _)).mono ?_;rintro e w3 ⟨rfl,rfl⟩)
 have n1:1<=6:=by omega
 obtain⟨g,off,hp,hg⟩:∃g off,(cache≠[]->A1=some ⟨g,off,none⟩)/\g<w.heap.size+1/\PutsIn g off cache w2:=by
  cases hcs:cache with
  |nil=>exact⟨w.heap.size,0,fun h=>absurd rfl h,by omega,fun j hj=>by simp at hj⟩
  |cons a l=>
   obtain⟨b,o,e,hc⟩:=(hD.below b1).cache.put (i:=0) (by simp[hcs]);have e':A1=some ⟨b,o,none⟩:=e;subst e';have h0:=hD.cache.put (i:=0) (by simp[hcs]);obtain⟨b',o',e',hc'⟩:=h0;cases e'
   have hlt:=AZ (hc' 0 (by simp[hcs])).1;simp only at hlt;exact⟨b,o,fun _=>rfl,by omega,by rw[<-hcs];exact hc⟩
 have w2l:=hb1.size;simp only[Ys]at w2l;have hDl:IsDk ((w2.alloc (.cells #[.string (bs (List.take 64 (List.drop (k*64) data)))] 9)).alloc (.cells #[.string (bs data),.slice A1 cache.length c1,.int .i64 fuse,.bool false,.slice A2 bad.length c2] 25)) ⟨data,cache,fuse,false,bad⟩ ⟨A1,c1⟩ ⟨A2,c2⟩:=(hD.below b1).below (Ap _ _ _);have x4:=Blk.new (w2.alloc (.cells #[.string (bs (List.take 64 (List.drop (k*64) data)))] 9)) 25 #[.string (bs data),.slice A1 cache.length c1,.int .i64 fuse,.bool false,.slice A2 bad.length c2];rw[World.size_alloc]at x4;refine(wpIn_wide (n:=6)).1 ?_;refine Er rfl n1 (gf:=195) (lb:=#[.pointer (some ⟨w2.heap.size+1,0,none⟩)]) rfl trivial (enters_of Tryz.func195 (by kernel_rfl) rfl)
  (Mt Fence.wide 5 trivial trivial trivial rfl room_wide (by omega) ⟨data,cache,fuse,false,bad⟩ g off ⟨A1,c1⟩ ⟨A2,c2⟩ hp (w2.heap.size+1) _ hDl (by simp) (by simp;omega) 25 x4 ?hby)
  (fun h k=>Eq.trans k h) (fun W l o o' q1 q2 q3 q4=>World.putObj_heap_other (by simp at q1;omega)) (Below.refl _ _) (fun _=>rfl)
  (fun pre V=>(Blk V w2.heap.size 9 #[.string (bs (List.take 64 (List.drop (k*64) data)))]/\Blk V (w.heap.size+1) 3 #[.int .i64 k])/\Below w.heap.size w V/\Hid (∀y∈pre,cache[y.val].1≠k))
  (fun c pre V=>(∃pre' y,pre=pre'++[y]/\Hid (cache[y.val].1=(k:Int)/\∀y∈pre',cache[y.val].1≠(k:Int))/\Blk V w2.heap.size 9 #[.string (bs cache[y.val].2)])/\Below w.heap.size w V/\c=.exit 1)
  ?hI ?hIx ?h0
  (fun y a' V=>∃B,a'={tmps:=#[dval ⟨data,cache,fuse,false,bad⟩ ⟨A1,c1⟩ ⟨A2,c2⟩,.int .i64 k,.pointer (some ⟨w.heap.size,0,none⟩),.pointer (some ⟨w.heap.size+1,0,none⟩),.string (bs []),.int .i64 0,.pointer (some ⟨w2.heap.size,0,none⟩),.pointer (some ⟨B,0,none⟩),.bool false,.pointer (some ⟨w.heap.size,3,none⟩),.bool false,.bool false,
   .agg #[.string (bs data),.slice A1 cache.length c1,.int .i64 fuse,.bool false,.slice A2 bad.length c2],.int .i64 k,.bool false,.bool false,.pointer (some ⟨w.heap.size,4,none⟩),.slice A2 bad.length c2,.int .i64 k,.bool false,.pointer (some ⟨w.heap.size,0,none⟩),.string (bs data),.int .i64 k,.int .i64 (k*64),.string (bs (List.drop (k*64) data)),.string (bs (List.take 64 (List.drop (k*64) data))),
   .agg #[.string (bs data),.slice A1 cache.length c1,.int .i64 fuse,.bool false,.slice A2 bad.length c2],.func (.func 195) #[] #[.pointer (some ⟨w2.heap.size+1,0,none⟩)],.agg #[.int .i64 cache[y.val].1,.string (bs cache[y.val].2)],undef,undef,undef,undef,undef,undef,undef],defers:=[]}/\Blk V B 115 #[.int .i64 cache[y.val].1,.string (bs cache[y.val].2)])
  ?hAx ?assign ?body ?done ?stop
 case hby=>exact Cc hg.2 ((Below.heap_alloc _ _ _ (by simp;omega)).trans (Below.heap_alloc _ _ _ (by omega)))
 case hI=>exact OwnFrom.and (Own.from (Own.and (AA _ _ _) (AA _ _ _)) _) (OwnFrom.and (ownFrom_below (Nat.le_refl _) (by simp;omega)) (fun _ _ _ _ hs _ _=>hs))
 case hIx=>
  rintro c s X Y row ⟨⟨pre',y,e,h,hb⟩,hB,hc⟩ hy hr;refine⟨⟨pre',y,e,h,?_⟩,ownFrom_below (β:=Unit) (Nat.le_refl _) (by simp;omega) () X Y row hB hy hr,hc⟩;exact(Own.from (AA _ _ (fun _:Unit=>_)) _) () X Y row hb hy hr
 case h0=>exact⟨⟨x3.alloc _,(x2.alloc _).alloc _⟩,bt b1 (Ap _ _ _),hid (fun y hy=>by cases hy)⟩
 case hAx=>
  intro y a' s X Y row ⟨B,e,hs⟩ hy hr;exact⟨B,e,(Own.from (AA B _ (fun _:Unit=>_)) _) () X Y row hs hy hr⟩
 case assign=>
  rintro l pre y V K ⟨⟨hb1,hb2⟩,hB,hh⟩ hK
  dsimp only[oneEnc]
  gi_wp2
  refine hK _ _ (KeepsFrom.of_grownBy (World.grownBy_alloc V _ none) (fun j e=>by cases e)) (Stays.grown (World.grownBy_alloc V _ none) (fun j e=>by cases e)) (Below.heap_alloc _ _ _ (by have:=(Array.getElem?_eq_some_iff.1 hb2).1;omega)) ⟨⟨hb1.alloc _,hb2.alloc _⟩,hB.alloc (by have:=(Array.getElem?_eq_some_iff.1 hb2).1;omega) _,hh⟩ ⟨V.heap.size,rfl,Blk.new _ _ _⟩
 case body=>
  rintro l pre y a' V ⟨⟨hb1,hb2⟩,hB,hh⟩ ⟨B,rfl,hbp⟩ hpl;have z1:=blk1 hb1;have z2:=blk1 hb2;have z3:=blk2 hbp;have f1:=hb1.frozen 0;by_cases he:cache[y.val].1=k
  · have He:=hid he;have he':(cache[y.val].1==(k:Int))=true:=by simpa using he
    clear he
    gi_wp2
    exact⟨(KeepsOthers.setCell _ _ _).from _,⟨pre,y,rfl,hid ⟨He.out,hh.out⟩,hb1.set 0 _⟩,hB.setCell (p:=⟨w2.heap.size,0,none⟩) (by simp;omega) _,rfl⟩
  · have He:=hid he;have he':(cache[y.val].1==(k:Int))=false:=by simpa using he
    clear he
    gi_wp2
    exact⟨KeepsFrom.refl _ _,⟨Stays.refl _ _,rfl⟩,⟨hb1,hb2⟩,hB,hid (fun y' hy'=>by
     rcases List.mem_append.1 hy' with h|h
     · exact hh.out y' h
     · rw[List.mem_singleton.1 h];exact He.out)⟩
 case done=>
  rintro Dd ys V hDd hys ⟨⟨hb1,hb2⟩,hB,hh⟩ hK;have z1:=blk1 hb1;go_wp2_with fail
  refine⟨by simp,.inl ⟨_,_,rfl,run_takeDeferred hK,?_⟩⟩;refine⟨.tuple #[.string (bs (List.take 64 (List.drop (k*64) data))),.int .i64 0],by simp[results,Tryz.results165,go_sem],?_,?_⟩
  · rw[Dk.sees,Dk.seesIn_none (fun j hj=>by
     have:j∈ys.map (fun y=>y.val):=by rw[hys];simpa using hj
     obtain⟨y,hy,rfl⟩:=List.mem_map.1 this;exact hh.out y hy)]
    simp only[Option.getD_none,Dk.sector,Int.toNat_natCast,List.drop_take];rw[show(k+1)*64-k*64=64 by omega]
  · exact hB.trans (belowK_b (w:=w) (Nat.le_refl _) V Dd _ _ (by simp at hDd;omega) hK rfl rfl)
 case stop=>
  rintro Dd c pre V hDd hpre ⟨⟨pre',y,rfl,hh,hb1⟩,hB,rfl⟩ hK;have z1:=blk1 hb1;refine wpIn_wide.2 ?_;go_wp2_with fail
  refine⟨by simp,.inl ⟨_,_,rfl,run_takeDeferred hK,?_⟩⟩;refine⟨.tuple #[.string (bs cache[y.val].2),.int .i64 0],by simp[results,Tryz.results165,go_sem],?_,?_⟩
  · rw[Dk.sees,Dk.seesIn_some (i:=y.val) y.isLt hh.out.1 (Ou hpre (fun y=>cache[y.val].1≠(k:Int)) hh.out.2)];rfl
  · exact hB.trans (belowK_b (w:=w) (Nat.le_refl _) V Dd _ _ (by simp at hDd;omega) hK rfl rfl)
theorem JD (D:Dk)(p q:Pl)(w:World)(hD:IsDk w D p q)(k:Int)(h1:D.off=true):
 Calls Tryz.prog 165 #[dval D p q,.int .i64 k] w fun e w'=>e=.returned (.tuple #[.string (bs (D.read k).1),.int .i64 (D.read k).2])/\Below w.heap.size w w':=by
 have Hw:=hid (show D.read k=([],12) by simp[Dk.read, *]);obtain⟨A1,c1⟩:=p;obtain⟨A2,c2⟩:=q;go_enter Tryz.func165,Tryz.ntmps165;go_wp2_with fail
 go_step3
 go_wp2_with fail
 try rw[Exit.noGoto_ret]
 go_ret2
 exact⟨by rw[Hw.out];rfl,Ap _ _ _⟩
theorem JF (D:Dk)(p q:Pl)(w:World)(hD:IsDk w D p q)(k:Int)(h1:D.off=false)(h2:D.there k=false):
 Calls Tryz.prog 165 #[dval D p q,.int .i64 k] w fun e w'=>e=.returned (.tuple #[.string (bs (D.read k).1),.int .i64 (D.read k).2])/\Below w.heap.size w w':=by
 have Hw:=hid (show D.read k=([],10) by simp[Dk.read, *]);obtain⟨A1,c1⟩:=p;obtain⟨A2,c2⟩:=q;have hout2:=Bi D ⟨A1,c1⟩ ⟨A2,c2⟩ hD.data k;rw[h2]at hout2;clear h2;obtain⟨data,cache,fuse,off,bad⟩:=D;simp only at h1;subst h1;go_enter Tryz.func165,Tryz.ntmps165;go_wp2_with fail
 go_step3
 go_wp2_with (go_at_call 179;refine(hout2 _).mono ?_;rintro e w1 ⟨rfl,hb1⟩)
 try rw[Exit.noGoto_ret]
 go_ret2
 exact⟨by rw[Hw.out];rfl,bt (Ap _ _ _) hb1⟩
theorem JC (D:Dk)(p q:Pl)(w:World)(hD:IsDk w D p q)(k:Int)(h1:D.off=false)(h2:D.there k=true)(h3:k∈D.bad):
 Calls Tryz.prog 165 #[dval D p q,.int .i64 k] w fun e w'=>e=.returned (.tuple #[.string (bs (D.read k).1),.int .i64 (D.read k).2])/\Below w.heap.size w w':=by
 have Hw:=hid (show D.read k=([],13) by simp[Dk.read, *]);obtain⟨A1,c1⟩:=p;obtain⟨A2,c2⟩:=q;have hcon2:=fun(W:World)(hW:Below w.heap.size w W)=>Cm A2 D.bad c2 k W (hD.below hW).bad hD.bl
 rw[decide_eq_true h3]at hcon2;have hout2:=Bi D ⟨A1,c1⟩ ⟨A2,c2⟩ hD.data k;rw[h2]at hout2;clear h2 h3;have hb0:=(Ap w (.cells #[.string (bs D.data),.slice A1 D.cache.length c1,.int .i64 D.fuse,.bool D.off,.slice A2 D.bad.length c2] 25) (.cells #[.int .i64 k] 3));obtain⟨data,cache,fuse,off,bad⟩:=D;simp only at h1;subst h1;go_enter Tryz.func165,Tryz.ntmps165;go_wp2_with fail
 go_step3
 go_wp2_with first|(go_at_call 179;refine(hout2 _).mono ?_;rintro e w1 ⟨rfl,hb1⟩;have b1:=bt hb0 hb1;obtain⟨x1,x2⟩:=AO hb1;have y1:=blk5 x1;have y2:=blk1 x2)|(go_at_call 180;refine(hcon2 _ b1).mono ?_;rintro e w2 ⟨rfl,rfl⟩)
 try rw[Exit.noGoto_ret]
 go_ret2
 exact⟨by rw[Hw.out];rfl,b1⟩
theorem JB (D:Dk)(p q:Pl)(w:World)(hD:IsDk w D p q)(k:Int)(hl:D.data.length=D.sz*64):
 Calls Tryz.prog 165 #[dval D p q,.int .i64 k] w fun e w'=>e=.returned (.tuple #[.string (bs (D.read k).1),.int .i64 (D.read k).2])/\Below w.heap.size w w':=by
 cases h1:D.off with
 |true=>exact JD D p q w hD k h1
 |false=>
  cases h2:D.there k with
  |false=>exact JF D p q w hD k h1 h2
  |true=>
   by_cases h3:k∈D.bad
   · exact JC D p q w hD k h1 h2 h3
   · obtain⟨k,rfl⟩:=Int.eq_ofNat_of_zero_le (show 0<=k by simp[Dk.there]at h2;exact h2.1);rw[show D.read k=(D.sees k,0) by simp[Dk.read, *]];exact JE D p q k w hD hl h1 h2 h3
end
section
open Go.RowKit Go.Shelf
attribute [local go_sem] Ad Ag Ah Ac Aj Ai
theorem Fj (D:Dk)(p q:Pl)(w:World)(h:D.fuse=0):
 Calls Tryz.prog 79 #[dval D p q] w fun e w'=>e=.returned (.tuple #[dval {D with off:=true} p q,.bool false])/\Below w.heap.size w w':=by
 obtain⟨A1,c1⟩:=p;obtain⟨A2,c2⟩:=q;obtain⟨data,cache,fuse,off,bad⟩:=D;simp only at h;subst h;go_enter Tryz.func79,Tryz.ntmps79;go_wp2_with fail
 refine bodyPost_ret (v:=.tuple #[dval ⟨data,cache,0,true,bad⟩ ⟨A1,c1⟩ ⟨A2,c2⟩,.bool false]) (by simp[results,Tryz.results79,go_sem]) rfl ?_;exact⟨rfl,Ap _ _ _⟩
theorem Jt (D:Dk)(p q:Pl)(w:World)(h:0<D.fuse)(hf:D.fuse<=9223372036854775807):
 Calls Tryz.prog 79 #[dval D p q] w fun e w'=>e=.returned (.tuple #[dval D.burnt p q,.bool true])/\Below w.heap.size w w':=by
 have Hb:=hid (show D.burnt={D with fuse:=D.fuse-1} by simp[Dk.burnt,h]);obtain⟨A1,c1⟩:=p;obtain⟨A2,c2⟩:=q;obtain⟨data,cache,fuse,off,bad⟩:=D;simp only at h hf;have h':((fuse:Int)==0)=false:=by simp;omega
 go_enter Tryz.func79,Tryz.ntmps79;go_wp2_with fail
 refine bodyPost_ret (v:=.tuple #[dval ⟨data,cache,fuse-1,off,bad⟩ ⟨A1,c1⟩ ⟨A2,c2⟩,.bool true]) (by simp[results,Tryz.results79,go_sem]) rfl ?_;exact⟨by rw[Hb.out],Ap _ _ _⟩
theorem Ju (D:Dk)(p q:Pl)(w:World)(h:D.fuse<0):
 Calls Tryz.prog 79 #[dval D p q] w fun e w'=>e=.returned (.tuple #[dval D.burnt p q,.bool true])/\Below w.heap.size w w':=by
 have Hb:=hid (show D.burnt=D by have h0:¬0<D.fuse:=(by omega);simp[Dk.burnt,h0]);obtain⟨A1,c1⟩:=p;obtain⟨A2,c2⟩:=q;obtain⟨data,cache,fuse,off,bad⟩:=D;simp only at h;have h':((fuse:Int)==0)=false:=by simp;omega
 go_enter Tryz.func79,Tryz.ntmps79;go_wp2_with fail
 refine bodyPost_ret (v:=.tuple #[dval ⟨data,cache,fuse,off,bad⟩ ⟨A1,c1⟩ ⟨A2,c2⟩,.bool true]) (by simp[results,Tryz.results79,go_sem]) rfl ?_;exact⟨by rw[Hb.out],Ap _ _ _⟩
theorem CP (D:Dk)(p q:Pl)(w:World)(h0:D.fuse≠0)(hf:D.fuse<=9223372036854775807):
 Calls Tryz.prog 79 #[dval D p q] w fun e w'=>e=.returned (.tuple #[dval D.burnt p q,.bool true])/\Below w.heap.size w w':=by
 by_cases h:0<D.fuse
 · exact Jt D p q w h hf
 · exact Ju D p q w (by omega)
end
end Go.Proofs.YtmiilfnchfdfcaaGreatDoor
