/- Be: Lay2, JourA, Img1, SuperLaw, Super2, Img9, SpanPlain, SpanLaw, Law15a, Txn2, BldW, Txn3. -/
import Derived.Test.YtmiilfnchfdfcaaGreatDoorBeLay1
import Derived.Shelf.Strings.OnBuilder
import Derived.Shelf.RegionOpen
set_option maxRecDepth 100000
set_option maxHeartbeats 40000000
set_option linter.unusedVariables false
namespace Go.Proofs.YtmiilfnchfdfcaaGreatDoor
section
open Go.RowKit Go.Shelf
attribute [local go_sem] Ad Af Ag Ab Ai Ah Oper.semAt_some
namespace Dk
theorem layIn_snoc:∀(l:List (Int×List UInt8))(D:Dk)(x:Int×List UInt8),(layIn l D).2=0->layIn (l++[x]) D=(layIn l D).1.write x.1 x.2:=by
 intro l
 induction l with
 |nil=>
  intro D x _;show layIn [x] D=D.write x.1 x.2;rw[layIn]
  split
  · rfl
  · rename_i h
    have h:(D.write x.1 x.2).2=0:=by simpa using h
    exact Prod.ext rfl h.symm
 |cons a l ih=>
  intro D x h;rw[List.cons_append,layIn];rw[layIn]at h
  split
  · rename_i h1
    rw[if_pos h1]at h;exact absurd h h1
  · rename_i h1
    rw[if_neg h1]at h;rw[layIn,if_neg h1];exact ih _ _ h
theorem layIn_stop:∀(l r:List (Int×List UInt8))(D:Dk),(layIn l D).2≠0->layIn (l++r) D=layIn l D:=by
 intro l
 induction l with
 |nil=>intro r D h;exact absurd rfl h
 |cons a l ih=>
  intro r D h;rw[List.cons_append,layIn,layIn];rw[layIn]at h
  split
  · rfl
  · rename_i h1
    rw[if_neg h1]at h;exact ih _ _ h
end Dk
structure LayBox (V:World) (B0:Nat) (t t':TypeId) (D0:Dk) (p0 q0:Pl) (X:Dk×Int):Prop where
 ex:∃p q:Pl,Blk V B0 t #[.string (bs X.1.data),.slice p.a X.1.cache.length p.c,.int .i64 X.1.fuse,.bool X.1.off,.slice q.a X.1.bad.length q.c]/\IsDk V X.1 p q/\(∀g,g<=B0+1+1+1+1->(g<B0->DkOff g D0 p0 q0)->DkOff g X.1 p q)
 zero:Blk V (B0+1+1) t #[.string (bs []),.slice none 0 0,.int .i64 0,.bool false,.slice none 0 0]
 err:Blk V (B0+1+1+1) t' #[.int .i64 X.2]
theorem GF (B B0:Nat)(t t':TypeId)(D0:Dk)(p0 q0:Pl)(X:Dk×Int):OwnFrom B (fun(_:Unit) V=>LayBox V B0 t t' D0 p0 q0 X):=by
 rintro s Y Z row ⟨⟨p,q,h1,h2,h3⟩,h4,h5⟩ hy hr;exact⟨⟨p,q,(Own.from (AE _ _ (fun _:Unit=>_)) _) () Y Z row h1 hy hr,h2.kept hy (fun r e=>(hr r e).2),h3⟩,(Own.from (AE _ _ (fun _:Unit=>_)) _) () Y Z row h4 hy hr,(Own.from (AE _ _ (fun _:Unit=>_)) _) () Y Z row h5 hy hr⟩
theorem GI {w W W2:World}{B0 BV:Nat}{t t':TypeId}{X E:Dk}{p1 q1 p2 q2:Pl}{xe er:Int}(hsz:BV<=W.heap.size)(h0:B0+1+1+1+1<BV)(hb:Below B0 w W)(hb2:Below W.heap.size W W2)
 (y1:Blk W2 B0 t #[.string (bs X.data),.slice p1.a X.cache.length p1.c,.int .i64 X.fuse,.bool X.off,.slice q1.a X.bad.length q1.c]) (y5:Blk W2 (B0+1+1+1) t' #[.int .i64 xe])
 (hI:Blk W (B0+1+1) t #[.string (bs []),.slice none 0 0,.int .i64 0,.bool false,.slice none 0 0]) {D0:Dk} {p0 q0:Pl} (h3:∀g,g<=B0+1+1+1+1->(g<B0->DkOff g D0 p0 q0)->DkOff g X p1 q1)
 (i2:IsDk W2 E p2 q2) (o2:∀g,g<W.heap.size->DkOff g X p1 q1->DkOff g E p2 q2) {W3:World}
 (e:W3=(((((W2.setCell ⟨B0,0,none⟩ (.string (bs E.data))).setCell ⟨B0,1,none⟩ (.slice p2.a E.cache.length p2.c)).setCell ⟨B0,2,none⟩ (.int .i64 E.fuse)).setCell ⟨B0,3,none⟩ (.bool E.off)).setCell ⟨B0,4,none⟩ (.slice q2.a E.bad.length q2.c)).setCell ⟨B0+1+1+1,0,none⟩ (.int .i64 er)):
 LayBox W3 B0 t t' D0 p0 q0 (E,er)/\Below B0 w W3/\BV<=W3.heap.size/\KeepsFrom BV W W3/\Stays (BV+2) W W3/\KeepB B0 [B0+1+1+1+1] W W3:=by
 have s0:=ap5 (Ap y1) E p2.a p2.c q2.a q2.c;have s5:=ap5 (Au y5 (g:=B0) (by omega)) E p2.a p2.c q2.a q2.c;have sI:=ap5 (Au (hI.bl hb2) (g:=B0) (by omega)) E p2.a p2.c q2.a q2.c;have sD:=ap5 (i2.off5 (g:=B0) (o2 B0 (by omega) (h3 _ (by omega) (fun h=>absurd h (by omega))))) E p2.a p2.c q2.a q2.c;have sb:=ap5 (Ao (Below.refl (B0) W2) (g:=B0) (Nat.le_refl _)) E p2.a p2.c q2.a q2.c;have sk:∀g,g≠B0->(((((W2.setCell ⟨B0,0,none⟩ (.string (bs E.data))).setCell ⟨B0,1,none⟩ (.slice p2.a E.cache.length p2.c)).setCell ⟨B0,2,none⟩ (.int .i64 E.fuse)).setCell ⟨B0,3,none⟩ (.bool E.off)).setCell ⟨B0,4,none⟩ (.slice q2.a E.bad.length q2.c)).heap[g]? =W2.heap[g]? :=fun g hg=>by
  rw[Below.heap_setCell _ _ _ _ hg,Below.heap_setCell _ _ _ _ hg,Below.heap_setCell _ _ _ _ hg,Below.heap_setCell _ _ _ _ hg,Below.heap_setCell _ _ _ _ hg]
 have so:KeepsOthers W2 (((((W2.setCell ⟨B0,0,none⟩ (.string (bs E.data))).setCell ⟨B0,1,none⟩ (.slice p2.a E.cache.length p2.c)).setCell ⟨B0,2,none⟩ (.int .i64 E.fuse)).setCell ⟨B0,3,none⟩ (.bool E.off)).setCell ⟨B0,4,none⟩ (.slice q2.a E.bad.length q2.c)):=
  ((((KeepsOthers.setCell _ _ _).trans (KeepsOthers.setCell _ _ _)).trans (KeepsOthers.setCell _ _ _)).trans (KeepsOthers.setCell _ _ _)).trans (KeepsOthers.setCell _ _ _)
 generalize (((((W2.setCell ⟨B0,0,none⟩ (.string (bs E.data))).setCell ⟨B0,1,none⟩ (.slice p2.a E.cache.length p2.c)).setCell ⟨B0,2,none⟩ (.int .i64 E.fuse)).setCell ⟨B0,3,none⟩ (.bool E.off)).setCell ⟨B0,4,none⟩ (.slice q2.a E.bad.length q2.c))=U at*;subst e;have hU:=sb.size;have a2:=hb2.size;have a0:∀g,g≠B0->g≠B0+1+1+1->(U.setCell ⟨B0+1+1+1,0,none⟩ (.int .i64 er)).heap[g]? =W2.heap[g]? :=fun g h1 h2=>(Below.heap_setCell _ _ _ _ h2).trans (sk g h1)
 have a1:Below B0 W2 (U.setCell ⟨B0+1+1+1,0,none⟩ (.int .i64 er)):=sb.setCell (p:=⟨B0+1+1+1,0,none⟩) (by simp;omega) _;have h2:Below B0 W (U.setCell ⟨B0+1+1+1,0,none⟩ (.int .i64 er)):=(hb2.mono (by omega)).trans a1;refine⟨⟨⟨p2,q2,s0.other (a:=⟨B0+1+1+1,0,none⟩) (by simp;omega) _,sD.off (a:=⟨B0+1+1+1,0,none⟩) (o2 (B0+1+1+1) (by omega) (h3 (B0+1+1+1) (by omega) (fun h=>absurd h (by omega)))) _,fun g g1 g2=>o2 g (by omega) (h3 g g1 g2)⟩,sI.other (a:=⟨B0+1+1+1,0,none⟩) (by simp) _,?_⟩,hb.trans h2,by simp;omega,
  (Cf hb2).trans ((so.trans (KeepsOthers.setCell _ _ _)).from _),(Stays.below hb2 (Nat.le_refl _)).trans ⟨a1.size,fun k hk _=>a0 k (by omega) (by omega)⟩,⟨h2,fun g hg=>?_⟩⟩
 · have:=s5.set 0 (.int .i64 er);simpa using this
 · obtain rfl:g=B0+1+1+1+1:=by simpa using hg
   exact(a0 _ (by omega) (by omega)).trans (hb2.block _ (by omega))
theorem GH {w U:World}{B0:Nat}{t:TypeId}{X:Dk}{p1 q1:Pl}(hb:Below B0 w U)
 (h4:Blk U (B0+1+1) t #[.string (bs []),.slice none 0 0,.int .i64 0,.bool false,.slice none 0 0]) {D0:Dk} {p0 q0:Pl} (h3:∀g,g<=B0+1+1+1+1->(g<B0->DkOff g D0 p0 q0)->DkOff g X p1 q1)
 (h2:IsDk U X p1 q1) {Dd:Nat} (hDd:B0+1+1<Dd) (hK:U.heap[Dd]? =some (.deferred (some []))) {U2:World}
 (e:U2=(((((U.setCell ⟨B0+1+1,0,none⟩ (.string (bs X.data))).setCell ⟨B0+1+1,1,none⟩ (.slice p1.a X.cache.length p1.c)).setCell ⟨B0+1+1,2,none⟩ (.int .i64 X.fuse)).setCell ⟨B0+1+1,3,none⟩ (.bool X.off)).setCell ⟨B0+1+1,4,none⟩ (.slice q1.a X.bad.length q1.c)).drew):
 U2.heap[Dd]? =some (.deferred (some []))/\Blk (U2.putObj Dd (.deferred none)) (B0+1+1) t #[.string (bs X.data),.slice p1.a X.cache.length p1.c,.int .i64 X.fuse,.bool X.off,.slice q1.a X.bad.length q1.c]/\
  IsDk (U2.putObj Dd (.deferred none)) X p1 q1/\Below B0 w (U2.putObj Dd (.deferred none)):=by
 have s0:=ap5 (Ap h4) X p1.a p1.c q1.a q1.c;have sD:=ap5 (h2.off5 (g:=B0+1+1) (h3 _ (by omega) (fun h=>absurd h (by omega)))) X p1.a p1.c q1.a q1.c;have sb:=ap5 (Ao hb (g:=B0+1+1) (by omega)) X p1.a p1.c q1.a q1.c;have sk:(((((U.setCell ⟨B0+1+1,0,none⟩ (.string (bs X.data))).setCell ⟨B0+1+1,1,none⟩ (.slice p1.a X.cache.length p1.c)).setCell ⟨B0+1+1,2,none⟩ (.int .i64 X.fuse)).setCell ⟨B0+1+1,3,none⟩ (.bool X.off)).setCell ⟨B0+1+1,4,none⟩ (.slice q1.a X.bad.length q1.c)).heap[Dd]? =U.heap[Dd]? :=by
  have hg:Dd≠B0+1+1:=by omega
  rw[Below.heap_setCell _ _ _ _ hg,Below.heap_setCell _ _ _ _ hg,Below.heap_setCell _ _ _ _ hg,Below.heap_setCell _ _ _ _ hg,Below.heap_setCell _ _ _ _ hg]
 subst e;generalize (((((U.setCell ⟨B0+1+1,0,none⟩ (.string (bs X.data))).setCell ⟨B0+1+1,1,none⟩ (.slice p1.a X.cache.length p1.c)).setCell ⟨B0+1+1,2,none⟩ (.int .i64 X.fuse)).setCell ⟨B0+1+1,3,none⟩ (.bool X.off)).setCell ⟨B0+1+1,4,none⟩ (.slice q1.a X.bad.length q1.c))=T at*;have a0:T.drew.heap[Dd]? =some (.deferred (some [])):=sk.trans hK;refine⟨a0,s0.drew.at_ (World.putObj_heap_other (by omega)),(sD.below (Below.refl _ T).drew).kept (grownBy_putObj' _ _ _) (fun r e=>by cases e;exact⟨_,a0,rfl⟩),?_⟩;exact sb.drew.trans (KeepB.putObj (bs:=[]) _ (by omega) (fun g hg=>by cases hg)).below
theorem M3 (D:Dk)(L:Pn)(p q p' q':Pl)(w:World)(hD:IsDk w D p q)(hL:IsPn w L p' q')(hlen:L.targets.length=L.data.length)(hmany:L.targets.length<=1000000):
 CX 156 #[dval D p q,pval L p' q'] w (RetDkN w.heap.size D p q (Pn.lay D L)):=by
 have n1:1<=6:=by omega
 have ae:=fun(W:World)(hb:Below w.heap.size w W)=>(hL.below hb:IsPn W L p' q')
 have hDW:=fun(W:World)(hb:Below w.heap.size w W)=>(hD.below hb:IsDk W D p q)
 have ai:=hid (fun g (hg:w.heap.size<=g)=>hD.apart hg);have ac:=hid hlen;clear hD hL hlen;obtain⟨A1,a1⟩:=p;obtain⟨A2,a2⟩:=q;obtain⟨B1,b1⟩:=p';obtain⟨B2,b2⟩:=q';refine(callsIn_wide (n:=6)).1 (callsIn_of_wp_marks Tryz.func156 rfl trivial (wpIn_wide.2 ?_) rfl);simp only[Tryz.ntmps156,Nat.reduceAdd,Nat.reduceSub,Yn];go_wp2_with fail
 go_step3
 go_wp2_with fail
 go_step3
 go_wp2_with (go_at_call 174;refine(callsIn_wide.1 (Iu 5 L ⟨B1,b1⟩ ⟨B2,b2⟩ _)).mono ?_;rintro e w3 ⟨rfl,rfl⟩)
 have hB:=Y0 w;have x:=apc5 (Blk.new w 25) D A1 a1 A2 a2;have a8:=Ya hB x;have a6:=a8.alloc a8.size (.cells #[.slice B1 L.targets.length b1,.slice B2 L.data.length b2] 63);have af:=Yc x a6;have r0:=Yd a6 25 #[.string (bs []),.slice none 0 0,.int .i64 0,.bool false,.slice none 0 0];simp only[Ys]at r0;have a7:=Ya a6 r0;have ag:=Yc af a7;have r1:=Yd a7 36 #[.int .i64 0];simp only[Ys]at r1;have a3:=Ya a7 r1;have ah:=Yc ag a3;have ab:=Yc r0 a3;have bp:=apc2 (Yd a3 63) L B1 b1 B2 b2;simp only[Ys]at bp;have a0:=Ya a3 bp;have a9:=Yc ah a0;have a4:=Yc ab a0;have a5:=Yc r1 a0;generalize (((((w.alloc (.cells #[.string (bs D.data),.slice A1 D.cache.length a1,.int .i64 D.fuse,.bool D.off,.slice A2 D.bad.length a2] 25)).alloc (.cells #[.slice B1 L.targets.length b1,.slice B2 L.data.length b2] 63)).alloc (.cells #[.string (bs []),.slice none 0 0,.int .i64 0,.bool false,.slice none 0 0] 25)).alloc (.cells #[.int .i64 0] 36)).alloc (.cells #[.slice B1 L.targets.length b1,.slice B2 L.data.length b2] 63))=V at a0 a9 a4 a5 bp ⊢;clear a8 a6 af a7 ag a3 ah ab hB x r0 r1;have hB:=a0;have x:=a9;have r0:=a4;have r1:=a5;clear a0 a9 a4 a5;have vl:w.heap.size+1+1+1+1<V.heap.size:=bp.lt;have aj:∀g∈[w.heap.size+1+1+1+1],g<V.heap.size/\w.heap.size+1+1+1<g:=fun g hg=>by
  simp only[List.mem_cons,List.not_mem_nil,or_false]at hg;omega
 have aa:=hid (fun(y:Fin L.secs.length)=>show(-9223372036854775808<=L.secs[y.val].1/\L.secs[y.val].1<=9223372036854775807)/\L.secs[y.val].2.length<=9223372036854775807 by
  obtain⟨m1,m2,e⟩:=BU L y.val y.isLt;have hP:=ae V hB;rw[e];exact⟨hP.ats _ (List.getElem_mem m1),hP.strs _ (List.getElem_mem m2)⟩)
 refine(wpIn_wide (n:=6)).1 ?_;refine ET rfl n1 (gf:=189) (lb:=#[.pointer (some ⟨w.heap.size+1+1+1+1,0,none⟩)]) rfl trivial (enters_of Tryz.func189 (by kernel_rfl) rfl)
  (Iv 5 (by omega) L ⟨B1,b1⟩ ⟨B2,b2⟩ ac.out hmany w.heap.size _ V hB.size (fun W hb=>ae W (hB.trans hb)) bp)
  KeepB.trans (fun W l o o' q1 q2 q3 q4=>KeepB.putObj o' (by omega) (fun g hg=>by have:=aj g hg;omega)) (Below.refl _ _) (fun _=>rfl)
  (fun pre W=>LayBox W w.heap.size 25 36 D ⟨A1,a1⟩ ⟨A2,a2⟩ (Dk.layIn (picked L.secs pre) D)/\Hid ((Dk.layIn (picked L.secs pre) D).2=0)/\Below w.heap.size w W/\V.heap.size<=W.heap.size)
  (fun c pre W=>c=.exit 0/\LayBox W w.heap.size 25 36 D ⟨A1,a1⟩ ⟨A2,a2⟩ (Dk.layIn (picked L.secs pre) D)/\Hid ((Dk.layIn (picked L.secs pre) D).2≠0)/\Below w.heap.size w W)
  ?hI ?hIx ?h0
  (fun y a' W=>a'={tmps:=#[dval D ⟨A1,a1⟩ ⟨A2,a2⟩,pval L ⟨B1,b1⟩ ⟨B2,b2⟩,.pointer (some ⟨w.heap.size,0,none⟩),.pointer (some ⟨w.heap.size+1,0,none⟩),.pointer (some ⟨w.heap.size+1+1,0,none⟩),.int .i64 0,.pointer (some ⟨w.heap.size+1+1+1,0,none⟩),.int .i64 L.secs[y.val].1,.string (bs L.secs[y.val].2),
   .agg #[.slice B1 L.targets.length b1,.slice B2 L.data.length b2],.func (.func 189) #[] #[.pointer (some ⟨w.heap.size+1+1+1+1,0,none⟩)],.int .i64 L.secs[y.val].1,.string (bs L.secs[y.val].2),undef,undef,undef,undef,undef,undef,undef,undef,undef,undef,undef],defers:=[]})
  (fun _ _ _ _ _ _ hs _ _=>hs) ?assign ?body ?done ?stop
 case hI=>
  rintro pre X Y row ⟨h1,h2,h3,h4⟩ hy hr;exact⟨GF _ _ _ _ _ _ _ _ () X Y row h1 hy hr,h2,ownFrom_below (β:=Unit) (Nat.le_refl _) hB.size () X Y row h3 hy hr,Nat.le_trans h4 hy.size⟩
 case hIx=>
  rintro c pre X Y row ⟨h0,h1,h2,h3⟩ hy hr;exact⟨h0,GF _ _ _ _ _ _ _ _ () X Y row h1 hy hr,h2,ownFrom_below (β:=Unit) (Nat.le_refl _) hB.size () X Y row h3 hy hr⟩
 case h0=>exact⟨⟨⟨⟨A1,a1⟩,⟨A2,a2⟩,x,hDW _ hB,fun g _ h2=>by rcases Nat.lt_or_ge g w.heap.size with h|h;(exact h2 h);(exact ai.out g h)⟩,r0,r1⟩,hid rfl,hB,Nat.le_refl _⟩
 case assign=>
  rintro l pre y W K hI hK
  dsimp only[secEnc]
  gi_wp2
  exact hK _ _ (KeepsFrom.refl _ _) (Stays.refl _ _) (KeepB.refl _ _ _) hI rfl
 case body=>
  rintro l pre y a' W ⟨⟨⟨p1,q1,h1,h2,h3⟩,h4,h5⟩,he0,hb,hs⟩ rfl hpl;obtain⟨⟨X,xe⟩,hX⟩:∃X,Dk.layIn (picked L.secs pre) D=X:=⟨_,rfl⟩;obtain⟨⟨E,er⟩,hE⟩:∃X',X.write L.secs[y.val].1 L.secs[y.val].2=X':=⟨_,rfl⟩;have Hn:=hid (show Dk.layIn (picked L.secs (pre++[y])) D=(E,er) by rw[BJ,Dk.layIn_snoc _ _ _ he0.out,hX];exact hE);rw[hX]at h1 h2 h3 h5;have hw:=F6 X p1 q1 W h2 L.secs[y.val].1 (aa.out y).1 L.secs[y.val].2 (aa.out y).2;rw[hE]at hw;simp only at h1 h3 h5 hw;clear hX hE he0 h2;have ad:=hid hs;have Hb:=hid hb;have HI:=hid h4;generalize L.secs[y.val].1=k at*;generalize L.secs[y.val].2=s at*;have z1:=blk5 h1;have H3:=hid h3;clear h3 h4 hs hb;by_cases he:er=0
  · subst he
    gi_wp2_with fail
    refine⟨trivial,(CallsIn.inRound l (callsIn_wide.2 hw)).mono ?_⟩;rintro e W2 ⟨⟨p2,q2,rfl,i2,o2⟩,hb2⟩;have y1:=h1.bl hb2;have y5:=h5.bl hb2;have u1:=blk5 y1;have u5:=blk1 y5;have v1:=y1.fz;have v5:=y5.fz
    gi_wp2
    obtain⟨l1,l2,l3,l4,l5,l6⟩:=GI ad.out vl Hb.out hb2 y1 y5 HI.out H3.out i2 o2 rfl;exact⟨l4,⟨l5,l6⟩,by rw[Hn.out];exact l1,hid (by rw[Hn.out]),l2,l3⟩
  · have n2:(er !=0)=true:=by simpa using he
    have He:=hid he;clear he
    gi_wp2_with fail
    refine⟨trivial,(CallsIn.inRound l (callsIn_wide.2 hw)).mono ?_⟩;rintro e W2 ⟨⟨p2,q2,rfl,i2,o2⟩,hb2⟩;have y1:=h1.bl hb2;have y5:=h5.bl hb2;have u1:=blk5 y1;have u5:=blk1 y5;have v1:=y1.fz;have v5:=y5.fz
    gi_wp2
    obtain⟨l1,l2,l3,l4,l5,l6⟩:=GI ad.out vl Hb.out hb2 y1 y5 HI.out H3.out i2 o2 rfl;exact⟨l4,rfl,by rw[Hn.out];exact l1,hid (by rw[Hn.out];exact He.out),l2⟩
 case done=>
  rintro Dd ys U hDd hS ⟨⟨⟨p1,q1,h1,h2,h3⟩,h4,h5⟩,he0,hb,hs⟩ hK;rw[hS]at h1 h2 h3 h5 he0;obtain⟨X,hX⟩:∃X,Dk.layIn L.secs D=X:=⟨_,rfl⟩;rw[hX]at h1 h2 h3 h5 he0;obtain⟨X,xe⟩:=X;have Hl:=hid (show Pn.lay D L=(X,xe)from hX);clear hX hS;simp only at h1 h2 h3 h5;have z1:=blk5 h1;have z4:=blk5 h4;have z5:=blk1 h5;have v4:=h4.fz;go_wp2_with fail
  go_region
  go_wp2_with fail
  obtain⟨m1,m2,m3,m4⟩:=GH hb h4 h3 h2 (Dd:=Dd) (by omega) hK rfl;have d0:=blk5 m2;refine⟨by simp,.inl ⟨_,_,rfl,run_takeDeferred m1,?_⟩⟩;refine⟨.tuple #[dval X p1 q1,.int .i64 xe],by simp[results,Tryz.results156,go_sem,d0],⟨p1,q1,by rw[Hl.out],by rw[Hl.out];exact m3,?_⟩,m4⟩;rw[Hl.out];exact fun g g1 g2=>h3 g (by omega) (fun _=>g2)
 case stop=>
  rintro Dd c pre U hDd ⟨m,hm,hpre⟩ ⟨rfl,⟨⟨p1,q1,h1,h2,h3⟩,h4,h5⟩,he0,hb⟩ hK;obtain⟨X,hX⟩:∃X,Dk.layIn (picked L.secs pre) D=X:=⟨_,rfl⟩;rw[hX]at h1 h2 h3 h5 he0;obtain⟨X,xe⟩:=X;have Hl:=hid (show Pn.lay D L=(X,xe) by
   have e:L.secs=picked L.secs pre++L.secs.drop (m+1):=by rw[hpre,List.take_append_drop]
   show Dk.layIn L.secs D=_;rw[e,Dk.layIn_stop _ _ _ (by rw[hX];exact he0.out),hX])
  clear hX hpre;simp only at h1 h2 h3 h5;have z1:=blk5 h1;have z4:=blk5 h4;have z5:=blk1 h5;have v4:=h4.fz;refine wpIn_wide.2 ?_;go_wp2_with fail
  go_region
  go_wp2_with fail
  obtain⟨m1,m2,m3,m4⟩:=GH hb h4 h3 h2 (Dd:=Dd) (by omega) hK rfl;have d0:=blk5 m2;refine⟨by simp,.inl ⟨_,_,rfl,run_takeDeferred m1,?_⟩⟩;refine⟨.tuple #[dval X p1 q1,.int .i64 xe],by simp[results,Tryz.results156,go_sem,d0],⟨p1,q1,by rw[Hl.out],by rw[Hl.out];exact m3,?_⟩,m4⟩;rw[Hl.out];exact fun g g1 g2=>h3 g (by omega) (fun _=>g2)
end
section
open Go.RowKit Go.Shelf
attribute [local go_sem] Ad Af Ag Ab Ai Ah
abbrev jval (j:Jr):Value:=.agg #[.int .u64 j.seq,.int .i64 j.pos]
theorem Ce (w:World):CR 119 #[] w (.tuple #[.int .i64 6,.int .i64 81]):=by
 go_enter Tryz.func119,Tryz.ntmps119;go_wp2_with fail
 refine(Pk _).mono ?_;rintro e w1 ⟨rfl,hb⟩;go_wp2_with fail
 go_ret2
 exact⟨rfl,hb⟩
theorem BF {pos size:Int}(h:pos<0\/size<0\/81<size\/81-size<pos):jrPlace pos size=0:=by unfold jrPlace;rw[if_pos h]
theorem GC {pos size:Int}(h:¬(pos<0\/size<0\/81<size\/81-size<pos)):jrPlace pos size=pos:=by unfold jrPlace;rw[if_neg h]
theorem L6 (pos size:Int)(h1: -9223372036854775808<=pos/\pos<=9223372036854775807)(h2: -9223372036854775808<=size/\size<=9223372036854775807)(w:World):
 CR 120 #[.int .i64 pos,.int .i64 size] w (.int .i64 (jrPlace pos size)):=by
 by_cases a1:pos<0
 · have Hw:=hid (BF (pos:=pos) (size:=size) (.inl a1));go_enter Tryz.func120,Tryz.ntmps120;go_wp2_with fail
   refine(Ce _).mono ?_;rintro e w1 ⟨rfl,hb⟩;go_wp2_with fail
   go_ret
   exact⟨by rw[Hw.out];rfl,hb⟩
 by_cases a2:size<0
 · have Hw:=hid (BF (pos:=pos) (size:=size) (.inr (.inl a2)));go_enter Tryz.func120,Tryz.ntmps120;go_wp2_with fail
   refine(Ce _).mono ?_;rintro e w1 ⟨rfl,hb⟩;go_wp2_with fail
   go_ret
   exact⟨by rw[Hw.out];rfl,hb⟩
 by_cases a3:81<size
 · have Hw:=hid (BF (pos:=pos) (size:=size) (.inr (.inr (.inl a3))));go_enter Tryz.func120,Tryz.ntmps120;go_wp2_with fail
   refine(Ce _).mono ?_;rintro e w1 ⟨rfl,hb⟩;go_wp2_with fail
   go_ret
   exact⟨by rw[Hw.out];rfl,hb⟩
 have w8:=i64w (x:=81-size) ⟨by omega,by omega⟩;by_cases a4:81-size<pos
 · have Hw:=hid (BF (pos:=pos) (size:=size) (.inr (.inr (.inr a4))));go_enter Tryz.func120,Tryz.ntmps120;go_wp2_with fail
   refine(Ce _).mono ?_;rintro e w1 ⟨rfl,hb⟩;go_wp2_with fail
   go_ret
   exact⟨by rw[Hw.out];rfl,hb⟩
 · have Hw:=hid (GC (pos:=pos) (size:=size) (by omega));go_enter Tryz.func120,Tryz.ntmps120;go_wp2_with fail
   refine(Ce _).mono ?_;rintro e w1 ⟨rfl,hb⟩;go_wp2_with fail
   go_ret
   exact⟨by rw[Hw.out];rfl,hb⟩
theorem OE (pos size:Int)(h1: -9223372036854775808<=pos/\pos<=9223372036854775807)(h2: -9223372036854775808<=size/\size<=9223372036854775807)(w:World):
 CR 111 #[.int .i64 pos,.int .i64 size] w (.int .i64 (jrPlace pos size)):=by
 by_cases a1:pos<0
 · have Hw:=hid (BF (pos:=pos) (size:=size) (.inl a1));go_enter Tryz.func111,Tryz.ntmps111;go_wp2_with fail
   go_ret
   exact⟨by rw[Hw.out];rfl,Below.refl _ _⟩
 by_cases a2:size<0
 · have Hw:=hid (BF (pos:=pos) (size:=size) (.inr (.inl a2)));go_enter Tryz.func111,Tryz.ntmps111;go_wp2_with fail
   go_ret
   exact⟨by rw[Hw.out];rfl,Below.refl _ _⟩
 by_cases a3:81<size
 · have Hw:=hid (BF (pos:=pos) (size:=size) (.inr (.inr (.inl a3))));go_enter Tryz.func111,Tryz.ntmps111;go_wp2_with fail
   go_ret
   exact⟨by rw[Hw.out];rfl,Below.refl _ _⟩
 have w8:=i64w (x:=81-size) ⟨by omega,by omega⟩;by_cases a4:81-size<pos
 · have Hw:=hid (BF (pos:=pos) (size:=size) (.inr (.inr (.inr a4))));go_enter Tryz.func111,Tryz.ntmps111;go_wp2_with fail
   go_ret
   exact⟨by rw[Hw.out];rfl,Below.refl _ _⟩
 · have Hw:=hid (GC (pos:=pos) (size:=size) (by omega));go_enter Tryz.func111,Tryz.ntmps111;go_wp2_with fail
   go_ret
   exact⟨by rw[Hw.out];rfl,Below.refl _ _⟩
theorem Mb {j:Jr}(h:j.seq=0\/4611686018427387904<j.seq\/j.pos<0\/81<j.pos):jrFit j=false:=by
 rw[<-Bool.not_eq_true,Ev];omega
theorem Mc {j:Jr}(h:¬(j.seq=0\/4611686018427387904<j.seq\/j.pos<0\/81<j.pos)):jrFit j=true:=Ev.2 (by omega)
theorem OD (j:Jr)(h1:j.seq<18446744073709551616)(h2: -9223372036854775808<=j.pos/\j.pos<=9223372036854775807)(w:World):
 CR 47 #[jval j] w (.bool (jrFit j)):=by
 have x0:=Blk.new w 30 #[.int .u64 j.seq,.int .i64 j.pos];have hb:=Yz (W:=w) (.cells #[.int .u64 j.seq,.int .i64 j.pos] 30);have k0:=blk2 x0;have a0:=hid (@Mb j);have a5:=hid (@Mc j);obtain⟨s,p⟩:=j;simp only at h1 h2;by_cases a1:s=0
 · have Hw:=hid (a0.out (.inl a1));subst a1;go_enter Tryz.func47,Tryz.ntmps47;go_wp2_with fail
   go_ret
   exact⟨by rw[Hw.out];rfl,hb⟩
 by_cases a2:4611686018427387904<s
 · have Hw:=hid (a0.out (.inr (.inl a2)));have a7:(4611686018427387904:Int)<(s:Int):=by omega
   have a6:(1:Int)<=(s:Int):=by omega
   go_enter Tryz.func47,Tryz.ntmps47;go_wp2_with fail
   go_ret
   exact⟨by rw[Hw.out];rfl,hb⟩
 by_cases a3:p<0
 · have Hw:=hid (a0.out (.inr (.inr (.inl a3))));have a9:decide (0<=p)=false:=decide_eq_false (by omega);have a7:(s:Int)<=4611686018427387904:=by omega
   have a6:(1:Int)<=(s:Int):=by omega
   go_enter Tryz.func47,Tryz.ntmps47;go_wp2_with fail
   go_ret
   exact⟨by rw[Hw.out];rfl,hb⟩
 by_cases a4:81<p
 · have Hw:=hid (a0.out (.inr (.inr (.inr a4))));have a8:decide (p<=81)=false:=decide_eq_false (by omega);have a7:(s:Int)<=4611686018427387904:=by omega
   have a6:(1:Int)<=(s:Int):=by omega
   go_enter Tryz.func47,Tryz.ntmps47;go_wp2_with fail
   go_ret
   exact⟨by rw[Hw.out];rfl,hb⟩
 · have Hw:=hid (a5.out (by simp only;omega));have a8:decide (p<=81)=true:=decide_eq_true (by omega);have a7:(s:Int)<=4611686018427387904:=by omega
   have a6:(1:Int)<=(s:Int):=by omega
   go_enter Tryz.func47,Tryz.ntmps47;go_wp2_with fail
   go_ret
   exact⟨by rw[Hw.out];rfl,hb⟩
structure RowBox (V:World) (B0:Nat) (t:TypeId) (D0:Dk) (p0 q0:Pl) (X:Dk):Prop where
 ex:∃p q:Pl,Blk V B0 t #[.string (bs X.data),.slice p.a X.cache.length p.c,.int .i64 X.fuse,.bool X.off,.slice q.a X.bad.length q.c]/\IsDk V X p q/\(∀g,g<=B0+1->(g<B0->DkOff g D0 p0 q0)->DkOff g X p q)
 zero:Blk V (B0+1) t #[.string (bs []),.slice none 0 0,.int .i64 0,.bool false,.slice none 0 0]
theorem L8 (D:Dk)(p q:Pl)(at_:Int)(l:List (List UInt8))(A:Option Addr)(c G1 G2:Nat)(w:World)(hD:IsDk w D p q)(h1:Blk w G1 61 #[.slice A l.length c])(h2:Blk w G2 3 #[.int .i64 at_])(hA:Cells w A (strCells l))
 (hat:0<=at_/\at_<=1000000) (hl:l.length<=1000000) (hs:∀s∈l,s.length<=9223372036854775807):
 CX 153 #[dval D p q,.pointer (some ⟨G1,0,none⟩),.pointer (some ⟨G2,0,none⟩)] w (RetDkN w.heap.size D p q (Dk.layIn (rowsFrom at_ l) D)):=by
 have a5:=hid (fun(W:World)(hb:Below w.heap.size w W)=>hA.below hb);have a6:=hid (fun g (hg:w.heap.size<=g)=>hD.apart hg);have HDW:=hid (fun(W:World)(hb:Below w.heap.size w W)=>(hD.below hb:IsDk W D p q));have H1:=hid (fun(W:World)(hb:Below w.heap.size w W)=>blk1 (h1.bl hb));have H2:=hid (fun(W:World)(hb:Below w.heap.size w W)=>blk1 (h2.bl hb));clear hD hA h1 h2;obtain⟨A1,a1⟩:=p;obtain⟨A2,a2⟩:=q;have hB:=Y0 w;have x:=apc5 (Blk.new w 25) D A1 a1 A2 a2;have a0:=Ya hB x;have r:=Yd a0 25 #[.string (bs []),.slice none 0 0,.int .i64 0,.bool false,.slice none 0 0];simp only[Ys]at r;have hB_2:=Ya a0 r;have x_3:=Yc x hB_2;have y1:=H1.out _ hB_2;go_enter Tryz.func153,Tryz.ntmps153;go_wp2_with fail
 go_loopw [6,11] (fun er u W=>∃i:Nat,i<=l.length/\u=.int .i64 i/\er=.int .i64 0/\∃X:Dk,Hid (Dk.layIn ((rowsFrom at_ l).take i) D=(X,0))/\RowBox W w.heap.size 25 D ⟨A1,a1⟩ ⟨A2,a2⟩ X/\Below w.heap.size w W) (fun _ u _=>l.length-(intOf u).toNat)
 case atStart=>exact⟨0,Nat.zero_le _,rfl,rfl,D,hid rfl,⟨⟨⟨A1,a1⟩,⟨A2,a2⟩,x_3,HDW.out _ hB_2,fun g _ h2=>by rcases Nat.lt_or_ge g w.heap.size with h|h;(exact h2 h);(exact a6.out g h)⟩,r⟩,hB_2⟩
 case round=>
  obtain⟨i,hi,rfl,rfl,X,hX,⟨⟨p1,q1,h1,h2,h3⟩,h4⟩,hb⟩:=hrel;have z1:=blk5 h1;have z4:=blk5 h4;have v4:=h4.fz;clear y1;by_cases hlt:i<l.length
  · obtain⟨c2,o2,e2,cs⟩:=(a5.out _ hb).str hlt;subst e2;replace cs:=cs i hlt;have y2:=H2.out _ hb;have a7:=hs _ (List.getElem_mem hlt);obtain⟨⟨E,er⟩,hE⟩:∃X',X.write (at_+i) l[i]=X':=⟨_,rfl⟩;have hZ:i<(rowsFrom at_ l).length:=by rw[Bf];exact hlt
    have Hn:=hid (show Dk.layIn ((rowsFrom at_ l).take (i+1)) D=(E,er) by
     rw[List.take_succ_eq_append_getElem hZ,Dk.layIn_snoc _ _ _ (by rw[hX.out]),hX.out,Cs l at_ i hlt];exact hE)
    have hw:=fun(W:World)(hb:Below wr.heap.size wr W)=>F6 X p1 q1 W (h2.below hb) (at_+i) ⟨by omega,by omega⟩ l[i] a7
    simp only[hE]at hw;have a4:=hid (fun(h:er≠0)=>show Dk.layIn (rowsFrom at_ l) D=(E,er) by
     have e:rowsFrom at_ l=(rowsFrom at_ l).take (i+1)++(rowsFrom at_ l).drop (i+1):=(List.take_append_drop _ _).symm;rw[e,Dk.layIn_stop _ _ _ (by rw[Hn.out];exact h),Hn.out])
    have wk:=i64w (x:=at_+(i:Int)) ⟨by omega,by omega⟩;have H3:=hid h3;clear h3 hE hX hZ;generalize l[i]=s at*;go_wp2_with fail
    refine(hw _ (Below.refl _ _)).mono ?_;rintro e W1 ⟨⟨p2,q2,rfl,i2,o2'⟩,hbl⟩;have g1:w.heap.size+1<wr.heap.size:=h4.lt;have bd7:=h1.bl hbl;have br7:=h4.bl hbl;have b7:=bt hb hbl;have kd:=blk5 bd7;have fd:=bd7.fz;have kr:=blk5 br7;have fr:=br7.fz;have a3:=hid (fun g (g1:g<=w.heap.size+1)(g2:g<w.heap.size->DkOff g D ⟨A1,a1⟩ ⟨A2,a2⟩)=>o2' g (by omega) (H3.out g g1 g2));have od:DkOff w.heap.size E p2 q2:=a3.out _ (by omega) (fun h=>absurd h (by omega));have a8:DkOff (w.heap.size+1) E p2 q2:=a3.out _ (by omega) (fun h=>absurd h (by omega));clear z1 z4 v4 hw h1 h4 h2 cs y2;by_cases he:er=0
    · subst he;go_wp2_with fail
      go_roundw
      case rel=>exact⟨i+1,by omega,by go_num,rfl,E,Hn,⟨⟨p2,q2,ap5 (Ap bd7) E p2.a p2.c q2.a q2.c,ap5 (i2.off5 od) E p2.a p2.c q2.a q2.c,a3.out⟩,ap5 (Au br7 (by omega)) E p2.a p2.c q2.a q2.c⟩,ap5 (Ao b7 (Nat.le_refl _)) E p2.a p2.c q2.a q2.c⟩
      case measure=>simp[intOf];omega
    · have Hl:=hid (a4.out he);have n1:(er !=0)=true:=by simpa using he
      clear he a4;go_wp2_with fail
      have yy:=blk5 (ap5 (Ap (ap5 (Au br7 (g:=w.heap.size) (by omega)) E p2.a p2.c q2.a q2.c)) E p2.a p2.c q2.a q2.c);refine bodyPost_ret (v:=.tuple #[dval E p2 q2,.int .i64 er]) (by simp[results,Tryz.results153,go_sem,yy]) rfl ?_;exact⟨⟨p2,q2,by rw[Hl.out],by rw[Hl.out];exact ap5 ((ap5 (i2.off5 od) E p2.a p2.c q2.a q2.c).off5 a8) E p2.a p2.c q2.a q2.c,by rw[Hl.out];exact fun g g1 g2=>a3.out g (by omega) (fun _=>g2)⟩,ap5 (Ao (ap5 (Ao b7 (Nat.le_refl _)) E p2.a p2.c q2.a q2.c) (by omega)) E p2.a p2.c q2.a q2.c⟩
  · obtain rfl:i=l.length:=by omega
    have Hl:=hid (show Dk.layIn (rowsFrom at_ l) D=(X,0) by
     have:=hX.out
     rwa [List.take_of_length_le (by rw[Bf];exact Nat.le_refl _)]at this)
    clear hX;go_wp2_with fail
    have z5:=blk5 (ap5 (Ap h4) X p1.a p1.c q1.a q1.c);refine bodyPost_ret (v:=.tuple #[dval X p1 q1,.int .i64 0]) (by simp[results,Tryz.results153,go_sem,z5]) rfl ?_;exact⟨⟨p1,q1,by rw[Hl.out],by rw[Hl.out];exact h2.off5 (h3 _ (Nat.le_refl _) (fun h=>absurd h (by omega))) _ _ _ _ _,by rw[Hl.out];exact fun g g1 g2=>h3 g (by omega) (fun _=>g2)⟩,Ao hb (by omega) _ _ _ _ _⟩
theorem L5 (D:Dk)(L:Pn)(p q p' q':Pl)(G:Nat)(w:World)(hD:IsDk w D p q)(hL:IsPn w L p' q')(hG:Blk w G 63 #[.slice p'.a L.targets.length p'.c,.slice q'.a L.data.length q'.c])(hlen:L.targets.length=L.data.length)(hmany:L.targets.length<=1000000):
 CX 155 #[dval D p q,.pointer (some ⟨G,0,none⟩)] w (RetDkN w.heap.size D p q (Pn.lay D L)):=by
 have h1:=fun(W:World)(hb:Below w.heap.size w W)=>M3 D L p q p' q' W (hD.below hb) (hL.below hb) hlen hmany
 have a9:DkOff w.heap.size D p q/\DkOff (w.heap.size+1) D p q:=⟨hD.apart (Nat.le_refl _),hD.apart (by omega)⟩;generalize Pn.lay D L=X at*;obtain⟨X,xe⟩:=X;clear hD hL hlen;obtain⟨A1,a1⟩:=p;obtain⟨A2,a2⟩:=q;have hB:=Y0 w;have x:=apc5 (Blk.new w 25) D A1 a1 A2 a2;have a3:=Ya hB x;have a4:=Yc hG a3;have r:=Yd a3 25 #[.string (bs []),.slice none 0 0,.int .i64 0,.bool false,.slice none 0 0];simp only[Ys]at r;have rk:=blk5 r;have a0:=Ya a3 r;obtain⟨a5,a6⟩:=Z2 (Yc a4 a0);obtain⟨a8,a7⟩:=Z5 (Yc x a0);have hr:=r.lt;go_enter Tryz.func155,Tryz.ntmps155;go_wp2_with fail
 refine((h1 _ a0)).mono ?_;rintro e w1 ⟨⟨p2,q2,rfl,i2,o2⟩,hb1⟩;replace hB:=bt a0 hb1;replace hG:=a5.bl hb1;replace x:=a8.bl hb1;replace r:=r.bl hb1;replace rk:=blk5 r;clear a3 a4 a0 a6 a5 a7 a8;have fr:=r.fz;simp only at i2 o2;go_wp2_with fail
 have aa:DkOff (w.heap.size+1) X p2 q2:=o2 _ hr a9.2;have yy:=blk5 (ap5 (Ap r) X p2.a p2.c q2.a q2.c);refine bodyPost_ret (v:=.tuple #[dval X p2 q2,.int .i64 xe]) (by simp[results,Tryz.results155,go_sem,yy]) rfl ?_;exact⟨⟨p2,q2,rfl,i2.off5 aa _ _ _ _ _,fun g g1 g2=>o2 g (by omega) g2⟩,Ao hB (by omega) _ _ _ _ _⟩
inductive Stp where
 |flush
 |rows (G1 G2:Nat) (k:Int) (l:List (List UInt8))
 |laid (G:Nat) (L:Pn)
def Stp.run:Stp->Dk->Dk×Int
 | .flush,D=>D.flush
 | .rows _ _ k l,D=>Dk.layIn (rowsFrom k l) D
 | .laid _ L,D=>Pn.lay D L
theorem Stp.fit (s:Stp){D:Dk}(h:D.fit=true):(s.run D).1.fit=true:=by
 cases s with
 |flush=>exact Dk.flush_fit h
 |rows G1 G2 k l=>exact Dk.layIn_fit h
 |laid G L=>exact Dk.layIn_fit h
def runAll:List Stp->Dk->Dk×Int
 |[],D=>(D,0)
 |s::l,D=>if(s.run D).2≠0 then s.run D else runAll l (s.run D).1
theorem Pi:∀(l:List Stp)(D:Dk)(x:Stp),(runAll l D).2=0->runAll (l++[x]) D=x.run (runAll l D).1:=by
 intro l
 induction l with
 |nil=>
  intro D x _;show(if(x.run D).2≠0 then x.run D else((x.run D).1,0))=x.run D
  split
  · rfl
  · rename_i h
    have h0:(x.run D).2=0:=by simpa using h
    exact Prod.ext rfl h0.symm
 |cons s l ih=>
  intro D x h;rw[List.cons_append,runAll,runAll]at*
  split
  · rename_i h1;rw[if_pos h1]at h;exact absurd h h1
  · rename_i h1;rw[if_neg h1]at h;exact ih _ _ h
theorem Pj:∀(l r:List Stp)(D:Dk),(runAll l D).2≠0->runAll (l++r) D=runAll l D:=by
 intro l
 induction l with
 |nil=>intro r D h;exact absurd rfl h
 |cons s l ih=>
  intro r D h;rw[List.cons_append,runAll,runAll]at*
  split
  · rfl
  · rename_i h1;rw[if_neg h1]at h;exact ih _ _ h
theorem blk6 {w:World}{g:Nat}{t:TypeId}{a b c d e f:Value}(h:Blk w g t #[a,b,c,d,e,f]):
 w.cell? ⟨g,0,none⟩=some a/\w.cell? ⟨g,1,none⟩=some b/\w.cell? ⟨g,2,none⟩=some c/\w.cell? ⟨g,3,none⟩=some d/\w.cell? ⟨g,4,none⟩=some e/\w.cell? ⟨g,5,none⟩=some f:=
 ⟨h.cell 0,h.cell 1,h.cell 2,h.cell 3,h.cell 4,h.cell 5⟩
theorem DY {w:World}{g:Nat}{t:TypeId}{a b c d e f:Value}(h:Blk w g t #[a,b,c,d,e,f])(v0 v1 v2 v3 v4 v5:Value):
 Blk ((((((w.setCell ⟨g,0,none⟩ v0).setCell ⟨g,1,none⟩ v1).setCell ⟨g,2,none⟩ v2).setCell ⟨g,3,none⟩ v3).setCell ⟨g,4,none⟩ v4).setCell ⟨g,5,none⟩ v5) g t #[v0,v1,v2,v3,v4,v5]:=by
 have:=(((((h.set 0 v0).set 1 v1).set 2 v2).set 3 v3).set 4 v4).set 5 v5;simpa using this
theorem Eu {w:World}{D:Dk}{p q:Pl}(h:IsDk w D p q){g:Nat}(ho:DkOff g D p q)(v0 v1 v2 v3 v4 v5:Value):
 IsDk ((((((w.setCell ⟨g,0,none⟩ v0).setCell ⟨g,1,none⟩ v1).setCell ⟨g,2,none⟩ v2).setCell ⟨g,3,none⟩ v3).setCell ⟨g,4,none⟩ v4).setCell ⟨g,5,none⟩ v5) D p q:=by
 have h5:=h.off5 ho v0 v1 v2 v3 v4;obtain⟨W,hW⟩:∃W,(((((w.setCell ⟨g,0,none⟩ v0).setCell ⟨g,1,none⟩ v1).setCell ⟨g,2,none⟩ v2).setCell ⟨g,3,none⟩ v3).setCell ⟨g,4,none⟩ v4)=W:=⟨_,rfl⟩;rw[hW]at h5 ⊢;have:=IsDk.off h5 (a:=⟨g,5,none⟩) ho v5;exact this
def Stp.val:Stp->Value
 | .flush=>.func (.func 40) #[] #[]
 | .rows G1 G2 _ _=>.func (.func 153) #[] #[.pointer (some ⟨G1,0,none⟩),.pointer (some ⟨G2,0,none⟩)]
 | .laid G _=>.func (.func 155) #[] #[.pointer (some ⟨G,0,none⟩)]
def Stp.ready (w:World):Stp->Prop
 | .flush=>True
 | .rows G1 G2 k l=>∃A c,Blk w G1 61 #[.slice A l.length c]/\Blk w G2 3 #[.int .i64 k]/\Cells w A (strCells l)/\(0<=k/\k<=1000000)/\l.length<=1000000/\∀s∈l,s.length<=9223372036854775807
 | .laid G L=>∃p q:Pl,Blk w G 63 #[.slice p.a L.targets.length p.c,.slice q.a L.data.length q.c]/\IsPn w L p q/\L.targets.length=L.data.length/\L.targets.length<=1000000
theorem LA {w:World}{D:Dk}{p q:Pl}(hD:IsDk w D p q)(hf:D.fit=true):Calls Tryz.prog 40 #[dval D p q] w fun e w'=>RetDkN w.heap.size D p q (Stp.flush.run D) e w'/\Below w.heap.size w w':=F5 D p q w hD hf
theorem OW {w:World}{G1 G2:Nat}{k:Int}{l:List (List UInt8)}(h:Stp.ready w (.rows G1 G2 k l)){D:Dk}{p q:Pl}(hD:IsDk w D p q):
 CX 153 #[dval D p q,.pointer (some ⟨G1,0,none⟩),.pointer (some ⟨G2,0,none⟩)] w (RetDkN w.heap.size D p q ((Stp.rows G1 G2 k l).run D)):=by
 obtain⟨A,c,h1,h2,h3,h4,h5,h6⟩:=h;exact L8 D p q k l A c G1 G2 w hD h1 h2 h3 h4 h5 h6
theorem Mh {w:World}{G:Nat}{L:Pn}(h:Stp.ready w (.laid G L)){D:Dk}{p q:Pl}(hD:IsDk w D p q):
 CX 155 #[dval D p q,.pointer (some ⟨G,0,none⟩)] w (RetDkN w.heap.size D p q ((Stp.laid G L).run D)):=by
 obtain⟨p',q',h1,h2,h3,h4⟩:=h;exact L5 D L p q p' q' G w hD h2 h1 h3 h4
theorem L3 (ss:List Stp)(D:Dk)(p q:Pl)(g:Nat)(A:Option Addr)(c:Nat)(w:World)(hG:Blk w g 176 #[.string (bs D.data),.slice p.a D.cache.length p.c,.int .i64 D.fuse,.bool D.off,.slice q.a D.bad.length q.c,.int .i64 0])
 (hD:IsDk w D p q) (hf:D.fit=true) (ho:DkOff g D p q) (hA:Cells w A (ss.map Stp.val)) (hAg:∀b off,A=some ⟨b,off,none⟩->b≠g) (hl:ss.length<=1000)
 (hs:∀s∈ss,∀(W:World),w.grownBy W (some g)->Stp.ready W s):
 Calls Tryz.prog 121 #[.pointer (some ⟨g,0,none⟩),.slice A ss.length c] w fun e w'=>e=.returned (.tuple #[])/\w.grownBy w' (some g)/\∃p' q',Blk w' g 176 #[.string (bs (runAll ss D).1.data),.slice p'.a (runAll ss D).1.cache.length p'.c,.int .i64 (runAll ss D).1.fuse,.bool (runAll ss D).1.off,.slice q'.a (runAll ss D).1.bad.length q'.c,.int .i64 (runAll ss D).2]/\IsDk w' (runAll ss D).1 p' q'/\DkOff g (runAll ss D).1 p' q'/\∀b,b<w.heap.size->DkOff b D p q->DkOff b (runAll ss D).1 p' q':=by
 have Hs:=hid hs;have ac:=hid hAg;clear hs hAg;obtain⟨A1,a1⟩:=p;obtain⟨A2,a2⟩:=q;go_enter Tryz.func121,Tryz.ntmps121;go_wp2_with fail
 go_step3
 go_wp2_with fail
 go_step3
 go_wp2_with fail
 go_loopw [8] (fun u W=>∃i:Nat,i<=ss.length/\u=.int .i64 i/\∃(E:Dk)(p1 q1:Pl),Hid (runAll (ss.take i) D=(E,0))/\Hid (E.fit=true)/\w.grownBy W (some g)/\Blk W g 176 #[.string (bs E.data),.slice p1.a E.cache.length p1.c,.int .i64 E.fuse,.bool E.off,.slice q1.a E.bad.length q1.c,.int .i64 0]/\IsDk W E p1 q1/\DkOff g E p1 q1/\Hid (∀b,b<w.heap.size->DkOff b D ⟨A1,a1⟩ ⟨A2,a2⟩->DkOff b E p1 q1)) (fun u _=>ss.length-(intOf u).toNat)
 case atStart=>exact⟨0,Nat.zero_le _,rfl,D,⟨A1,a1⟩,⟨A2,a2⟩,hid rfl,hid hf,De _ _,hG,hD,ho,hid (fun _ _ h=>h)⟩
 case round=>
  obtain⟨i,hi,rfl,E,p1,q1,hE,hEf,hgr,hb,hIs,hog,hoff⟩:=hrel;have kk:=blk6 hb;by_cases hlt:i<ss.length
  · have a3:∃b off,A=some ⟨b,off,none⟩/\wr.cell? ⟨b,off+i,none⟩=some (ss[i]).val:=by
     rcases hA with h|⟨b,off,e,hc⟩
     · have:=congrArg List.length h;rw[List.length_map]at this;simp only[List.length_nil]at this;omega
     · refine⟨b,off,e,?_⟩;have h1:=hc i (ss[i]).val (by simp[hlt]);have h2:=Bb h1;have h3:=ac.out b off e;rw[World.cell?_of_block (w:=w) (a:=⟨b,off+i,none⟩) (hgr.block b h2 (by intro e;injection e with e;exact h3 e))];exact h1
    obtain⟨b0,o0,rfl,a3⟩:=a3;have a6:=Hs.out ss[i] (List.getElem_mem hlt) wr hgr;have Hnf:=hid (Stp.fit ss[i] hEf.out);have Hn:=hid (show runAll (ss.take (i+1)) D=(ss[i]).run E by
     rw[List.take_succ_eq_append_getElem hlt,Pi _ _ _ (by rw[hE.out]),hE.out])
    have a4:=hid (fun(h:((ss[i]).run E).2≠0)=>show runAll ss D=(ss[i]).run E by
     have e:ss=ss.take (i+1)++ss.drop (i+1):=(List.take_append_drop _ _).symm
     conv=>lhs;rw[e]
     rw[Pj _ _ _ (by rw[Hn.out];exact h),Hn.out])
    clear hE;generalize ss[i]=s at*;have a7:=hb.lt;cases s with
    |flush=>
     have a0:=(LA hIs hEf.out);obtain⟨⟨X,er⟩,hX⟩:∃X,(Stp.flush).run E=X:=⟨_,rfl⟩;rw[hX]at a0 Hnf Hn a4;simp only[Stp.val]at a3 Hnf a4;clear hX a6;go_wp2_with fail
     refine a0.mono ?_;rintro e W1 ⟨⟨p2,q2,rfl,i2,o2⟩,hbl⟩;have a5:=hb.below hbl a7;have aa:=blk6 a5;have a9:=a5.fz;have og:=o2 _ a7 hog;have a8:=CD hgr hbl;have gr2:=Eo a8 (.string (bs X.data)) (.slice p2.a X.cache.length p2.c) (.int .i64 X.fuse) (.bool X.off) (.slice q2.a X.bad.length q2.c) (.int .i64 er);have hb2:=DY a5 (.string (bs X.data)) (.slice p2.a X.cache.length p2.c) (.int .i64 X.fuse) (.bool X.off) (.slice q2.a X.bad.length q2.c) (.int .i64 er);have is2:=Eu i2 og (.string (bs X.data)) (.slice p2.a X.cache.length p2.c) (.int .i64 X.fuse) (.bool X.off) (.slice q2.a X.bad.length q2.c) (.int .i64 er);have Hoff:=hid (fun b (h1:b<w.heap.size)(h2:DkOff b D ⟨A1,a1⟩ ⟨A2,a2⟩)=>o2 b (Nat.lt_of_lt_of_le h1 hgr.size) (hoff.out b h1 h2));have ab:=blk6 hb2;clear kk;by_cases he:er=0
     · subst he;go_wp2_with fail
       go_roundw
       case rel=>exact⟨i+1,by omega,by go_num,X,p2,q2,Hn,Hnf,gr2,hb2,is2,og,Hoff⟩
       case measure=>simp[intOf];omega
     · have Hl:=hid (a4.out he);have n1:(er !=0)=true:=by simpa using he
       clear he a4;go_wp2_with fail
       rw[Exit.noGoto_normal];refine bodyPost_end (v:=.tuple #[]) (by simp[results,Tryz.results121,go_sem]) rfl ?_;exact⟨rfl,gr2,p2,q2,by rw[Hl.out];exact hb2,by rw[Hl.out];exact is2,by rw[Hl.out];exact og,by rw[Hl.out];exact Hoff.out⟩
    |rows G1 G2 k l=>
     have a0:=(OW a6 hIs);obtain⟨⟨X,er⟩,hX⟩:∃X,(Stp.rows G1 G2 k l).run E=X:=⟨_,rfl⟩;rw[hX]at a0 Hnf Hn a4;simp only[Stp.val]at a3 Hnf a4;clear hX a6;go_wp2_with fail
     refine a0.mono ?_;rintro e W1 ⟨⟨p2,q2,rfl,i2,o2⟩,hbl⟩;have a5:=hb.below hbl a7;have aa:=blk6 a5;have a9:=a5.fz;have og:=o2 _ a7 hog;have a8:=CD hgr hbl;have gr2:=Eo a8 (.string (bs X.data)) (.slice p2.a X.cache.length p2.c) (.int .i64 X.fuse) (.bool X.off) (.slice q2.a X.bad.length q2.c) (.int .i64 er);have hb2:=DY a5 (.string (bs X.data)) (.slice p2.a X.cache.length p2.c) (.int .i64 X.fuse) (.bool X.off) (.slice q2.a X.bad.length q2.c) (.int .i64 er);have is2:=Eu i2 og (.string (bs X.data)) (.slice p2.a X.cache.length p2.c) (.int .i64 X.fuse) (.bool X.off) (.slice q2.a X.bad.length q2.c) (.int .i64 er);have Hoff:=hid (fun b (h1:b<w.heap.size)(h2:DkOff b D ⟨A1,a1⟩ ⟨A2,a2⟩)=>o2 b (Nat.lt_of_lt_of_le h1 hgr.size) (hoff.out b h1 h2));have ab:=blk6 hb2;clear kk;by_cases he:er=0
     · subst he;go_wp2_with fail
       go_roundw
       case rel=>exact⟨i+1,by omega,by go_num,X,p2,q2,Hn,Hnf,gr2,hb2,is2,og,Hoff⟩
       case measure=>simp[intOf];omega
     · have Hl:=hid (a4.out he);have n1:(er !=0)=true:=by simpa using he
       clear he a4;go_wp2_with fail
       rw[Exit.noGoto_normal];refine bodyPost_end (v:=.tuple #[]) (by simp[results,Tryz.results121,go_sem]) rfl ?_;exact⟨rfl,gr2,p2,q2,by rw[Hl.out];exact hb2,by rw[Hl.out];exact is2,by rw[Hl.out];exact og,by rw[Hl.out];exact Hoff.out⟩
    |laid G L=>
     have a0:=(Mh a6 hIs);obtain⟨⟨X,er⟩,hX⟩:∃X,(Stp.laid G L).run E=X:=⟨_,rfl⟩;rw[hX]at a0 Hnf Hn a4;simp only[Stp.val]at a3 Hnf a4;clear hX a6;go_wp2_with fail
     refine a0.mono ?_;rintro e W1 ⟨⟨p2,q2,rfl,i2,o2⟩,hbl⟩;have a5:=hb.below hbl a7;have aa:=blk6 a5;have a9:=a5.fz;have og:=o2 _ a7 hog;have a8:=CD hgr hbl;have gr2:=Eo a8 (.string (bs X.data)) (.slice p2.a X.cache.length p2.c) (.int .i64 X.fuse) (.bool X.off) (.slice q2.a X.bad.length q2.c) (.int .i64 er);have hb2:=DY a5 (.string (bs X.data)) (.slice p2.a X.cache.length p2.c) (.int .i64 X.fuse) (.bool X.off) (.slice q2.a X.bad.length q2.c) (.int .i64 er);have is2:=Eu i2 og (.string (bs X.data)) (.slice p2.a X.cache.length p2.c) (.int .i64 X.fuse) (.bool X.off) (.slice q2.a X.bad.length q2.c) (.int .i64 er);have Hoff:=hid (fun b (h1:b<w.heap.size)(h2:DkOff b D ⟨A1,a1⟩ ⟨A2,a2⟩)=>o2 b (Nat.lt_of_lt_of_le h1 hgr.size) (hoff.out b h1 h2));have ab:=blk6 hb2;clear kk;by_cases he:er=0
     · subst he;go_wp2_with fail
       go_roundw
       case rel=>exact⟨i+1,by omega,by go_num,X,p2,q2,Hn,Hnf,gr2,hb2,is2,og,Hoff⟩
       case measure=>simp[intOf];omega
     · have Hl:=hid (a4.out he);have n1:(er !=0)=true:=by simpa using he
       clear he a4;go_wp2_with fail
       rw[Exit.noGoto_normal];refine bodyPost_end (v:=.tuple #[]) (by simp[results,Tryz.results121,go_sem]) rfl ?_;exact⟨rfl,gr2,p2,q2,by rw[Hl.out];exact hb2,by rw[Hl.out];exact is2,by rw[Hl.out];exact og,by rw[Hl.out];exact Hoff.out⟩
  · obtain rfl:i=ss.length:=by omega
    have Hl:=hid (show runAll ss D=(E,0) by have:=hE.out;rwa [List.take_length]at this);clear hE;go_wp2_with fail
    rw[Exit.noGoto_normal];refine bodyPost_end (v:=.tuple #[]) (by simp[results,Tryz.results121,go_sem]) rfl ?_;exact⟨rfl,hgr,p1,q1,by rw[Hl.out];exact hb,by rw[Hl.out];exact hIs,by rw[Hl.out];exact hog,by rw[Hl.out];exact hoff.out⟩
structure IsMs (w:World) (l:List Dm) (r:Pl):Prop where
 row:Cells w r.a (dmRows l)
 nil:r.a=none->r.c=0
 cap:l.length<=r.c
 max:r.c<=maxLen
 bits:∀m∈l,m.bits.length=64
 name:∀m∈l,m.name.length<=maxLen
def MsOff (g:Nat)(l:List Dm)(r:Pl):Prop:=Off g r.a l.length
theorem IsMs.below {w w':World}{l:List Dm}{r:Pl}(h:IsMs w l r)(hb:Below w.heap.size w w'):IsMs w' l r:={h with row:=h.row.below hb}
theorem IsMs.off {w:World}{l:List Dm}{r:Pl}(h:IsMs w l r){a:Addr}(ho:MsOff a.block l r)(v:Value):IsMs (w.setCell a v) l r:=
 {h with row:=h.row.off ho (fun e=>by rw[List.length_eq_zero_iff.1 e];rfl) v}
theorem IsMs.o1 {B:Nat}{u W:World}{a:Addr}{v:Value}{D:List Dm}{p:Pl}(h:IsMs W D p)(hb:Below B u (W.setCell a v))(ho:MsOff a.block D p):IsMs (W.setCell a v) D p:=h.off ho v
theorem IsMs.oa {B:Nat}{u W:World}{g:Nat}{v0 v1:Value}{D:List Dm}{p:Pl}(h:IsMs W D p)(hb:Below B u ((W.setCell ⟨g,0,none⟩ v0).setCell ⟨g,1,none⟩ v1))(ho:MsOff g D p):IsMs ((W.setCell ⟨g,0,none⟩ v0).setCell ⟨g,1,none⟩ v1) D p:=(h.off (a:=⟨g,0,none⟩) ho v0).off (a:=⟨g,1,none⟩) ho v1
theorem IsMs.ob {B:Nat}{u W:World}{g:Nat}{v0 v1 v2 v3 v4:Value}{D:List Dm}{p:Pl}(h:IsMs W D p)(hb:Below B u (((((W.setCell ⟨g,0,none⟩ v0).setCell ⟨g,1,none⟩ v1).setCell ⟨g,2,none⟩ v2).setCell ⟨g,3,none⟩ v3).setCell ⟨g,4,none⟩ v4))(ho:MsOff g D p):IsMs (((((W.setCell ⟨g,0,none⟩ v0).setCell ⟨g,1,none⟩ v1).setCell ⟨g,2,none⟩ v2).setCell ⟨g,3,none⟩ v3).setCell ⟨g,4,none⟩ v4) D p:=((((h.off (a:=⟨g,0,none⟩) ho v0).off (a:=⟨g,1,none⟩) ho v1).off (a:=⟨g,2,none⟩) ho v2).off (a:=⟨g,3,none⟩) ho v3).off (a:=⟨g,4,none⟩) ho v4
theorem IsMs.oc {B:Nat}{u W:World}{g:Nat}{v0 v1 v2 v3 v4 v5 v6 v7 v8 v9 v10:Value}{D:List Dm}{p:Pl}(h:IsMs W D p)(hb:Below B u (((((((((((W.setCell ⟨g,0,none⟩ v0).setCell ⟨g,1,none⟩ v1).setCell ⟨g,2,none⟩ v2).setCell ⟨g,3,none⟩ v3).setCell ⟨g,4,none⟩ v4).setCell ⟨g,5,none⟩ v5).setCell ⟨g,6,none⟩ v6).setCell ⟨g,7,none⟩ v7).setCell ⟨g,8,none⟩ v8).setCell ⟨g,9,none⟩ v9).setCell ⟨g,10,none⟩ v10))(ho:MsOff g D p):IsMs (((((((((((W.setCell ⟨g,0,none⟩ v0).setCell ⟨g,1,none⟩ v1).setCell ⟨g,2,none⟩ v2).setCell ⟨g,3,none⟩ v3).setCell ⟨g,4,none⟩ v4).setCell ⟨g,5,none⟩ v5).setCell ⟨g,6,none⟩ v6).setCell ⟨g,7,none⟩ v7).setCell ⟨g,8,none⟩ v8).setCell ⟨g,9,none⟩ v9).setCell ⟨g,10,none⟩ v10) D p:=((((((((((h.off (a:=⟨g,0,none⟩) ho v0).off (a:=⟨g,1,none⟩) ho v1).off (a:=⟨g,2,none⟩) ho v2).off (a:=⟨g,3,none⟩) ho v3).off (a:=⟨g,4,none⟩) ho v4).off (a:=⟨g,5,none⟩) ho v5).off (a:=⟨g,6,none⟩) ho v6).off (a:=⟨g,7,none⟩) ho v7).off (a:=⟨g,8,none⟩) ho v8).off (a:=⟨g,9,none⟩) ho v9).off (a:=⟨g,10,none⟩) ho v10
theorem IsMs.apart {w:World}{l:List Dm}{r:Pl}(h:IsMs w l r){g:Nat}(hg:w.heap.size<=g):MsOff g l r:=Cj h.row (by rw[AY h.bits];omega) hg
theorem Dh (w:World):IsMs w [] ⟨none,0⟩:=⟨.inl rfl,fun _=>rfl,Nat.le_refl _,Nat.zero_le _,fun _ h=>(by cases h),fun _ h=>(by cases h)⟩
theorem GS (g:Nat)(r:Pl):MsOff g [] r:=.inl rfl
theorem LW {w:World}{base:Nat}{e:TypeId}{v:Value}{l:List Dm}(h:w.ownsRow base e 66 v l.length (dmRows l))(h64:∀m∈l,m.bits.length=64)(hn:∀m∈l,m.name.length<=maxLen):
 ∃r:Pl,v=.slice r.a l.length r.c/\IsMs w l r/\∀g,g<base->MsOff g l r:=by
 obtain⟨A,c,rfl,h1,h2,h3⟩:=Aw h;refine⟨⟨A,c⟩,rfl,⟨Cells.of_own h,h3,h1,h2,h64,hn⟩,fun g hg=>.inr (AF h hg)⟩
abbrev imval (x:Im)(p q r:Pl):Value:=.agg #[.string (bs x.d.data),.slice p.a x.d.cache.length p.c,.int .i64 x.d.fuse,.bool x.d.off,.slice q.a x.d.bad.length q.c,.int .i64 x.g,.int .i64 x.h,.int .u64 x.j.seq,.int .i64 x.j.pos,.slice r.a x.maps.length r.c,.bool x.br]
structure IsIm (w:World) (x:Im) (p q r:Pl):Prop where
 d:IsDk w x.d p q
 m:IsMs w x.maps r
def ImOff (g:Nat)(x:Im)(p q r:Pl):Prop:=DkOff g x.d p q/\MsOff g x.maps r
theorem IsIm.below {w w':World}{x:Im}{p q r:Pl}(h:IsIm w x p q r)(hb:Below w.heap.size w w'):IsIm w' x p q r:=⟨h.d.below hb,h.m.below hb⟩
theorem IsIm.off {w:World}{x:Im}{p q r:Pl}(h:IsIm w x p q r){a:Addr}(ho:ImOff a.block x p q r)(v:Value):IsIm (w.setCell a v) x p q r:=⟨h.d.off ho.1 v,h.m.off ho.2 v⟩
theorem IsIm.o1 {B:Nat}{u W:World}{a:Addr}{v:Value}{D:Im}{p q r:Pl}(h:IsIm W D p q r)(hb:Below B u (W.setCell a v))(ho:ImOff a.block D p q r):IsIm (W.setCell a v) D p q r:=h.off ho v
theorem IsIm.oa {B:Nat}{u W:World}{g:Nat}{v0 v1:Value}{D:Im}{p q r:Pl}(h:IsIm W D p q r)(hb:Below B u ((W.setCell ⟨g,0,none⟩ v0).setCell ⟨g,1,none⟩ v1))(ho:ImOff g D p q r):IsIm ((W.setCell ⟨g,0,none⟩ v0).setCell ⟨g,1,none⟩ v1) D p q r:=(h.off (a:=⟨g,0,none⟩) ho v0).off (a:=⟨g,1,none⟩) ho v1
theorem IsIm.ob {B:Nat}{u W:World}{g:Nat}{v0 v1 v2 v3 v4:Value}{D:Im}{p q r:Pl}(h:IsIm W D p q r)(hb:Below B u (((((W.setCell ⟨g,0,none⟩ v0).setCell ⟨g,1,none⟩ v1).setCell ⟨g,2,none⟩ v2).setCell ⟨g,3,none⟩ v3).setCell ⟨g,4,none⟩ v4))(ho:ImOff g D p q r):IsIm (((((W.setCell ⟨g,0,none⟩ v0).setCell ⟨g,1,none⟩ v1).setCell ⟨g,2,none⟩ v2).setCell ⟨g,3,none⟩ v3).setCell ⟨g,4,none⟩ v4) D p q r:=((((h.off (a:=⟨g,0,none⟩) ho v0).off (a:=⟨g,1,none⟩) ho v1).off (a:=⟨g,2,none⟩) ho v2).off (a:=⟨g,3,none⟩) ho v3).off (a:=⟨g,4,none⟩) ho v4
theorem IsIm.oc {B:Nat}{u W:World}{g:Nat}{v0 v1 v2 v3 v4 v5 v6 v7 v8 v9 v10:Value}{D:Im}{p q r:Pl}(h:IsIm W D p q r)(hb:Below B u (((((((((((W.setCell ⟨g,0,none⟩ v0).setCell ⟨g,1,none⟩ v1).setCell ⟨g,2,none⟩ v2).setCell ⟨g,3,none⟩ v3).setCell ⟨g,4,none⟩ v4).setCell ⟨g,5,none⟩ v5).setCell ⟨g,6,none⟩ v6).setCell ⟨g,7,none⟩ v7).setCell ⟨g,8,none⟩ v8).setCell ⟨g,9,none⟩ v9).setCell ⟨g,10,none⟩ v10))(ho:ImOff g D p q r):IsIm (((((((((((W.setCell ⟨g,0,none⟩ v0).setCell ⟨g,1,none⟩ v1).setCell ⟨g,2,none⟩ v2).setCell ⟨g,3,none⟩ v3).setCell ⟨g,4,none⟩ v4).setCell ⟨g,5,none⟩ v5).setCell ⟨g,6,none⟩ v6).setCell ⟨g,7,none⟩ v7).setCell ⟨g,8,none⟩ v8).setCell ⟨g,9,none⟩ v9).setCell ⟨g,10,none⟩ v10) D p q r:=((((((((((h.off (a:=⟨g,0,none⟩) ho v0).off (a:=⟨g,1,none⟩) ho v1).off (a:=⟨g,2,none⟩) ho v2).off (a:=⟨g,3,none⟩) ho v3).off (a:=⟨g,4,none⟩) ho v4).off (a:=⟨g,5,none⟩) ho v5).off (a:=⟨g,6,none⟩) ho v6).off (a:=⟨g,7,none⟩) ho v7).off (a:=⟨g,8,none⟩) ho v8).off (a:=⟨g,9,none⟩) ho v9).off (a:=⟨g,10,none⟩) ho v10
theorem IsIm.apart {w:World}{x:Im}{p q r:Pl}(h:IsIm w x p q r){g:Nat}(hg:w.heap.size<=g):ImOff g x p q r:=⟨h.d.apart hg,h.m.apart hg⟩
def RetIm (B:Nat)(x:Im)(p q r:Pl)(X:Im×Int)(e:Ending)(w:World):Prop:=
 ∃p' q' r',e=.returned (.tuple #[imval X.1 p' q' r',.int .i64 X.2])/\IsIm w X.1 p' q' r'/\∀g,g<B->ImOff g x p q r->ImOff g X.1 p' q' r'
theorem retIm {P:Program}{f:Func}{B:Nat}{x:Im}{p q r:Pl}{V:Im}{er:Int}{p' q' r':Pl}{a:Act}{u w:World}(dw:IsDk w V.d p' q')(mw:IsMs w V.maps r')(ho:∀g,g<B->ImOff g x p q r->ImOff g V p' q' r')(bw:Below B u w)(hr:(results f a.tmps).run P w=.ok (.tuple #[imval V p' q' r',.int .i64 er]) w)(hd:a.defers=[]):
 bodyPost P f (fun e w'=>RetIm B x p q r (V,er) e w'/\Below B u w') .ret a w:=bodyPost_ret hr hd ⟨⟨p',q',r',rfl,⟨dw,mw⟩,ho⟩,bw⟩
theorem Aa {w:World}{g:Nat}{t:TypeId}{a0 a1 a2 a3 a4 a5 a6 a7 a8 a9 a10:Value}(h:Blk w g t #[a0,a1,a2,a3,a4,a5,a6,a7,a8,a9,a10]):
 w.cell? ⟨g,0,none⟩=some a0/\w.cell? ⟨g,1,none⟩=some a1/\w.cell? ⟨g,2,none⟩=some a2/\w.cell? ⟨g,3,none⟩=some a3/\w.cell? ⟨g,4,none⟩=some a4/\w.cell? ⟨g,5,none⟩=some a5/\
 w.cell? ⟨g,6,none⟩=some a6/\w.cell? ⟨g,7,none⟩=some a7/\w.cell? ⟨g,8,none⟩=some a8/\w.cell? ⟨g,9,none⟩=some a9/\w.cell? ⟨g,10,none⟩=some a10:=
 ⟨h.cell 0,h.cell 1,h.cell 2,h.cell 3,h.cell 4,h.cell 5,h.cell 6,h.cell 7,h.cell 8,h.cell 9,h.cell 10⟩
theorem Z11 {W:World}{g:Nat}{t:TypeId}{a0 a1 a2 a3 a4 a5 a6 a7 a8 a9 a10:Value}(h:Blk W g t #[a0,a1,a2,a3,a4,a5,a6,a7,a8,a9,a10]):Blk W g t #[a0,a1,a2,a3,a4,a5,a6,a7,a8,a9,a10]/\(W.cell? ⟨g,0,none⟩=some a0/\W.cell? ⟨g,1,none⟩=some a1/\W.cell? ⟨g,2,none⟩=some a2/\W.cell? ⟨g,3,none⟩=some a3/\W.cell? ⟨g,4,none⟩=some a4/\W.cell? ⟨g,5,none⟩=some a5/\W.cell? ⟨g,6,none⟩=some a6/\W.cell? ⟨g,7,none⟩=some a7/\W.cell? ⟨g,8,none⟩=some a8/\W.cell? ⟨g,9,none⟩=some a9/\W.cell? ⟨g,10,none⟩=some a10):=⟨h,Aa h⟩
theorem Z11f {W:World}{g:Nat}{t:TypeId}{a0 a1 a2 a3 a4 a5 a6 a7 a8 a9 a10:Value}(h:Blk W g t #[a0,a1,a2,a3,a4,a5,a6,a7,a8,a9,a10]):Blk W g t #[a0,a1,a2,a3,a4,a5,a6,a7,a8,a9,a10]/\(W.cell? ⟨g,0,none⟩=some a0/\W.cell? ⟨g,1,none⟩=some a1/\W.cell? ⟨g,2,none⟩=some a2/\W.cell? ⟨g,3,none⟩=some a3/\W.cell? ⟨g,4,none⟩=some a4/\W.cell? ⟨g,5,none⟩=some a5/\W.cell? ⟨g,6,none⟩=some a6/\W.cell? ⟨g,7,none⟩=some a7/\W.cell? ⟨g,8,none⟩=some a8/\W.cell? ⟨g,9,none⟩=some a9/\W.cell? ⟨g,10,none⟩=some a10)/\∀j,W.frozen? ⟨g,j,none⟩=false:=⟨h,Aa h,h.frozen⟩
theorem ap11 {α:Value->Value->Value->Value->Value->Value->Value->Value->Value->Value->Value->Prop}(f:∀a b c d e g h i j k l,α a b c d e g h i j k l)(D:Dk)(a:Option Addr)(c:Nat)(b:Option Addr)(e:Nat)(g h s o:Int)(m:Option Addr)(n l:Nat)(z:Bool):α (.string (bs D.data)) (.slice a D.cache.length c) (.int .i64 D.fuse) (.bool D.off) (.slice b D.bad.length e) (.int .i64 g) (.int .i64 h) (.int .u64 s) (.int .i64 o) (.slice m n l) (.bool z):=f _ _ _ _ _ _ _ _ _ _ _
theorem Am {α:Array Value->Prop}(f:∀A,α A)(D:Dk)(a:Option Addr)(c:Nat)(b:Option Addr)(e:Nat)(g h s o:Int)(m:Option Addr)(n l:Nat)(z:Bool):α #[.string (bs D.data),.slice a D.cache.length c,.int .i64 D.fuse,.bool D.off,.slice b D.bad.length e,.int .i64 g,.int .i64 h,.int .u64 s,.int .i64 o,.slice m n l,.bool z]:=f _
theorem apz {α:Array Value->Prop}(f:∀A,α A):α #[.string (bs []),.slice none 0 0,.int .i64 0,.bool false,.slice none 0 0,.int .i64 0,.int .i64 0,.int .u64 0,.int .i64 0,.slice none 0 0,.bool false]:=f _
theorem Bl {P:World->Prop}{g:Nat}(h:∀(W:World)(o:Nat)(v:Value),P W->P (W.setCell ⟨g,o,none⟩ v)){W:World}(hP:P W)(v0 v1 v2 v3 v4 v5 v6 v7 v8 v9 v10:Value):P (((((((((((W.setCell ⟨g,0,none⟩ v0).setCell ⟨g,1,none⟩ v1).setCell ⟨g,2,none⟩ v2).setCell ⟨g,3,none⟩ v3).setCell ⟨g,4,none⟩ v4).setCell ⟨g,5,none⟩ v5).setCell ⟨g,6,none⟩ v6).setCell ⟨g,7,none⟩ v7).setCell ⟨g,8,none⟩ v8).setCell ⟨g,9,none⟩ v9).setCell ⟨g,10,none⟩ v10):=
 h _ 10 v10 (h _ 9 v9 (h _ 8 v8 (h _ 7 v7 (h _ 6 v6 (h _ 5 v5 (h _ 4 v4 (h _ 3 v3 (h _ 2 v2 (h _ 1 v1 (h _ 0 v0 hP))))))))))
theorem BN {W:World}{g:Nat}{t:TypeId}{a0 a1 a2 a3 a4 a5 a6 a7 a8 a9 a10:Value}(h:Blk W g t #[a0,a1,a2,a3,a4,a5,a6,a7,a8,a9,a10])(v0 v1 v2 v3 v4 v5 v6 v7 v8 v9 v10:Value):Blk (((((((((((W.setCell ⟨g,0,none⟩ v0).setCell ⟨g,1,none⟩ v1).setCell ⟨g,2,none⟩ v2).setCell ⟨g,3,none⟩ v3).setCell ⟨g,4,none⟩ v4).setCell ⟨g,5,none⟩ v5).setCell ⟨g,6,none⟩ v6).setCell ⟨g,7,none⟩ v7).setCell ⟨g,8,none⟩ v8).setCell ⟨g,9,none⟩ v9).setCell ⟨g,10,none⟩ v10) g t #[v0,v1,v2,v3,v4,v5,v6,v7,v8,v9,v10]:=by
 have:=((((((((((h.set 0 v0).set 1 v1).set 2 v2).set 3 v3).set 4 v4).set 5 v5).set 6 v6).set 7 v7).set 8 v8).set 9 v9).set 10 v10;simpa using this
theorem Al {B:Nat}{w W:World}{g:Nat}(h:Below B w W)(hg:B<=g)(v0 v1 v2 v3 v4 v5 v6 v7 v8 v9 v10:Value):Below B w (((((((((((W.setCell ⟨g,0,none⟩ v0).setCell ⟨g,1,none⟩ v1).setCell ⟨g,2,none⟩ v2).setCell ⟨g,3,none⟩ v3).setCell ⟨g,4,none⟩ v4).setCell ⟨g,5,none⟩ v5).setCell ⟨g,6,none⟩ v6).setCell ⟨g,7,none⟩ v7).setCell ⟨g,8,none⟩ v8).setCell ⟨g,9,none⟩ v9).setCell ⟨g,10,none⟩ v10):=
 Bl (P:=fun W=>Below B w W) (fun W o v h=>h.setCell (p:=⟨g,o,none⟩) hg v) h v0 v1 v2 v3 v4 v5 v6 v7 v8 v9 v10
theorem A4 {W:World}{g k:Nat}{t:TypeId}{cs:Array Value}(h:Blk W k t cs)(hk:k≠g)(v0 v1 v2 v3 v4 v5 v6 v7 v8 v9 v10:Value):Blk (((((((((((W.setCell ⟨g,0,none⟩ v0).setCell ⟨g,1,none⟩ v1).setCell ⟨g,2,none⟩ v2).setCell ⟨g,3,none⟩ v3).setCell ⟨g,4,none⟩ v4).setCell ⟨g,5,none⟩ v5).setCell ⟨g,6,none⟩ v6).setCell ⟨g,7,none⟩ v7).setCell ⟨g,8,none⟩ v8).setCell ⟨g,9,none⟩ v9).setCell ⟨g,10,none⟩ v10) k t cs:=
 Bl (P:=fun W=>Blk W k t cs) (fun W o v h=>h.other (a:=⟨g,o,none⟩) hk v) h v0 v1 v2 v3 v4 v5 v6 v7 v8 v9 v10
theorem Yk11 {U W:World}{g:Nat}{t t':TypeId}{a0 a1 a2 a3 a4 a5 a6 a7 a8 a9 a10 v0 v1 v2 v3 v4 v5 v6 v7 v8 v9 v10:Value}(x:Blk W g t #[a0,a1,a2,a3,a4,a5,a6,a7,a8,a9,a10])(y:Blk U g t' #[v0,v1,v2,v3,v4,v5,v6,v7,v8,v9,v10]):W.frozen? ⟨g,0,none⟩=false/\W.cell? ⟨g,0,none⟩=some a0/\(W.setCell ⟨g,0,none⟩ v0).frozen? ⟨g,1,none⟩=false/\(W.setCell ⟨g,0,none⟩ v0).cell? ⟨g,1,none⟩=some a1/\((W.setCell ⟨g,0,none⟩ v0).setCell ⟨g,1,none⟩ v1).frozen? ⟨g,2,none⟩=false/\((W.setCell ⟨g,0,none⟩ v0).setCell ⟨g,1,none⟩ v1).cell? ⟨g,2,none⟩=some a2/\(((W.setCell ⟨g,0,none⟩ v0).setCell ⟨g,1,none⟩ v1).setCell ⟨g,2,none⟩ v2).frozen? ⟨g,3,none⟩=false/\(((W.setCell ⟨g,0,none⟩ v0).setCell ⟨g,1,none⟩ v1).setCell ⟨g,2,none⟩ v2).cell? ⟨g,3,none⟩=some a3/\((((W.setCell ⟨g,0,none⟩ v0).setCell ⟨g,1,none⟩ v1).setCell ⟨g,2,none⟩ v2).setCell ⟨g,3,none⟩ v3).frozen? ⟨g,4,none⟩=false/\((((W.setCell ⟨g,0,none⟩ v0).setCell ⟨g,1,none⟩ v1).setCell ⟨g,2,none⟩ v2).setCell ⟨g,3,none⟩ v3).cell? ⟨g,4,none⟩=some a4/\(((((W.setCell ⟨g,0,none⟩ v0).setCell ⟨g,1,none⟩ v1).setCell ⟨g,2,none⟩ v2).setCell ⟨g,3,none⟩ v3).setCell ⟨g,4,none⟩ v4).frozen? ⟨g,5,none⟩=false/\(((((W.setCell ⟨g,0,none⟩ v0).setCell ⟨g,1,none⟩ v1).setCell ⟨g,2,none⟩ v2).setCell ⟨g,3,none⟩ v3).setCell ⟨g,4,none⟩ v4).cell? ⟨g,5,none⟩=some a5/\((((((W.setCell ⟨g,0,none⟩ v0).setCell ⟨g,1,none⟩ v1).setCell ⟨g,2,none⟩ v2).setCell ⟨g,3,none⟩ v3).setCell ⟨g,4,none⟩ v4).setCell ⟨g,5,none⟩ v5).frozen? ⟨g,6,none⟩=false/\((((((W.setCell ⟨g,0,none⟩ v0).setCell ⟨g,1,none⟩ v1).setCell ⟨g,2,none⟩ v2).setCell ⟨g,3,none⟩ v3).setCell ⟨g,4,none⟩ v4).setCell ⟨g,5,none⟩ v5).cell? ⟨g,6,none⟩=some a6/\(((((((W.setCell ⟨g,0,none⟩ v0).setCell ⟨g,1,none⟩ v1).setCell ⟨g,2,none⟩ v2).setCell ⟨g,3,none⟩ v3).setCell ⟨g,4,none⟩ v4).setCell ⟨g,5,none⟩ v5).setCell ⟨g,6,none⟩ v6).frozen? ⟨g,7,none⟩=false/\(((((((W.setCell ⟨g,0,none⟩ v0).setCell ⟨g,1,none⟩ v1).setCell ⟨g,2,none⟩ v2).setCell ⟨g,3,none⟩ v3).setCell ⟨g,4,none⟩ v4).setCell ⟨g,5,none⟩ v5).setCell ⟨g,6,none⟩ v6).cell? ⟨g,7,none⟩=some a7/\((((((((W.setCell ⟨g,0,none⟩ v0).setCell ⟨g,1,none⟩ v1).setCell ⟨g,2,none⟩ v2).setCell ⟨g,3,none⟩ v3).setCell ⟨g,4,none⟩ v4).setCell ⟨g,5,none⟩ v5).setCell ⟨g,6,none⟩ v6).setCell ⟨g,7,none⟩ v7).frozen? ⟨g,8,none⟩=false/\((((((((W.setCell ⟨g,0,none⟩ v0).setCell ⟨g,1,none⟩ v1).setCell ⟨g,2,none⟩ v2).setCell ⟨g,3,none⟩ v3).setCell ⟨g,4,none⟩ v4).setCell ⟨g,5,none⟩ v5).setCell ⟨g,6,none⟩ v6).setCell ⟨g,7,none⟩ v7).cell? ⟨g,8,none⟩=some a8/\(((((((((W.setCell ⟨g,0,none⟩ v0).setCell ⟨g,1,none⟩ v1).setCell ⟨g,2,none⟩ v2).setCell ⟨g,3,none⟩ v3).setCell ⟨g,4,none⟩ v4).setCell ⟨g,5,none⟩ v5).setCell ⟨g,6,none⟩ v6).setCell ⟨g,7,none⟩ v7).setCell ⟨g,8,none⟩ v8).frozen? ⟨g,9,none⟩=false/\(((((((((W.setCell ⟨g,0,none⟩ v0).setCell ⟨g,1,none⟩ v1).setCell ⟨g,2,none⟩ v2).setCell ⟨g,3,none⟩ v3).setCell ⟨g,4,none⟩ v4).setCell ⟨g,5,none⟩ v5).setCell ⟨g,6,none⟩ v6).setCell ⟨g,7,none⟩ v7).setCell ⟨g,8,none⟩ v8).cell? ⟨g,9,none⟩=some a9/\((((((((((W.setCell ⟨g,0,none⟩ v0).setCell ⟨g,1,none⟩ v1).setCell ⟨g,2,none⟩ v2).setCell ⟨g,3,none⟩ v3).setCell ⟨g,4,none⟩ v4).setCell ⟨g,5,none⟩ v5).setCell ⟨g,6,none⟩ v6).setCell ⟨g,7,none⟩ v7).setCell ⟨g,8,none⟩ v8).setCell ⟨g,9,none⟩ v9).frozen? ⟨g,10,none⟩=false/\((((((((((W.setCell ⟨g,0,none⟩ v0).setCell ⟨g,1,none⟩ v1).setCell ⟨g,2,none⟩ v2).setCell ⟨g,3,none⟩ v3).setCell ⟨g,4,none⟩ v4).setCell ⟨g,5,none⟩ v5).setCell ⟨g,6,none⟩ v6).setCell ⟨g,7,none⟩ v7).setCell ⟨g,8,none⟩ v8).setCell ⟨g,9,none⟩ v9).cell? ⟨g,10,none⟩=some a10:=by
 have c0:=x;have c1:=c0.set 0 v0;simp only[List.setIfInBounds_toArray,List.set_cons_zero,List.set_cons_succ]at c1;have c2:=c1.set 1 v1;simp only[List.setIfInBounds_toArray,List.set_cons_zero,List.set_cons_succ]at c2;have c3:=c2.set 2 v2;simp only[List.setIfInBounds_toArray,List.set_cons_zero,List.set_cons_succ]at c3;have c4:=c3.set 3 v3;simp only[List.setIfInBounds_toArray,List.set_cons_zero,List.set_cons_succ]at c4;have c5:=c4.set 4 v4;simp only[List.setIfInBounds_toArray,List.set_cons_zero,List.set_cons_succ]at c5;have c6:=c5.set 5 v5;simp only[List.setIfInBounds_toArray,List.set_cons_zero,List.set_cons_succ]at c6;have c7:=c6.set 6 v6;simp only[List.setIfInBounds_toArray,List.set_cons_zero,List.set_cons_succ]at c7;have c8:=c7.set 7 v7;simp only[List.setIfInBounds_toArray,List.set_cons_zero,List.set_cons_succ]at c8;have c9:=c8.set 8 v8;simp only[List.setIfInBounds_toArray,List.set_cons_zero,List.set_cons_succ]at c9;have aa:=c9.set 9 v9;simp only[List.setIfInBounds_toArray,List.set_cons_zero,List.set_cons_succ]at aa;exact⟨c0.frozen 0,c0.cell 0,c1.frozen 1,c1.cell 1,c2.frozen 2,c2.cell 2,c3.frozen 3,c3.cell 3,c4.frozen 4,c4.cell 4,c5.frozen 5,c5.cell 5,c6.frozen 6,c6.cell 6,c7.frozen 7,c7.cell 7,c8.frozen 8,c8.cell 8,c9.frozen 9,c9.cell 9,aa.frozen 10,aa.cell 10⟩
theorem Ym11 {B:Nat}{u W:World}{g:Nat}{v0 v1 v2 v3 v4 v5 v6 v7 v8 v9 v10:Value}{t:TypeId}{cs:Array Value}(h:Below B u W)(y:Blk (((((((((((W.setCell ⟨g,0,none⟩ v0).setCell ⟨g,1,none⟩ v1).setCell ⟨g,2,none⟩ v2).setCell ⟨g,3,none⟩ v3).setCell ⟨g,4,none⟩ v4).setCell ⟨g,5,none⟩ v5).setCell ⟨g,6,none⟩ v6).setCell ⟨g,7,none⟩ v7).setCell ⟨g,8,none⟩ v8).setCell ⟨g,9,none⟩ v9).setCell ⟨g,10,none⟩ v10) g t cs)(hg:B<=g):Below B u (((((((((((W.setCell ⟨g,0,none⟩ v0).setCell ⟨g,1,none⟩ v1).setCell ⟨g,2,none⟩ v2).setCell ⟨g,3,none⟩ v3).setCell ⟨g,4,none⟩ v4).setCell ⟨g,5,none⟩ v5).setCell ⟨g,6,none⟩ v6).setCell ⟨g,7,none⟩ v7).setCell ⟨g,8,none⟩ v8).setCell ⟨g,9,none⟩ v9).setCell ⟨g,10,none⟩ v10):=Al h hg v0 v1 v2 v3 v4 v5 v6 v7 v8 v9 v10
theorem Yg {B:Nat}{u W:World}{g:Nat}{v0 v1 v2 v3 v4 v5 v6 v7 v8 v9 v10:Value}{k:Nat}{t:TypeId}{cs:Array Value}(h:Blk W k t cs)(hb:Below B u (((((((((((W.setCell ⟨g,0,none⟩ v0).setCell ⟨g,1,none⟩ v1).setCell ⟨g,2,none⟩ v2).setCell ⟨g,3,none⟩ v3).setCell ⟨g,4,none⟩ v4).setCell ⟨g,5,none⟩ v5).setCell ⟨g,6,none⟩ v6).setCell ⟨g,7,none⟩ v7).setCell ⟨g,8,none⟩ v8).setCell ⟨g,9,none⟩ v9).setCell ⟨g,10,none⟩ v10))(hk:k≠g):Blk (((((((((((W.setCell ⟨g,0,none⟩ v0).setCell ⟨g,1,none⟩ v1).setCell ⟨g,2,none⟩ v2).setCell ⟨g,3,none⟩ v3).setCell ⟨g,4,none⟩ v4).setCell ⟨g,5,none⟩ v5).setCell ⟨g,6,none⟩ v6).setCell ⟨g,7,none⟩ v7).setCell ⟨g,8,none⟩ v8).setCell ⟨g,9,none⟩ v9).setCell ⟨g,10,none⟩ v10) k t cs:=A4 h hk v0 v1 v2 v3 v4 v5 v6 v7 v8 v9 v10
theorem Yh {B:Nat}{u W:World}{g:Nat}{v0 v1 v2 v3 v4 v5 v6 v7 v8 v9 v10:Value}{t:TypeId}{a0 a1 a2 a3 a4 a5 a6 a7 a8 a9 a10:Value}(h:Blk W g t #[a0,a1,a2,a3,a4,a5,a6,a7,a8,a9,a10])(hb:Below B u (((((((((((W.setCell ⟨g,0,none⟩ v0).setCell ⟨g,1,none⟩ v1).setCell ⟨g,2,none⟩ v2).setCell ⟨g,3,none⟩ v3).setCell ⟨g,4,none⟩ v4).setCell ⟨g,5,none⟩ v5).setCell ⟨g,6,none⟩ v6).setCell ⟨g,7,none⟩ v7).setCell ⟨g,8,none⟩ v8).setCell ⟨g,9,none⟩ v9).setCell ⟨g,10,none⟩ v10)):Blk (((((((((((W.setCell ⟨g,0,none⟩ v0).setCell ⟨g,1,none⟩ v1).setCell ⟨g,2,none⟩ v2).setCell ⟨g,3,none⟩ v3).setCell ⟨g,4,none⟩ v4).setCell ⟨g,5,none⟩ v5).setCell ⟨g,6,none⟩ v6).setCell ⟨g,7,none⟩ v7).setCell ⟨g,8,none⟩ v8).setCell ⟨g,9,none⟩ v9).setCell ⟨g,10,none⟩ v10) g t #[v0,v1,v2,v3,v4,v5,v6,v7,v8,v9,v10]:=BN h v0 v1 v2 v3 v4 v5 v6 v7 v8 v9 v10
theorem IsDk.off11 {W:World}{D:Dk}{p q:Pl}(h:IsDk W D p q){g:Nat}(ho:DkOff g D p q)(v0 v1 v2 v3 v4 v5 v6 v7 v8 v9 v10:Value):IsDk (((((((((((W.setCell ⟨g,0,none⟩ v0).setCell ⟨g,1,none⟩ v1).setCell ⟨g,2,none⟩ v2).setCell ⟨g,3,none⟩ v3).setCell ⟨g,4,none⟩ v4).setCell ⟨g,5,none⟩ v5).setCell ⟨g,6,none⟩ v6).setCell ⟨g,7,none⟩ v7).setCell ⟨g,8,none⟩ v8).setCell ⟨g,9,none⟩ v9).setCell ⟨g,10,none⟩ v10) D p q:=
 Bl (P:=fun W=>IsDk W D p q) (fun W o v h=>h.off (a:=⟨g,o,none⟩) ho v) h v0 v1 v2 v3 v4 v5 v6 v7 v8 v9 v10
theorem IsDk.oc {B:Nat}{u W:World}{g:Nat}{v0 v1 v2 v3 v4 v5 v6 v7 v8 v9 v10:Value}{D:Dk}{p q:Pl}(h:IsDk W D p q)(hb:Below B u (((((((((((W.setCell ⟨g,0,none⟩ v0).setCell ⟨g,1,none⟩ v1).setCell ⟨g,2,none⟩ v2).setCell ⟨g,3,none⟩ v3).setCell ⟨g,4,none⟩ v4).setCell ⟨g,5,none⟩ v5).setCell ⟨g,6,none⟩ v6).setCell ⟨g,7,none⟩ v7).setCell ⟨g,8,none⟩ v8).setCell ⟨g,9,none⟩ v9).setCell ⟨g,10,none⟩ v10))(ho:DkOff g D p q):IsDk (((((((((((W.setCell ⟨g,0,none⟩ v0).setCell ⟨g,1,none⟩ v1).setCell ⟨g,2,none⟩ v2).setCell ⟨g,3,none⟩ v3).setCell ⟨g,4,none⟩ v4).setCell ⟨g,5,none⟩ v5).setCell ⟨g,6,none⟩ v6).setCell ⟨g,7,none⟩ v7).setCell ⟨g,8,none⟩ v8).setCell ⟨g,9,none⟩ v9).setCell ⟨g,10,none⟩ v10) D p q:=h.off11 ho v0 v1 v2 v3 v4 v5 v6 v7 v8 v9 v10
theorem IsPn.off11 {W:World}{D:Pn}{p q:Pl}(h:IsPn W D p q){g:Nat}(ho:PnOff g D p q)(v0 v1 v2 v3 v4 v5 v6 v7 v8 v9 v10:Value):IsPn (((((((((((W.setCell ⟨g,0,none⟩ v0).setCell ⟨g,1,none⟩ v1).setCell ⟨g,2,none⟩ v2).setCell ⟨g,3,none⟩ v3).setCell ⟨g,4,none⟩ v4).setCell ⟨g,5,none⟩ v5).setCell ⟨g,6,none⟩ v6).setCell ⟨g,7,none⟩ v7).setCell ⟨g,8,none⟩ v8).setCell ⟨g,9,none⟩ v9).setCell ⟨g,10,none⟩ v10) D p q:=
 Bl (P:=fun W=>IsPn W D p q) (fun W o v h=>h.off (a:=⟨g,o,none⟩) ho v) h v0 v1 v2 v3 v4 v5 v6 v7 v8 v9 v10
theorem IsPn.oc {B:Nat}{u W:World}{g:Nat}{v0 v1 v2 v3 v4 v5 v6 v7 v8 v9 v10:Value}{D:Pn}{p q:Pl}(h:IsPn W D p q)(hb:Below B u (((((((((((W.setCell ⟨g,0,none⟩ v0).setCell ⟨g,1,none⟩ v1).setCell ⟨g,2,none⟩ v2).setCell ⟨g,3,none⟩ v3).setCell ⟨g,4,none⟩ v4).setCell ⟨g,5,none⟩ v5).setCell ⟨g,6,none⟩ v6).setCell ⟨g,7,none⟩ v7).setCell ⟨g,8,none⟩ v8).setCell ⟨g,9,none⟩ v9).setCell ⟨g,10,none⟩ v10))(ho:PnOff g D p q):IsPn (((((((((((W.setCell ⟨g,0,none⟩ v0).setCell ⟨g,1,none⟩ v1).setCell ⟨g,2,none⟩ v2).setCell ⟨g,3,none⟩ v3).setCell ⟨g,4,none⟩ v4).setCell ⟨g,5,none⟩ v5).setCell ⟨g,6,none⟩ v6).setCell ⟨g,7,none⟩ v7).setCell ⟨g,8,none⟩ v8).setCell ⟨g,9,none⟩ v9).setCell ⟨g,10,none⟩ v10) D p q:=h.off11 ho v0 v1 v2 v3 v4 v5 v6 v7 v8 v9 v10
theorem IsMs.off11 {W:World}{l:List Dm}{r:Pl}(h:IsMs W l r){g:Nat}(ho:MsOff g l r)(v0 v1 v2 v3 v4 v5 v6 v7 v8 v9 v10:Value):IsMs (((((((((((W.setCell ⟨g,0,none⟩ v0).setCell ⟨g,1,none⟩ v1).setCell ⟨g,2,none⟩ v2).setCell ⟨g,3,none⟩ v3).setCell ⟨g,4,none⟩ v4).setCell ⟨g,5,none⟩ v5).setCell ⟨g,6,none⟩ v6).setCell ⟨g,7,none⟩ v7).setCell ⟨g,8,none⟩ v8).setCell ⟨g,9,none⟩ v9).setCell ⟨g,10,none⟩ v10) l r:=
 Bl (P:=fun W=>IsMs W l r) (fun W o v h=>h.off (a:=⟨g,o,none⟩) ho v) h v0 v1 v2 v3 v4 v5 v6 v7 v8 v9 v10
theorem IsIm.oe {B:Nat}{u W:World}{g:Nat}{v0 v1 v2 v3 v4 v5 v6 v7 v8 v9 v10:Value}{D:Im}{p q r:Pl}(h:IsIm W D p q r)(hb:Below B u (((((((((((W.setCell ⟨g,0,none⟩ v0).setCell ⟨g,1,none⟩ v1).setCell ⟨g,2,none⟩ v2).setCell ⟨g,3,none⟩ v3).setCell ⟨g,4,none⟩ v4).setCell ⟨g,5,none⟩ v5).setCell ⟨g,6,none⟩ v6).setCell ⟨g,7,none⟩ v7).setCell ⟨g,8,none⟩ v8).setCell ⟨g,9,none⟩ v9).setCell ⟨g,10,none⟩ v10))(ho:ImOff g D p q r):IsIm (((((((((((W.setCell ⟨g,0,none⟩ v0).setCell ⟨g,1,none⟩ v1).setCell ⟨g,2,none⟩ v2).setCell ⟨g,3,none⟩ v3).setCell ⟨g,4,none⟩ v4).setCell ⟨g,5,none⟩ v5).setCell ⟨g,6,none⟩ v6).setCell ⟨g,7,none⟩ v7).setCell ⟨g,8,none⟩ v8).setCell ⟨g,9,none⟩ v9).setCell ⟨g,10,none⟩ v10) D p q r:=Bl (P:=fun W=>IsIm W D p q r) (fun W o v h=>h.off (a:=⟨g,o,none⟩) ho v) h v0 v1 v2 v3 v4 v5 v6 v7 v8 v9 v10
theorem El {w:World}{g:Nat}{t:TypeId}{a0 a1 a2 a3 a4 a5 a6 a7 a8 a9 a10:Value}(h:Blk w g t #[a0,a1,a2,a3,a4,a5,a6,a7,a8,a9,a10])(x:Ext w):
 x.world.cell? ⟨g,0,none⟩=some a0/\x.world.cell? ⟨g,1,none⟩=some a1/\x.world.cell? ⟨g,2,none⟩=some a2/\x.world.cell? ⟨g,3,none⟩=some a3/\x.world.cell? ⟨g,4,none⟩=some a4/\x.world.cell? ⟨g,5,none⟩=some a5/\
 x.world.cell? ⟨g,6,none⟩=some a6/\x.world.cell? ⟨g,7,none⟩=some a7/\x.world.cell? ⟨g,8,none⟩=some a8/\x.world.cell? ⟨g,9,none⟩=some a9/\x.world.cell? ⟨g,10,none⟩=some a10:=
 ⟨x.cell (h.cell 0),x.cell (h.cell 1),x.cell (h.cell 2),x.cell (h.cell 3),x.cell (h.cell 4),x.cell (h.cell 5),x.cell (h.cell 6),x.cell (h.cell 7),x.cell (h.cell 8),x.cell (h.cell 9),x.cell (h.cell 10)⟩
theorem G5 {w:World}{base:Nat}{e:TypeId}{size n:Nat}{g cap:Nat}{xs:List Value}(h:w.ownsRow base e size (.slice (some ⟨g,0,none⟩) n cap) n xs)(j:Nat)(hj:j<xs.length)(u:Value):
 (w.setCell ⟨g,j,none⟩ u).ownsRow base e size (.slice (some ⟨g,0,none⟩) n cap) n (xs.set j u):=by
 refine⟨by rw[List.length_set];exact h.1,?_⟩
 rcases h.2 with ⟨h',_⟩|⟨g',cap',cur,hv,hb,hh,h1,h2,h3,h4⟩
 · cases h'
 · injection hv with a b c
   injection a with a
   injection a with a _
   subst a;subst c
   refine .inr ⟨g,cap,cur.setIfInBounds j u,rfl,hb,Blk.set (t:=e) hh j u,h1,h2,by rw[Array.size_setIfInBounds];exact h3,?_⟩;rw[Array.toList_setIfInBounds,List.take_set,h4]
theorem EG {w:World}{base:Nat}{e:TypeId}{size n:Nat}{g cap:Nat}{xs:List Value}(h:w.ownsRow base e size (.slice (some ⟨g,0,none⟩) n cap) n xs)(j:Nat):w.frozen? ⟨g,j,none⟩=false:=by
 rcases h.2 with ⟨h',_⟩|⟨g',cap',cur,hv,hb,hh,_⟩
 · cases h'
 · injection hv with a b c
   injection a with a
   injection a with a _
   subst a;exact Blk.frozen (t:=e) hh j
theorem Du {w:World}{base:Nat}{e:TypeId}{size n:Nat}{g cap:Nat}{xs:List Value}(h:w.ownsRow base e size (.slice (some ⟨g,0,none⟩) n cap) n xs)(j:Nat)(hj:j<xs.length):w.cell? ⟨g,j,none⟩=some xs[j]:=by
 rcases Cells.of_own h with h0|⟨b,off,he,hc⟩
 · rw[h0]at hj;simp at hj
 · injection he with he
   injection he with h1 h2
   subst h1;subst h2
   rw[<-hc j xs[j] (List.getElem?_eq_getElem hj),Nat.zero_add]
theorem KR (l:List Dm)(h64:∀m∈l,m.bits.length=64)(i k:Nat)(hi:i<l.length)(hk:k<64)(b:Bool):(dmRows l).set (i*66+(2+k)) (.bool b)=dmRows (l.set i {l[i]with bits:=l[i].bits.set k b}):=by
 induction l generalizing i with
 |nil=>simp at hi
 |cons x l ih=>
  have hx:=AA (h64 x (by simp));have e:dmRows (x::l)=dmCells x++dmRows l:=rfl;cases i with
  |zero=>
   rw[e,Nat.zero_mul,Nat.zero_add,List.set_append,if_pos (by omega),List.set_cons_zero];show(dmCells x).set (2+k) (.bool b)++dmRows l=dmCells _++dmRows l
   congr 1
   rw[show 2+k=k+1+1 by omega];simp[dmCells,List.map_set]
  |succ i=>
   rw[e,List.set_append,if_neg (by omega),hx,show(i+1)*66+(2+k)-66=i*66+(2+k) by omega,ih (fun m hm=>h64 m (by simp[hm])) i (by simpa using hi),List.set_cons_succ];rfl
end
section
open Go.RowKit Go.Shelf
def sumOf (l:List UInt8):List UInt8:=be 4 (crcOf l)
def headOf (g h:Nat):List UInt8:=GR++be 2 g++be 2 h
def supOf (g h:Nat):List UInt8:=headOf g h++sumOf (headOf g h)++List.replicate 52 0
def writeW (g h:Int):List UInt8:=if geomOk g h then supOf g.toNat h.toNat else []
def writeE (g h:Int):Int:=if geomOk g h then 0 else 25
theorem LI (g h:Nat):(headOf g h).length=8:=by simp[headOf,Ar,GR]
theorem PO (l:List UInt8):(sumOf l).length=4:=Ar _ _
attribute [local go_sem] Ad Af Ag Ab Ai Ah
theorem Gw {x:Int}(h0:0<=x)(h1:x<9223372036854775808):IntKind.wrap .u64 x=x:=by
 simp[IntKind.wrap,IntKind.bits,IntKind.signed];omega
theorem On (g h:Int)(w:World):CR 49 #[gval g h] w (.tuple #[.string (bs (writeW g h)),.int .i64 (writeE g h)]):=by
 have hb:=Yz (W:=w) (.cells #[.int .i64 g,.int .i64 h] 27);have x0:=Blk.new w 27 #[.int .i64 g,.int .i64 h];have hf:=fun W=>EP g h W
 cases hk:geomOk g h with
 |false=>
  have Hw:=hid (show writeW g h=[]/\writeE g h=25 by simp[writeW,writeE,hk]);rw[hk]at hf;go_enter Tryz.func49,Tryz.ntmps49;go_wp2_with fail
  refine(hf _).mono ?_;rintro e w1 ⟨rfl,hb1⟩;go_wp2_with fail
  go_ret2
  rw[Hw.out.1,Hw.out.2];exact⟨rfl,bt hb hb1⟩
 |true=>
  have hg:=Em.1 hk;rw[hk]at hf;obtain⟨g,rfl⟩:=Int.eq_ofNat_of_zero_le (show 0<=g by omega);obtain⟨h,rfl⟩:=Int.eq_ofNat_of_zero_le (show 0<=h by omega);have Hw:=hid (show writeW g h=headOf g h++sumOf (headOf g h)++List.replicate 52 0/\writeE g h=0 by unfold writeW writeE;rw[if_pos hk,if_pos hk];exact⟨rfl,rfl⟩);have a3:=Gw (x:=g) (by omega) (by omega);have a4:=Gw (x:=h) (by omega) (by omega);have hh:headOf g h=67::79::70::49::(be 2 g++be 2 h):=rfl;have hl:=LI g h;have a2:=PO (headOf g h);have lg:=Ar 2 g;have lh:=Ar 2 h;go_enter Tryz.func49,Tryz.ntmps49;go_wp2_with fail
  refine(hf _).mono ?_;rintro e w1 ⟨rfl,hb1⟩;have b1:=bt hb hb1;have x1:=x0.bl hb1;have K1:=ext2 x1;have p1:=fun e:Ext w1=>BS g 2 (by omega) (by omega) (by omega) e.world
  have p2:=fun e:Ext w1=>BS h 2 (by omega) (by omega) (by omega) e.world
  go_wp2_with fail
  refine Az mixed (by kernel_rfl) ?_
  repeat (go_big_quiet_step ((first|(go_at_call 86;with_reducible exact An (p1 _))|(go_at_call 86;with_reducible exact An (p2 _)))))
  refine wpQuiet_nil ?_;rintro w2 ⟨pq_,hpq_⟩;have a0:=pq_.below;rw[<-hpq_]at a0;clear hpq_ pq_;rw[<-hh];clear hh;generalize headOf g h=H at*;have hO:=fun W=>DF H (by omega) W
  have hB:=fun W=>DE (crcOf H) (A6 _ _) W
  have a1:sumOf H=be 4 (crcOf H):=rfl;rw[<-a1]at hB;clear a1;generalize sumOf H=R at*;have hP:=fun W=>EW (H++R) (by rw[List.length_append,hl,a2];decide) 64 (by rw[List.length_append];omega) (by omega) W
  rw[show((64:Int).toNat-(H++R).length)=52 by rw[List.length_append,hl,a2];rfl]at hP;generalize List.replicate 52 (0:UInt8)=Zr at*;rw[List.append_assoc]at hP;go_wp2_with fail
  refine(hO _).mono ?_;rintro e w3 ⟨rfl,rfl⟩;go_wp2_with fail
  refine(hB _).mono ?_;rintro e w4 ⟨rfl,hb4⟩;go_wp2_with fail
  refine(hP _).mono ?_;rintro e w5 ⟨rfl,hb5⟩;go_wp2_with fail
  go_ret2
  rw[Hw.out.1,Hw.out.2,List.append_assoc];exact⟨rfl,bt (bt (bt b1 a0) hb4) hb5⟩
theorem Om (g h:Int)(w:World):CR 46 #[gval g h] w (.int .i64 (if geomOk g h then 96+2*h else 0)):=by
 have hb:=Yz (W:=w) (.cells #[.int .i64 g,.int .i64 h] 27);have x0:=Blk.new w 27 #[.int .i64 g,.int .i64 h];have hf:=fun W=>EP g h W
 cases hk:geomOk g h with
 |true=>
  rw[hk]at hf;have a0:=Em.1 hk;go_enter Tryz.func46,Tryz.ntmps46;go_wp2_with fail
  refine(hf _).mono ?_;rintro e w1 ⟨rfl,hb1⟩;have y0:=(x0.bl hb1).cell 1;go_wp2_with fail
  go_ret
  exact⟨rfl,bt hb hb1⟩
 |false=>
  rw[hk]at hf;go_enter Tryz.func46,Tryz.ntmps46;go_wp2_with fail
  refine(hf _).mono ?_;rintro e w1 ⟨rfl,hb1⟩;go_wp2_with fail
  go_ret
  exact⟨rfl,bt hb hb1⟩
end
section
open Go.RowKit Go.Shelf
def smD0:Dk:=Dk.blank 112
def smQ0:Pn:=(Pn.set Pn.none 0 (writeW 20 8)).1
def smQ:Pn:=(Pn.rtSet smQ0 0 1).1
def smP:Pn:=(Pn.cntAdd smD0 smQ 0 1).1
def smD1:Dk:=(Pn.lay smD0 smP).1
def smD:Dk:=smD1.flush.1
def smI:Im:=⟨smD,20,8,⟨1,0⟩,[],false⟩
theorem Ek:smD0.fit=true/\writeE 20 8=0/\(Pn.set Pn.none 0 (writeW 20 8)).2=0/\(Pn.rtSet smQ0 0 1).2=0/\(Pn.cntAdd smD0 smQ 0 1).2=0/\(Pn.lay smD0 smP).2=0/\smD1.fit=true/\smD1.flush.2=0/\smD.fit=true:=by decide+kernel
end
section
abbrev Xt:=Int×Int
def sumX (l:List Xt):Int:=l.foldr (fun x s=>max x.1 0+s) 0
def lenX (l:List Xt):Int:=l.foldr (fun x s=>x.1+s) 0
abbrev Cut:=Int×Int×Int
inductive Tiles:Int->Int->List Cut->Prop
 |nil {a n:Int} (h:n<=0):Tiles a n []
 |cons {a n s:Int} {l:List Cut} (h:0<n) (hs:s=min n (128-a%128)) (r:Tiles (a+s) (n-s) l):Tiles a n ((a/128,a%128,s)::l)
theorem Tiles.length {a n:Int}{l:List Cut}(h:Tiles a n l)(ha:0<=a):128*(l.length:Int)<=max n 0+254:=by
 have H:∀{a n:Int}{l:List Cut},Tiles a n l->0<=a->128*(l.length:Int)<=max n 0+127+a%128:=fun {a n l} h=>by
  induction h with
  |nil h=>intro _;simp only[List.length_nil];omega
  |@cons a n s l h hs r ih=>
   intro ha;have:=ih (by omega);rw[List.length_cons];by_cases h0:n-s<=0
   · cases r with
     |nil h1=>simp only[List.length_nil];omega
     |cons h1 _ _=>omega
   · omega
 have:=H h ha;omega
def exts (f:Int->Int)(l:List Cut):List Xt:=l.map fun p=>(p.2.2,f p.1)
theorem Tiles.sum {a n:Int}{l:List Cut}(h:Tiles a n l)(ha:0<=a)(f:Int->Int):sumX (exts f l)=max n 0/\lenX (exts f l)=max n 0:=by
 induction h with
 |nil h=>exact⟨by show(0:Int)=_;omega,by show(0:Int)=_;omega⟩
 |@cons a n s l h hs r ih=>
  have:=ih (by omega);exact⟨by show max s 0+sumX (exts f l)=max n 0;rw[this.1];omega,by show s+lenX (exts f l)=max n 0;rw[this.2];omega⟩
namespace Im
end Im
end
section
open Go.RowKit Go.Shelf
def okB (L:Pn):Bool:=decide (L.targets.length=L.data.length)&&(decide (L.targets.length<=24)&&((List.range L.targets.length).all (fun i=>sectorOk (L.targets.getD i 0)&&decide (L.find (L.targets.getD i 0)=i))&&(L.data.all (fun s=>decide (s.length=64))&&decide (L.targets≠[]))))
theorem Gs (l:List Int){i:Nat}(h:i<l.length):l.getD i 0=l[i]:=by simp[List.getD,h]
theorem GX (t:Tx):okB t.plan=true↔t.Ok:=by
 obtain⟨sq,L⟩:=t;simp only[okB,Bool.and_eq_true,decide_eq_true_eq,List.all_eq_true,Tx.Ok,Pn.Fit,List.mem_range];constructor
 · rintro⟨h1,h2,h3,h4,h5⟩;exact⟨⟨h1,h2,fun i hi=>by have:=h3 i hi;rwa [Gs _ hi]at this,fun i hi=>h4 _ (List.getElem_mem hi)⟩,h5⟩
 · rintro⟨⟨h1,h2,h3,h4⟩,h5⟩;exact⟨h1,h2,fun i hi=>by rw[Gs _ hi];exact h3 i hi,fun s hs=>by obtain⟨i,hi,rfl⟩:=List.getElem_of_mem hs;exact h4 i hi,h5⟩
def rowsC (j:Jr)(L:Pn):List (List UInt8):=if okB L=true then(⟨j.seq,L⟩:Tx).rows else []
theorem OU (j:Jr)(L:Pn):jrRows j L=rowsC j L:=by
 unfold jrRows rowsC Tx.write;by_cases h:(⟨j.seq,L⟩:Tx).Ok
 · rw[if_pos h,if_pos ((GX _).2 h)]
 · rw[if_neg h,if_neg (fun e=>h ((GX ⟨j.seq,L⟩).1 e))]
def atC (j:Jr)(L:Pn):Int:=jrPlace j.pos (rowsC j L).length
def commitC (D:Dk)(j:Jr)(L:Pn):Dk×Jr×Int:=
 if L.targets=[]then(D,j,0)else if 4611686018427387904<=j.seq then(D,j,10)
 else if(comSteps D (6+atC j L) (rowsC j L) L).2≠0 then((comSteps D (6+atC j L) (rowsC j L) L).1,j,(comSteps D (6+atC j L) (rowsC j L) L).2)
 else((comSteps D (6+atC j L) (rowsC j L) L).1,⟨j.seq+1,atC j L+(rowsC j L).length⟩,0)
theorem JZ (D:Dk)(j:Jr)(L:Pn):jrCommit D j L=commitC D j L:=by
 unfold jrCommit commitC atC jrAt;rw[OU]
namespace Im
def doneC (x:Im)(L:Pn):Im×Int:=
 if(commitC x.d x.j L).2.2≠0 then({x with d:=(commitC x.d x.j L).1,br:=true},(commitC x.d x.j L).2.2)else({x with d:=(commitC x.d x.j L).1,j:=(commitC x.d x.j L).2.1},0)
theorem Da (x:Im)(L:Pn):done x L=doneC x L:=by unfold done doneC;rw[JZ]
def pointedC (x:Im)(L:Pn)(u K A:Int):Im×Int:=if(Pn.ptPoint x.d L x.g x.h u K A).2≠0 then(x,(Pn.ptPoint x.d L x.g x.h u K A).2)else doneC x (Pn.ptPoint x.d L x.g x.h u K A).1
theorem Ni (x:Im)(L:Pn)(u K A:Int):writeNew.pointed x L u K A=pointedC x L u K A:=by unfold writeNew.pointed pointedC;rw[Da]
def newC (x:Im)(l1 u off:Int)(s:List UInt8):Im×Int:=
 if(Pn.alTake x.d Pn.none x.h).2.2≠0 then(x,(Pn.alTake x.d Pn.none x.h).2.2)else if(rd x.d l1 u).2≠0 then(x,(rd x.d l1 u).2)
 else if(fill x.d (Pn.alTake x.d Pn.none x.h).2.1 (over (rd x.d l1 u).1 off.toNat s)).2≠0 then({x with d:=(fill x.d (Pn.alTake x.d Pn.none x.h).2.1 (over (rd x.d l1 u).1 off.toNat s)).1},(fill x.d (Pn.alTake x.d Pn.none x.h).2.1 (over (rd x.d l1 u).1 off.toNat s)).2)
 else pointedC {x with d:=(fill x.d (Pn.alTake x.d Pn.none x.h).2.1 (over (rd x.d l1 u).1 off.toNat s)).1} (Pn.alTake x.d Pn.none x.h).1 u 1 (Pn.alTake x.d Pn.none x.h).2.1
theorem MA (x:Im)(l1 u off:Int)(s:List UInt8):writeNew x l1 u off s=newC x l1 u off s:=by unfold writeNew newC;rw[Ni]
def inC (x:Im)(u off:Int)(s:List UInt8):Im×Int:=
 if(Pn.rtGet x.d Pn.none).2≠0 then(x,(Pn.rtGet x.d Pn.none).2)else if(Pn.tabFind x.d Pn.none (Pn.rtGet x.d Pn.none).1.1 u).2≠0 then(x,(Pn.tabFind x.d Pn.none (Pn.rtGet x.d Pn.none).1.1 u).2)
 else if(Pn.tabFind x.d Pn.none (Pn.rtGet x.d Pn.none).1.1 u).1.1≠1 then newC x (Pn.rtGet x.d Pn.none).1.1 u off s
 else if(Pn.cntGet x.d Pn.none (Pn.tabFind x.d Pn.none (Pn.rtGet x.d Pn.none).1.1 u).1.2).2≠0 then(x,(Pn.cntGet x.d Pn.none (Pn.tabFind x.d Pn.none (Pn.rtGet x.d Pn.none).1.1 u).1.2).2)
 else if(Pn.cntGet x.d Pn.none (Pn.tabFind x.d Pn.none (Pn.rtGet x.d Pn.none).1.1 u).1.2).1<=1 then
  ({x with d:=(place x.d (Pn.tabFind x.d Pn.none (Pn.rtGet x.d Pn.none).1.1 u).1.2 off s).1},(place x.d (Pn.tabFind x.d Pn.none (Pn.rtGet x.d Pn.none).1.1 u).1.2 off s).2)
 else newC x (Pn.rtGet x.d Pn.none).1.1 u off s
theorem LT (x:Im)(u off:Int)(s:List UInt8):writeIn x u off s=inC x u off s:=by unfold writeIn inC;rw[MA]
def writeC (x:Im)(u off:Int)(s:List UInt8):Im×Int:=
 if x.br=true then(x,24)else if(u<0\/x.g<=u)\/off<0\/128<s.length\/128-(s.length:Int)<off then(x,10)else if s=[]then(x,0)else inC (x.mark u) u off s
theorem writeC_eq (x:Im)(u off:Int)(s:List UInt8):write x u off s=writeC x u off s:=by unfold write writeC;rw[LT]
end Im
theorem PE:smI.Ok:=⟨Ek.2.2.2.2.2.2.2.2,by decide,by decide,by decide,by decide,by decide,fun m hm=>(by cases hm)⟩
end
section
open Go.RowKit Go.Shelf
attribute [local go_sem] Ad Af Ag Ab Ai Ah
theorem QG (x:Nat)(hx:x<18446744073709551616)(k:Nat)(h1:1<=k)(h2:k<=8)(w:World):
 CR 145 #[.int .u64 x,.int .i64 k] w (.string (bs (be k x))):=by
 have hp:=fun W=>Ho x k hx h1 h2 W
 go_enter Tryz.func145,Tryz.ntmps145;go_wp2_with (go_at_call 175;refine(hp _).mono ?_;rintro e w' ⟨rfl,hb⟩)
 go_ret
 exact⟨rfl,hb⟩
theorem Fd (x:Nat)(hx:x<9223372036854775808)(k:Nat)(h1:1<=k)(h2:k<=8)(w:World):
 CR 146 #[.int .i64 x,.int .i64 k] w (.string (bs (be k x))):=by
 have hp:=fun W=>Ho x k (by omega) h1 h2 W
 have hw:=u64w (x:=(x:Int)) ⟨by omega,by omega⟩;go_enter Tryz.func146,Tryz.ntmps146;go_wp2_with (go_at_call 175;refine(hp _).mono ?_;rintro e w' ⟨rfl,hb⟩)
 go_ret
 exact⟨rfl,hb⟩
theorem Ja (s:List UInt8)(hs:s.length<=64)(w:World):CR 150 #[.string (bs s)] w (.string (bs (At s))):=by
 have hp:=fun W=>EI s (by unfold maxLen;omega) 64 (by omega) (by omega) W
 go_enter Tryz.func150,Tryz.ntmps150;go_wp2_with (go_at_call 66;refine(hp _).mono ?_;rintro e w' ⟨rfl,hb⟩)
 go_ret
 exact⟨rfl,hb⟩
theorem If (s:List UInt8)(hs:s.length<=64)(w:World):CR 142 #[.string (bs s)] w (.string (bs (At s))):=by
 have hp:=fun W=>EW s (by unfold maxLen;omega) 64 (by omega) (by omega) W
 go_enter Tryz.func142,Tryz.ntmps142;go_wp2_with (go_at_call 87;refine(hp _).mono ?_;rintro e w' ⟨rfl,hb⟩)
 go_ret
 exact⟨rfl,hb⟩
end
section
open Go.RowKit Go.Shelf
attribute [local go_sem] Ad Af Ag Ab Ai Ah Oper.semAt_some
def chEnc (b off len:Nat)(j:Fin ((len+15)/16)):Array Value:=#[.slice (some ⟨b,off+16*j.val,none⟩) (min 16 (len-16*j.val)) (min 16 (len-16*j.val))]
theorem JS (n:Nat)(hn:1<=n)(b off len c:Nat)(hl:len<=1000000)(hlc:len<=c)(hc:c<=maxLen)(B0 B1 B2:Nat)(w:World)(h0:B0<=w.heap.size)
 (b1:Blk w B1 23 #[.slice (some ⟨b,off,none⟩) len c]) (b2:Blk w B2 3 #[.int .i64 16]):
 SeqC 0 Fence.wide n Tryz.prog 191 #[.pointer (some ⟨B1,0,none⟩),.pointer (some ⟨B2,0,none⟩)] (chEnc b off len) (KeepB B0 [B1,B2])
  (fun ys=>ys.map (·.val)=List.range ((len+15)/16)) (fun pre=>∃m,m<(len+15)/16/\pre.map (·.val)=List.range (m+1)) ((len+15)/16) w:=by
 intro l J Jx W hW hJ hJx hY h0J;have HY:=hid hY;have kW:KeepB B0 [B1,B2] w W:=KeepB.later hW h0 (fun g hg=>by
  simp only[List.mem_cons,List.not_mem_nil,or_false]at hg
  rcases hg with rfl|rfl
  · exact b1.lt
  · exact b2.lt)
 have a4:B1∈[B1,B2]:=by simp
 have a1:B2∈[B1,B2]:=by simp
 have k1:=blk1 (b1.at_ (kW.at_ _ a4));have k2:=blk1 (b2.at_ (kW.at_ _ a1));have hm:=hc;unfold maxLen at hm;clear hY;refine callsIn_of_wp Tryz.func191 rfl trivial ?_ rfl;simp only[Tryz.ntmps191,Nat.reduceAdd,Nat.reduceSub,Yn]
 gi_wp2
 gi_loopw [4] (fun x V=>∃m:Nat,m<=(len+15)/16/\x=.int .i64 ((16*m:Nat):Int)/\(∃pre,pre.length=m/\Hid (pre.map (·.val)=List.range m)/\J pre V)/\KeepB B0 [B1,B2] w V/\Hid (W.heap.size<=V.heap.size)) (fun x _=>len+16-(intOf x).toNat)
 case atStart=>exact⟨0,Nat.zero_le _,rfl,⟨[],rfl,hid rfl,h0J⟩,kW,hid (Nat.le_refl _)⟩
 case round=>
  obtain⟨m,hm2,rfl,⟨pre,hpl,hpm,hJm⟩,hk,hsz⟩:=hrel;have Hpl:=hid hpl;clear k1 k2 h0J kW hpl;have k1:=blk1 (b1.at_ (hk.at_ _ a4));have k2:=blk1 (b2.at_ (hk.at_ _ a1));by_cases hlt:16*m<len
  · have a0:m<(len+15)/16:=by omega
    have a2:Below wr.heap.size wr wr.drew:=(Below.refl _ _).drew;have a3:KeepB B0 [B1,B2] wr wr.drew:=⟨a2.mono (Nat.le_trans h0 hk.below.size),fun g hg=>rfl⟩;obtain⟨fn,tmps,assign,body,hy,hR⟩:=HY.out pre ⟨m,a0⟩ wr.drew (OwnFrom.later hJ hJm a2) (by rw[Hpl.out];exact a0) hsz.out;have Hz:=hid (show(pre++[(⟨m,a0⟩:Fin ((len+15)/16))]).map (·.val)=List.range (m+1) by
     rw[List.map_append,hpm.out,List.range_succ];rfl)
    simp only[chEnc]at hy;clear hJm;obtain⟨r,hr⟩:∃r,len=16*m+r:=⟨len-16*m,by omega⟩;subst hr;rw[show min 16 (16*m+r-16*m)=(16*(m:Int)+min 16 (r:Int)).toNat-16*m by omega]at hy
    gi_wp2
    gi_region
    gi_wp2
    refine hR.mono ?_;rintro e W3 (⟨rfl,hJ3,hkf,_,hk3⟩|⟨rfl,hJx3,_⟩)
    · have a5:=hid hJ3;have k4:=blk1 (b2.at_ (((hk.trans a3).trans hk3).at_ _ a1));clear hJ3 k1 k2
      gi_wp2
      go_roundw
      case rel=>exact⟨m+1,by omega,by go_num,⟨_,by rw[List.length_append,Hpl.out];rfl,Hz,a5.out⟩,(hk.trans a3).trans hk3,hid (Nat.le_trans hsz.out hkf.size)⟩
      case measure=>simp[intOf];omega
    · gi_wp2
      refine bodyPost_ret (results_none rfl _ _ _) rfl ?_;exact⟨⟨_,rfl⟩,.inr ⟨_,⟨m,a0,Hz.out⟩,hJx3⟩⟩
  · have a0:m=(len+15)/16:=by omega
    have Hm:=hid a0;clear a0
    gi_wp2
    go_end0
    exact⟨⟨_,rfl⟩,.inl ⟨pre,by rw[hpm.out,Hm.out],hJm⟩⟩
end
section
open Go.RowKit Go.Shelf
theorem Tryz.bldInfo:(Tryz.prog.info? 195).map (·.size)=some 2:=by kernel_rfl
theorem Tryz.bldLies:liesAt Tryz.prog Tryz.prog.depth 195 (2/Tryz.prog.cellsOf 195) 0 195 1=true:=by kernel_rfl
theorem J2 (b:Nat)(w:World)(h0:w.cell? ⟨b,0,none⟩=some (.pointer (some ⟨b,0,none⟩))):
 Calls Tryz.prog 163 #[.pointer (some ⟨b,0,none⟩)] w fun e w'=>e=.returned (.tuple #[])/\w'=w:=by
 obtain⟨j,hj,_⟩:=Option.map_eq_some_iff.1 Tryz.bldInfo;go_enter Tryz.func163,Tryz.ntmps163
 go_wp2
 rw[Lib.run_neq_ptr_same w _ Tryz.underlying193 hj]
 go_wp2
 go_end0
 exact⟨rfl,rfl⟩
theorem J1 (b:Nat)(w:World)(h0:w.cell? ⟨b,0,none⟩=some (.pointer none))(hsh:w.shape? b=some (195,2))(hfz:w.frozen? ⟨b,0,none⟩=false):
 Calls Tryz.prog 163 #[.pointer (some ⟨b,0,none⟩)] w fun e w'=>e=.returned (.tuple #[])/\w'=w.setCell ⟨b,0,none⟩ (.pointer (some ⟨b,0,none⟩)):=by
 obtain⟨j,hj,hjs⟩:=Option.map_eq_some_iff.1 Tryz.bldInfo;go_enter Tryz.func163,Tryz.ntmps163
 go_wp2
 rw[Lib.run_to_unsafe w ⟨b,0,none⟩ Tryz.underlying193 Tryz.underlying251 hj (by rw[hjs];decide) hsh (Nat.zero_lt_succ 1)];simp only[Result.andThen];rw[Oper.upon_value]
 go_wp2
 rw[run_callFunc_extern Tryz.func182 (by kernel_rfl) (by kernel_rfl) (by kernel_rfl) (e:=Extern.AbiNoEscape.same) (by kernel_rfl)];rw[Lib.run_noEscape];simp only[Result.andThen];rw[Oper.upon_value]
 go_wp2
 rw[Lib.run_from_unsafe w ⟨b,0,none⟩ Tryz.underlying251 Tryz.underlying193 hj hsh Tryz.bldLies];simp only[Result.andThen];rw[Oper.upon_value]
 go_wp2
 go_end0
 exact⟨rfl,rfl⟩
theorem J0 (B b:Nat)(l:List Value)(w:World)(h:Lib.IsBuilder 195 5 B b l w):
 Calls Tryz.prog 163 #[.pointer (some ⟨b,0,none⟩)] w fun e w'=>e=.returned (.tuple #[])/\(Lib.BuilderAt 195 5 B b (.pointer (some ⟨b,0,none⟩)) l w'/\Below B w w'):=by
 rcases h with h|h
 · refine(J1 b w h.cell0 h.shape h.frozen0).mono ?_;rintro e w' ⟨rfl,rfl⟩;exact⟨rfl,h.used _,(Below.refl B w).setCell (p:=⟨b,0,none⟩) h.1 _⟩
 · refine(J2 b w h.cell0).mono ?_;rintro e w' ⟨rfl,rfl⟩;exact⟨rfl,h,Below.refl B _⟩
theorem JD (B b:Nat)(l:List UInt8)(s:List UInt8)(w:World)(h:Lib.IsBuilder 195 5 B b (Lib.byteCells l) w)(hlen:l.length+s.length<=140737488355328)(hBw:B<=w.heap.size):
 Calls Tryz.prog 135 #[.pointer (some ⟨b,0,none⟩),.string (bs s)] w fun e w'=>e=.returned (.tuple #[.int .i64 s.length,.nilIface])/\Lib.IsBuilder 195 5 B b (Lib.byteCells (l++s)) w'/\Below B w w':=by
 obtain⟨i0,hi,hz0,hz1,hz2⟩:=info_parts Tryz.infoByte;have hbl:(Lib.byteCells l).length=l.length:=Lib.byteCells_length l;go_enter Tryz.func135,Tryz.ntmps135;go_wp2_with fail
 refine(J0 B b (Lib.byteCells l) w h).mono ?_;rintro e w1 ⟨rfl,⟨hB,v,hbk,hown,hne⟩,hb1⟩;have c0:w1.cell? ⟨b,0,none⟩=some (.pointer (some ⟨b,0,none⟩)):=by rw[Lib.cell_of_heap hbk];rfl
 have c1:w1.cell? ⟨b,1,none⟩=some v:=by rw[Lib.cell_of_heap hbk];rfl
 go_wp2_with (at_builtin;refine Lib.wpList_append_own_string _ rfl _ _ 139 9 rfl B 5 i0 Tryz.underlying139 Tryz.underlying9 hi hz0 hz1 hz2 _ _ _ rfl hown (bs s) rfl ?c3 ?c4 ?c5 ?_)
 case c3=>rw[Ab,hbl];unfold maxLen;omega
 case c4=>rw[Ab,hbl];omega
 case c5=>have:=hb1.size;omega
 intro v' w2 hown' hgrow _;have a1:b<w1.heap.size:=Blk.lt (t:=195) hbk;have a0:Blk w2 b 195 #[.pointer (some ⟨b,0,none⟩),v]:=(hgrow.block b a1 (fun e=>hne e.symm)).trans hbk;have d:=blk2 a0;have f:=a0.fz;obtain⟨ao,n',cap,rfl⟩:∃ao n' cap,v'=.slice ao n' cap:=by
  rcases hown'.2 with ⟨hv,_⟩|⟨g,cap,cur,hv,_⟩
  · exact⟨_,_,_,hv⟩
  · exact⟨_,_,_,hv⟩
 go_wp2_with fail
 go_ret2
 rw[Ab];refine⟨rfl,.inr ?_,(hb1.grown hgrow (by have:=hb1.size;omega) (fun k hk=>(hown.lt k hk).1)).setCell (p:=⟨b,1,none⟩) hB _⟩;have h1:=Lib.BuilderAt.put (T:=195) (e:=5) hB a0 (bs':=Lib.byteCells l++Lib.strCells (bs s)) (v':=.slice ao n' cap) (by rw[List.length_append,Lib.strCells_length,hbl];exact hown') (by decide);rw[Lib.strCells_eq,A9,<-Lib.byteCells_append]at h1;exact h1
attribute [local go_sem] Ad Af Ag Ab Ai Ah Oper.semAt_some
theorem Gx {l:List Int}(h1:1<=l.length)(h:l.length<=24):(idxRows l).length=(l.length+15)/16:=by
 unfold idxRows
 split
 · rw[List.length_singleton];omega
 · simp only[List.length_cons,List.length_nil];omega
theorem LQ {l:List Int}(h1:1<=l.length)(h:l.length<=24){j:Nat}(hj:j<(idxRows l).length):(idxRows l)[j]=At (nums ((l.drop (16*j)).take 16)):=by
 have hc:=Gx h1 h
 rcases Nat.lt_or_ge 16 l.length with h16|h16
 · have e:idxRows l=[At (nums (l.take 16)),At (nums (l.drop 16))]:=by unfold idxRows;rw[if_neg (by omega)]
   have:j=0\/j=1:=by omega
   rcases this with rfl|rfl
   · simp only[e,List.getElem_cons_zero,Nat.mul_zero,List.drop_zero]
   · simp only[e,List.getElem_cons_succ,List.getElem_cons_zero];rw[List.take_of_length_le (by simp;omega)]
 · have e:idxRows l=[At (nums l)]:=by unfold idxRows;rw[if_pos h16]
   obtain rfl:j=0:=by omega
   simp only[e,List.getElem_cons_zero,Nat.mul_zero,List.drop_zero];rw[List.take_of_length_le h16]
def rowEnc (R:List (List UInt8))(i:Fin R.length):Array Value:=#[.string (bs R[i.val])]
theorem MG (l:List Int)(x:Int):nums (l++[x])=nums l++be 4 x.toNat:=by simp[nums]
theorem Jv (n:Nat)(L:Pn)(p' q':Pl)(w:World):
 CallsIn Fence.wide n Tryz.prog 148 #[pval L p' q'] w fun e w'=>e=.returned (.func (.func 176) #[] #[.pointer (some ⟨w.heap.size,0,none⟩)])/\
  w'=w.alloc (.cells #[.slice p'.a L.targets.length p'.c,.slice q'.a L.data.length q'.c] 63):=by
 refine callsIn_of_wp Tryz.func148 rfl trivial ?_ rfl;simp only[Tryz.ntmps148,Nat.reduceAdd,Nat.reduceSub,Yn]
 gi_wp2
 go_ret
 exact⟨rfl,rfl⟩
theorem JR (n:Nat)(a:Option Addr)(len cap:Nat)(w:World):
 CallsIn Fence.wide n Tryz.prog 177 #[.slice a len cap,.int .i64 16] w fun e w'=>e=.returned (.func (.func 191) #[] #[.pointer (some ⟨w.heap.size,0,none⟩),.pointer (some ⟨w.heap.size+1,0,none⟩)])/\
  w'=(w.alloc (.cells #[.slice a len cap] 23)).alloc (.cells #[.int .i64 16] 3):=by
 have x1:=blk1 (DX w (.cells #[.slice a len cap] 23) 3 #[.int .i64 16]);refine callsIn_of_wp Tryz.func177 rfl trivial ?_ rfl;simp only[Tryz.ntmps177,Nat.reduceAdd,Nat.reduceSub,Yn]
 gi_wp2
 go_ret
 exact⟨rfl,rfl⟩
theorem MZ {R:List (List UInt8)}{K:Nat}(emb:Fin K->Fin R.length)(hemb:∀y,(emb y).val=y.val)(hK:K<=R.length)(ys:List (Fin K))(k:Nat)(hk:k<=K)(h:ys.map (·.val)=List.range k):picked R (ys.map emb)=R.take k:=by
 have e:picked R (ys.map emb)=(ys.map (·.val)).map (fun i=>R.getD i []):=by
  unfold picked;rw[List.map_map,List.map_map];refine List.map_congr_left fun y _=>?_
  show R[(emb y).val]=R.getD y.val [];have hl:=y.isLt;rw[List.getD_eq_getElem?_getD,List.getElem?_eq_getElem (by omega),Option.getD_some];exact getElem_congr_idx (hemb y)
 rw[e,h];apply List.ext_getElem (by simp;omega)
 intro i h1 h2;simp only[List.length_map,List.length_range]at h1;rw[List.getElem_map,List.getElem_range,List.getElem_take,List.getD_eq_getElem?_getD,List.getElem?_eq_getElem (by omega),Option.getD_some]
theorem Gz {T e:TypeId}{B b:Nat}{cs:List Value}{w w':World}(h:Lib.IsBuilder T e B b cs w)(hb:Below w.heap.size w w'):Lib.IsBuilder T e B b cs w':=by
 have a0:∀p,Lib.BuilderAt T e B b p cs w->Lib.BuilderAt T e B b p cs w':=by
  rintro p ⟨hB,v,h1,h2,h3⟩;have hl:=(Array.getElem?_eq_some_iff.1 h1).1;refine⟨hB,v,(hb.block b hl).trans h1,?_,h3⟩;exact h2.kept (row:=none) ⟨hb.os,hb.tape,hb.output,hb.size,fun k hk _=>hb.block k hk⟩ (by cases hv:v.ownBlock with|none=>exact .inl rfl|some x=>exact .inr (by simp))
 exact h.elim (fun x=>.inl (a0 _ x)) (fun x=>.inr (a0 _ x))
theorem OR {F:Fence}(hr:∀k,F.room k){n m:Nat}{P:Program}{l:Nat}{f:FuncId}{tmps:Array Value}{assign body:Code}{w:World}{R:Ending->World->Prop}
 (h:RoundIn F n P l f tmps assign body w R):RoundIn F m P l f tmps assign body w R:=⟨h.1,fun c cs _=>h.2 c cs (hr _)⟩
theorem Ju {B0 Bp:Nat}{w V W3 V':World}{S V0s:Nat}(hS:B0<=S)(h0':S+1+1<V0s)(hs:V0s<=V.heap.size)(hBp:Bp<S)(hk:KeepB B0 [Bp] w V)(hc3:Below V.heap.size V W3)(hkf:KeepsFrom S W3 V')(hst:StaysC S 3 W3 V')(hk3:KeepB B0 [Bp] W3 V'):
 KeepsFrom V0s V V'/\(StaysC (V0s+2) 0 V V'/\KeepB B0 [S+1,S+1+1] V V')/\KeepB B0 [Bp] w V'/\V0s<=V'.heap.size/\V'.heap[S]? =V.heap[S]? :=by
 have h3:=hc3.size;have a0:∀g,S<=g->g<S+3->V'.heap[g]? =V.heap[g]? :=fun g h1 h2=>(hst.2 g h1 h2 (by omega)).trans (hc3.block g (by omega))
 refine⟨(Cf hc3).trans (BG hkf (by omega)),⟨StaysC.zero (Nat.le_trans h3 hst.1),⟨(hc3.mono (by omega)).trans hk3.below,fun g hg=>?_⟩⟩,?_,Nat.le_trans (Nat.le_trans hs h3) hst.1,a0 _ (Nat.le_refl _) (by omega)⟩
 · simp only[List.mem_cons,List.not_mem_nil,or_false]at hg;exact a0 g (by omega) (by omega)
 · refine hk.trans (KeepB.trans ⟨hc3.mono (by omega),fun g hg=>?_⟩ hk3);obtain rfl:g=Bp:=by simpa using hg
   exact hc3.block g (by omega)
theorem JJ {e:Ending}{A B:Prop}(h:(e=.returned (.bool true)/\A)\/(e=.returned (.bool false)/\B)):∃b,e=.returned (.bool b)/\((b=true/\A)\/(b=false/\B)):=by
 rcases h with ⟨h,a⟩|⟨h,a⟩
 · exact⟨true,h,.inl ⟨rfl,a⟩⟩
 · exact⟨false,h,.inr ⟨rfl,a⟩⟩
theorem Md {B B' Bp:Nat}{w0 X Y:World}{row:Option Nat}(hB:B<=B')(hbs:∀g∈[Bp],g<B')(hsz:Bp<w0.heap.size)(hw:B<=w0.heap.size)(hs:KeepB B [Bp] w0 X)(hy:X.grownBy Y row)(hr:∀r,row=some r->B'<=r/\∃o:Obj,X.heap[r]? =some o/\o.isCells=false):KeepB B [Bp] w0 Y:=by
 have h2:=hs.below.size;have hp:=hbs Bp (by simp);refine hs.trans ⟨⟨hy.os,hy.tape,hy.output,hy.size,fun k hk=>hy.block k (by omega) (fun e=>by have:=(hr k e.symm).1;omega)⟩,fun g hg=>?_⟩;obtain rfl:g=Bp:=by simpa using hg
 exact hy.block g (by omega) (fun e=>by have:=(hr g e.symm).1;omega)
def behAct (l Bp Y:Nat)(b off lt ct:Nat)(y:Fin ((lt+15)/16)):Act:=
 {tmps:=#[.func (.yield l) #[] #[],.pointer (some ⟨Bp,0,none⟩),.pointer (some ⟨Y,0,none⟩),.slice (some ⟨b,off+16*y.val,none⟩) (min 16 (lt-16*y.val)) (min 16 (lt-16*y.val)),undef,undef,undef,undef,undef,
  .pointer (some ⟨Bp,0,none⟩),.slice (some ⟨b,off,none⟩) lt ct,.func (.func 191) #[] #[.pointer (some ⟨Y+1,0,none⟩),.pointer (some ⟨Y+1+1,0,none⟩)],
  .slice (some ⟨b,off+16*y.val,none⟩) (min 16 (lt-16*y.val)) (min 16 (lt-16*y.val)),
  undef,undef,undef,undef,undef,undef,undef,undef,undef,undef,undef,undef,undef,undef,undef,undef,undef,undef,undef,undef,undef,undef,undef,undef,undef,undef,undef],defers:=[]}
theorem Jw (n:Nat)(hn:3<=n)(L:Pn)(p' q':Pl)(ht1:1<=L.targets.length)(ht:L.targets.length<=24)(hd:L.data.length<=1000000)(hok:∀x∈L.targets,sectorOk x=true)(R:List (List UInt8))(hR:idxRows L.targets++L.data=R)(B0 Bp:Nat)(w:World)(h0:B0<=w.heap.size)
 (hLW:∀W,Below B0 w W->IsPn W L p' q') (bp:Blk w Bp 63 #[.slice p'.a L.targets.length p'.c,.slice q'.a L.data.length q'.c]):
 SeqC 3 Fence.wide n Tryz.prog 176 #[.pointer (some ⟨Bp,0,none⟩)] (rowEnc R) (KeepB B0 [Bp])
  (fun ys=>picked R ys=R) (fun pre=>∃m,m<R.length/\picked R pre=R.take (m+1)) R.length w:=by
 intro l J Jx W hW hJ hJx hY h0J;have h1:1<=n:=by omega
 have HY:=hid hY;clear hY;have hK:=Gx ht1 ht;have kW:KeepB B0 [Bp] w W:=KeepB.later hW h0 (fun g hg=>by
  simp only[List.mem_cons,List.not_mem_nil,or_false]at hg
  rcases hg with rfl
  exact bp.lt)
 obtain⟨B1,b1⟩:=p';obtain⟨B2,b2⟩:=q';obtain⟨tb,tt,te,-⟩:=(hLW W kW.below).targets.int (i:=0) (by omega);have te:B1=some ⟨tb,tt,none⟩:=te;subst te;have aj:Bp∈[Bp]:=by simp
 have av:L.targets.length<=b1:=(hLW W kW.below).pc;have a1:b1<=maxLen:=(hLW W kW.below).pm;have bW:=(bp.at_ (kW.at_ _ aj));have a3:=bW.lt;have x0:=blk2 (bW.alloc (.cells #[.func (.yield l) #[] #[]] 65));have ya:=Blk.new W 65 #[.func (.yield l) #[] #[]];refine callsIn_of_wp_marks Tryz.func176 rfl trivial ?_ rfl;simp only[Tryz.ntmps176,Nat.reduceAdd,Nat.reduceSub,Yn]
 gi_wp2_with fail
 refine⟨trivial,(JR _ _ _ _ _).mono ?_⟩;rintro e w' ⟨rfl,rfl⟩;have yv:=(ya.alloc (.cells #[.slice (some ⟨tb,tt,none⟩) L.targets.length b1] 23)).alloc (.cells #[.int .i64 16] 3);have ad:=(DX W (.cells #[.func (.yield l) #[] #[]] 65) 23 #[.slice (some ⟨tb,tt,none⟩) L.targets.length b1]).alloc (.cells #[.int .i64 16] 3);have a5:=Blk.new ((W.alloc (.cells #[.func (.yield l) #[] #[]] 65)).alloc (.cells #[.slice (some ⟨tb,tt,none⟩) L.targets.length b1] 23)) 3 #[.int .i64 16];simp only[Ys]at a5;have bV:=(((Yz (W:=W) (.cells #[.func (.yield l) #[] #[]] 65)).alloc (by simp) (.cells #[.slice (some ⟨tb,tt,none⟩) L.targets.length b1] 23)).alloc (by simp;omega) (.cells #[.int .i64 16] 3))
 gi_wp2_with fail
 have ae:=OwnFrom.later hJ h0J bV;have kV:KeepB B0 [Bp] w (((W.alloc (.cells #[.func (.yield l) #[] #[]] 65)).alloc (.cells #[.slice (some ⟨tb,tt,none⟩) L.targets.length b1] 23)).alloc (.cells #[.int .i64 16] 3)):=
  kW.trans (KeepB.later bV (Nat.le_trans h0 hW.size) (fun g hg=>by
   simp only[List.mem_cons,List.not_mem_nil,or_false]at hg
   rcases hg with rfl
   exact a3))
 have a7:B0<=W.heap.size:=Nat.le_trans h0 hW.size;generalize ((W.alloc (.cells #[.func (.yield l) #[] #[]] 65)).alloc (.cells #[.slice (some ⟨tb,tt,none⟩) L.targets.length b1] 23)).alloc (.cells #[.int .i64 16] 3)=V0 at*;have ar:=a5.lt;have HR:=hid hR;have aq:R.length=(L.targets.length+15)/16+L.data.length:=by rw[<-hR,List.length_append,hK]
 have a8:∀(y:Fin ((L.targets.length+15)/16))(hy:y.val<R.length),R[y.val]=At (nums ((L.targets.drop (16*y.val)).take 16)):=fun y hy=>by
  have h:=LQ ht1 ht (j:=y.val) (by rw[hK];exact y.isLt);rw[<-h];subst hR;rw[List.getElem_append_left]
 have ao:∀m (hm:m<L.data.length)(hy:(L.targets.length+15)/16+m<R.length),R[(L.targets.length+15)/16+m]=L.data[m]:=fun m hm hy=>by
  subst hR;rw[List.getElem_append_right (by omega)]
  congr 1;omega
 let emb:Fin ((L.targets.length+15)/16)->Fin R.length:=fun y=>⟨y.val,by omega⟩
 have a4:∀y,(emb y).val=y.val:=fun _=>rfl
 have a0:=fun ys k hk h=>MZ (R:=R) (K:=(L.targets.length+15)/16) emb a4 (by omega) ys k hk h
 clear_value emb
 refine ES rfl h1 (gf:=191) (lb:=#[.pointer (some ⟨W.heap.size+1,0,none⟩),.pointer (some ⟨W.heap.size+1+1,0,none⟩)]) rfl trivial (enters_of Tryz.func191 (by kernel_rfl) rfl)
  (JS (n-1) (by omega) tb tt L.targets.length b1 (by omega) av a1 B0 (W.heap.size+1) (W.heap.size+1+1) V0 (by omega) ad a5)
  KeepB.trans (fun W' l o o' q1 q2 q3 q4=>KeepB.putObj o' (by omega) (fun g hg=>by
   simp only[List.mem_cons,List.not_mem_nil,or_false]at hg;omega)) (Below.refl _ _) (fun _=>rfl)
  (fun pre V=>J (pre.map emb) V/\Blk V W.heap.size 65 #[.func (.yield l) #[] #[]]/\KeepB B0 [Bp] w V/\V0.heap.size<=V.heap.size)
  (fun c pre V=>c=.ret/\Jx (pre.map emb) V)
  ?hI ?hIx ⟨ae,yv,kV,Nat.le_refl _⟩
  (fun y a' V=>a'=behAct l Bp W.heap.size tb tt L.targets.length b1 y)
  (fun _ _ _ _ _ _ hs _ _=>hs) ?assign ?body ?done ?stop
 case hI=>
  rintro pre X Y row ⟨h1,h2,h3,h4⟩ hy hr;exact⟨hJ _ X Y row h1 hy (fun r e=>⟨by have:=(hr r e).1;omega,(hr r e).2⟩),(Own.from (AE _ _ (fun _:Unit=>_)) _) () X Y row h2 hy hr,
   Md (B':=V0.heap.size) (by omega) (fun g hg=>by simp only[List.mem_cons,List.not_mem_nil,or_false]at hg;omega) bp.lt h0 h3 hy hr,Nat.le_trans h4 hy.size⟩
 case hIx=>
  rintro c pre X Y row ⟨h0,h1⟩ hy hr;exact⟨h0,hJx _ X Y row h1 hy (fun r e=>⟨by have:=(hr r e).1;omega,(hr r e).2⟩)⟩
 case assign=>
  rintro l' pre y V K hI hK
  dsimp only[chEnc]
  gi_wp2
  exact hK _ _ (KeepsFrom.refl _ _) (StaysC.refl _ _ _) (KeepB.refl _ _ _) hI rfl
 case body=>
  rintro l' pre y a' V ⟨hj,hb1,hk,hs⟩ rfl hpl hVz;have aC:=y.isLt;have h2:1<=n-1-1:=by omega
  have aA:y.val<R.length:=by omega
  obtain⟨ch,hchl,hRy,hcell⟩:∃ch:List Int,ch.length=min 16 (L.targets.length-16*y.val)/\R[y.val]=At (nums ch)/\∀k (hk':k<ch.length),V.cell? ⟨tb,tt+16*y.val+k,none⟩=some (.int .i64 ch[k])/\sectorOk ch[k]=true:=by
   refine⟨(L.targets.drop (16*y.val)).take 16,by rw[List.length_take,List.length_drop],a8 y aA,fun k hk'=>?_⟩;rw[List.length_take,List.length_drop]at hk';obtain⟨b',o',e',ct⟩:=(hLW V hk.below).targets.int (i:=0) (by omega);have e':(some ⟨tb,tt,none⟩:Option Addr)=some ⟨b',o',none⟩:=e';obtain⟨rfl,rfl⟩:tb=b'/\tt=o':=by injection e' with e';injection e' with e1 e2;exact⟨e1,e2⟩
   have hi:16*y.val+k<L.targets.length:=by omega
   have:=ct (16*y.val+k) hi;have e:((L.targets.drop (16*y.val)).take 16)[k]'(by rw[List.length_take,List.length_drop];exact hk')=L.targets[16*y.val+k]:=by rw[List.getElem_take,List.getElem_drop]
   rw[e,Nat.add_assoc];exact⟨this,hok _ (List.getElem_mem hi)⟩
  have ap:=hid (show R[(emb y).val]=At (nums ch)from(getElem_congr_idx (a4 y)).trans hRy);have ac:(pre.map emb).length<R.length:=by rw[List.length_map];omega
  clear hRy;unfold behAct;rw[<-hchl];have aw:ch.length<=16:=by rw[hchl];omega
  generalize 16*y.val=ofs at*;clear hchl a8;have hbl:=Lib.fresh_isBuilder 195 5 V;have hbV:=Yz (W:=V) (.cells #[.pointer none,.slice none 0 0] 195);have Hz:=hid (a0 (pre++[y]))
  gi_wp2_with fail
  generalize V.alloc (.cells #[.pointer none,.slice none 0 0] 195)=V1 at*
  gi_loopw [15] (fun x V'=>∃k:Nat,k<=ch.length/\x=.int .i64 k/\Hid (Lib.IsBuilder 195 5 V.heap.size V.heap.size (Lib.byteCells (nums (ch.take k))) V')/\Hid (Below V.heap.size V V')) (fun x _=>ch.length-(intOf x).toNat)
  case atStart=>exact⟨0,Nat.zero_le _,rfl,hid hbl,hid hbV⟩
  case round=>
   obtain⟨k,hk2,rfl,hB1,hbV1⟩:=hrel;by_cases hlt:k<ch.length
   · obtain⟨cc,hok2⟩:=hcell k hlt;have cc:=Av hbV1.out cc;have az:0<=ch[k]/\ch[k]<1024:=by simpa[sectorOk]using hok2
     have hnx:=hid (MG (ch.take k) ch[k]);have htk:=hid (List.take_succ_eq_append_getElem hlt);generalize ch[k]=x at*;obtain⟨x,rfl⟩:=Int.eq_ofNat_of_zero_le az.1;have ab:∀W,Calls Tryz.prog 146 #[.int .i64 x,.int .i64 4] W fun e w'=>e=.returned (.string (bs (be 4 x)))/\Below W.heap.size W w':=fun W=>Fd x (by omega) 4 (by omega) (by omega) W
     have au:(nums (ch.take k)).length<=64:=by rw[BI,List.length_take];omega
     clear hok2 hcell
     gi_wp2_with fail
     refine⟨trivial,(CallsIn.inRound l' (callsIn_wide.2 (ab _))).mono ?_⟩;rintro e W2 ⟨rfl,hb2⟩;have an:Lib.IsBuilder 195 5 V.heap.size V.heap.size (Lib.byteCells (nums (ch.take k))) W2:=Gz hB1.out hb2
     gi_wp2_with fail
     refine⟨trivial,(CallsIn.inRound l' (callsIn_wide.2 (JD _ _ _ _ _ an (by rw[Ar];omega) (Nat.le_trans hbV1.out.size hb2.size)))).mono ?_⟩;rintro e W3 ⟨rfl,hB3,hb3⟩
     gi_wp2
     go_roundw
     case rel=>exact⟨k+1,by omega,by go_num,hid (by rw[htk.out,hnx.out];exact hB3),hid ((hbV1.out.trans (hb2.mono hbV1.out.size)).trans hb3)⟩
     case measure=>simp[intOf];omega
   · obtain rfl:k=ch.length:=by omega
     have a2:=hB1.out;rw[List.take_length]at a2;have a2:Lib.IsBuilder 195 5 V.heap.size V.heap.size (Lib.byteCells (nums ch)) wr.drew:=Gz a2 (Below.refl _ _).drew;have a9:Below V.heap.size V wr.drew:=hbV1.out.trans (((Below.refl _ _).drew:Below wr.heap.size wr wr.drew).mono hbV1.out.size);have aa:(nums ch).length<=64:=by rw[BI];omega
     obtain⟨yb,aD⟩:=Z1 (hb1.bl a9);have aB:Tryz.prog.follows .mixedOrders=true:=by kernel_rfl
     have hst:=Tryz.Builder_String_any V.heap.size V.heap.size (nums ch) wr.drew a2 a9.size;have ah:=fun W=>Ja (nums ch) aa W
     clear hB1 hbV1 a2 hcell hbl hbV;have ai:∀W3,Below V.heap.size V W3->∃fn tmps assign body,(Instr.yield l #[.string (bs (At (nums ch)))]).run Tryz.prog W3=.ok (.round l fn tmps assign body) W3/\RoundIn (Fence.wide.inRound l') (n-1-1-1) Tryz.prog l fn tmps assign body W3 (fun e V'=>∃b,e=.returned (.bool b)/\((b=true/\J (pre.map emb++[emb y]) V'/\KeepsFrom W.heap.size W3 V'/\StaysC W.heap.size 3 W3 V'/\KeepB B0 [Bp] W3 V')\/(b=false/\Jx (pre.map emb++[emb y]) V'/\KeepsFrom W.heap.size W3 V'))):=fun W3 hb3=>by
      obtain⟨fn,tmps,assign,body,hy,hR⟩:=HY.out (pre.map emb) (emb y) W3 (OwnFrom.later hJ hj hb3) ac (by have:=hb3.size;omega);simp only[rowEnc,ap.out]at hy;exact⟨fn,tmps,assign,body,hy,RoundIn.mono (OR (F:=Fence.wide) (fun k d hd=>by cases hd) hR) fun e V' h=>JJ h⟩
     generalize hVd:wr.drew=Vd at*
     gi_wp2_with fail
     gi_region_with_o (first
      |(refine⟨trivial,(CallsIn.inRound l' (callsIn_wide.2 hst)).mono ?_⟩;rintro e W2 ⟨rfl,hb2⟩;have aE:=blk1 (yb.below hb2 hb1.lt);have ag:=a9.trans hb2)
      |(refine⟨trivial,(CallsIn.inRound l' (callsIn_wide.2 (ah _))).mono ?_⟩;rintro e W3 ⟨rfl,hb3⟩;have a6:=ag.trans (hb3.mono ag.size);have aF:=blk1 (hb1.bl a6);obtain⟨fn,tmps,assign,body,hy,hRR⟩:=ai W3 a6)
      |(refine RoundIn.mono hRR ?_;rintro e V' ⟨b,rfl,hpost⟩))
     all_goals
      clear ai hst ah hRR hy
      rcases hpost with ⟨rfl,hJ3,hkf,hst,hk3⟩|⟨rfl,hJx3,hkf⟩
      · gi_wp2
        obtain⟨m1,m2,m3,m4,m5⟩:=Ju (S:=W.heap.size) (V0s:=V0.heap.size) a7 ar hs a3 hk a6 hkf hst hk3;exact⟨m1,m2,by rw[List.map_append];exact hJ3,hb1.at_ m5,m3,m4⟩
      · gi_wp2
        exact⟨(Cf a6).trans (BG hkf (by omega)),rfl,by rw[List.map_append];exact hJx3⟩
 case done=>
  rintro Dd ys V hDd hS ⟨hj,hb1,hk,hs⟩ hK;have HpR:=hid (a0 ys _ (Nat.le_refl _) hS);have hlp:(ys.map emb).length=(L.targets.length+15)/16:=by
   rw[List.length_map];have:=congrArg List.length hS;simpa using this
  generalize ys.map emb=zs at*;have x0:=blk2 (bp.at_ (hk.at_ _ aj));have ax:b2<=maxLen:=(hLW W kW.below).qm;unfold maxLen at ax;have h2:1<=n-1:=by omega
  clear hS a0 a8 ad a5 ae yv kV
  gi_wp2
  gi_loopw [31] (fun x V'=>∃m:Nat,m<=L.data.length/\x=.int .i64 m/\(∃pr,pr.length=(L.targets.length+15)/16+m/\Hid (picked R pr=R.take ((L.targets.length+15)/16+m))/\J pr V')/\Blk V' W.heap.size 65 #[.func (.yield l) #[] #[]]/\KeepB B0 [Bp] w V'/\V'.heap[Dd]? =some (.deferred (some []))/\Hid (V0.heap.size<=V'.heap.size)) (fun x _=>L.data.length-(intOf x).toNat)
  case atStart=>exact⟨0,Nat.zero_le _,rfl,⟨zs,hlp,HpR,hj⟩,hb1,hk,hK,hid hs⟩
  case round=>
   obtain⟨m,hm,rfl,⟨pr,hpl,a1,hJm⟩,hb2,hk2,hK2,hsz⟩:=hrel;have Hpl:=hid hpl;clear hpl x0 hj hb1 hk hK HpR hlp;by_cases hlt:m<L.data.length
   · have hP:=hLW wr hk2.below;obtain⟨c2,o2,e2,cs⟩:=hP.data.str hlt;have am:B2=some ⟨c2,o2,none⟩:=e2;subst am;have cs:=cs m hlt;have hz:(L.targets.length+15)/16+m<R.length:=by omega
     have al:=hid (ao m hlt hz);have Hz:=hid (G8 R pr _ hz a1.out);have yb:=blk1 hb2;obtain⟨fn,tmps,assign,body,hy,hR⟩:=HY.out pr ⟨_,hz⟩ wr hJm (by rw[Hpl.out];exact hz) (by have:=hsz.out;omega);simp only[rowEnc,al.out]at hy;clear hP e2 hJm
     gi_wp2
     refine hR.mono ?_;rintro e W3 (⟨rfl,hJ3,hkf,hst,hk3⟩|⟨rfl,hJx3,hkf⟩)
     · have ak:=hid hJ3;clear hJ3;have ay:=hb2.lt
       gi_wp2
       go_roundw
       case rel=>exact⟨m+1,by omega,by go_num,⟨_,by rw[List.length_append,Hpl.out];rfl,Hz,ak.out⟩,hb2.at_ (hst.2 _ (Nat.le_refl _) (by omega) ay),hk2.trans hk3,hkf.same Dd _ (by omega) hK2 rfl,hid (Nat.le_trans hsz.out hst.1)⟩
       case measure=>simp[intOf];omega
     · have af:=hkf.same Dd _ (by omega) hK2 rfl
       gi_wp2
       refine⟨by simp,.inl ⟨_,_,rfl,run_takeDeferred af,?_⟩⟩;exact⟨_,results_none rfl _ _ _,⟨_,rfl⟩,.inr ⟨_,⟨_,hz,Hz.out⟩,hJx.putObj _ hJx3 (by omega) af rfl⟩⟩
   · obtain rfl:m=L.data.length:=by omega
     gi_wp2
     refine⟨by simp,.inl ⟨_,_,rfl,run_takeDeferred hK2,?_⟩⟩;exact⟨_,results_none rfl _ _ _,⟨_,rfl⟩,.inl ⟨pr,by rw[a1.out,<-aq,List.take_length],hJ.putObj _ hJm (by omega) hK2 rfl⟩⟩
 case stop=>
  rintro Dd c pre V hDd ⟨m,hm,a1⟩ ⟨rfl,hj⟩ hK
  gi_wp2
  refine⟨by simp,.inl ⟨_,_,rfl,run_takeDeferred hK,?_⟩⟩;exact⟨_,results_none rfl _ _ _,⟨_,rfl⟩,.inr ⟨_,⟨m,by omega,a0 pre (m+1) (by omega) a1⟩,hJx.putObj _ hj (by omega) hK rfl⟩⟩
end
end Go.Proofs.YtmiilfnchfdfcaaGreatDoor
