/- Bc: Table10, Table11. -/
import Derived.Test.YtmiilfnchfdfcaaGreatDoorBcTable8
set_option maxRecDepth 100000
set_option maxHeartbeats 40000000
set_option linter.unusedVariables false
namespace Go.Proofs.YtmiilfnchfdfcaaGreatDoor
section
open Go.RowKit Go.Shelf
attribute [local go_sem] Ad Af Ag Ac Ai Ah
theorem Ni {V:World}(t:Int)(h0: -1000000<=t)(h1:t<=1000000)(e:Ext V):Calls Tryz.prog 63 #[.int .i64 t] e.world fun x w'=>x=.returned (.int .i64 (96+2*t))/\Below e.world.heap.size e.world w':=BH t h0 h1 e.world
def PnMade (w0:World)(B:Nat)(g0 g1:Nat)(L0:Pn)(pp qq:Pl)(Y:Pn)(er:Int)(v u:Value)(W:World):Prop:=
 ∃g p3 q3,v=.pointer (some ⟨g,0,none⟩)/\u=.int .i64 er/\w0.heap.size<=g/\Blk W g 63 #[.slice p3.a Y.targets.length p3.c,.slice q3.a Y.data.length q3.c]/\IsPn W Y p3 q3/\(∀h,h<B->PnOff h L0 pp qq->PnOff h Y p3 q3)/\Below w0.heap.size w0 W
theorem Aq {w W W':World}{a0 a1:Addr}{v0 v1:Value}(h:(W.cell? a0=some v0/\W.cell? a1=some v1)/\Below w.heap.size w W)(hb:Below W.heap.size W W'):(W'.cell? a0=some v0/\W'.cell? a1=some v1)/\Below w.heap.size w W':=
 ⟨⟨Au hb h.1.1,Au hb h.1.2⟩,bt h.2 hb⟩
theorem DV {w W:World}{b0 o0 o1:Nat}{v0 v1:Value}(h:(W.cell? ⟨b0,o0,none⟩=some v0/\W.cell? ⟨b0,o1,none⟩=some v1)/\Below w.heap.size w W)
 {g:Nat} (g0:b0≠g) (hg:w.heap.size<=g) (u v:Value):(((W.setCell ⟨g,0,none⟩ u).setCell ⟨g,1,none⟩ v).cell? ⟨b0,o0,none⟩=some v0/\((W.setCell ⟨g,0,none⟩ u).setCell ⟨g,1,none⟩ v).cell? ⟨b0,o1,none⟩=some v1)/\Below w.heap.size w ((W.setCell ⟨g,0,none⟩ u).setCell ⟨g,1,none⟩ v):=by
 have k:∀(b o:Nat)(x:Value),b≠g->W.cell? ⟨b,o,none⟩=some x->((W.setCell ⟨g,0,none⟩ u).setCell ⟨g,1,none⟩ v).cell? ⟨b,o,none⟩=some x:=fun b o x hb h=>by
  rw[World.cell?_setCell_other _ _ _ _ (by intro e;injection e with e;exact hb e.symm),World.cell?_setCell_other _ _ _ _ (by intro e;injection e with e;exact hb e.symm)];exact h
 exact⟨⟨k _ _ _ g0 h.1.1,k _ _ _ g0 h.1.2⟩,Ae h.2 hg u v⟩
theorem OO (D:Dk)(L:Pn)(p q p' q':Pl)(w:World)(hL:IsPn w L p' q')(f t:Int)(h:(f<0\/256<=f)\/(t<0\/256<=t)):
 Calls Tryz.prog 159 #[dval D p q,pval L p' q',.int .i64 f,.int .i64 t] w fun e w'=>RetPn w.heap.size L p' q' (Pn.tabCopy D L f t) e w'/\Below w.heap.size w w':=by
 have Hz:=hid (fun(W:World)(hb:Below w.heap.size w W)=>hL.below hb);have Hr:=hid (show Pn.tabCopy D L f t=(L,10) by rw[Pn.tabCopy,if_pos h]);obtain⟨A1,a1⟩:=p;obtain⟨A2,a2⟩:=q;obtain⟨B1,b1⟩:=p';obtain⟨B2,b2⟩:=q';have hB:=Below.refl w.heap.size w;have x:=Blk.new w 25 #[.string (bs D.data),.slice A1 D.cache.length a1,.int .i64 D.fuse,.bool D.off,.slice A2 D.bad.length a2];have hB_1:=Ya hB x;have z:=Yd hB_1 63 #[.slice B1 L.targets.length b1,.slice B2 L.data.length b2];simp only[Ys]at z;have zk:=blk2 z;have hB_2:=Ya hB_1 z;have x_3:=Yc x hB_2;have r:=Yd hB_2 63 #[.slice none 0 0,.slice none 0 0];simp only[Ys]at r;have rk:=blk2 r;have rkf:=r.fz;have hB_4:=Ya hB_2 r;have x_5:=Yc x_3 hB_4;have z_6:=Yc z hB_4;by_cases h1:f<0\/256<=f
 · have ho:=fun W=>Cz f h1 W
   clear hL h h1;go_enter Tryz.func159,Tryz.ntmps159;go_wp2_with fail
   go_at_call 157;refine((ho _)).mono ?_;rintro e w1 ⟨rfl,hb1⟩;replace hB:=bt hB_4 hb1;replace x:=x_5.below hb1 x_5.lt;replace z:=z_6.below hb1 z_6.lt;replace zk:=blk2 z;replace r:=r.below hb1 r.lt;replace rk:=blk2 r;replace rkf:=r.fz;clear hB_1 hB_2 x_3 hB_4 x_5 z_6;go_wp2_with fail
   rw[Hr.out];have yy:=blk2 (Aj r (.slice B1 L.targets.length b1) (.slice B2 L.data.length b2));have b9:=Ae hB (g:=w.heap.size+1+1) (by omega) (.slice B1 L.targets.length b1) (.slice B2 L.data.length b2);refine bodyPost_ret (v:=.tuple #[pval L ⟨B1,b1⟩ ⟨B2,b2⟩,.int .i64 10]) (by simp[results,Tryz.results159,go_sem,yy]) rfl ?_;exact⟨⟨_,_,rfl,Hz.out _ b9,fun _ _ h=>h⟩,b9⟩
 · have ho:=fun W=>Cg f (by omega) (by omega) W
   have ho2:=fun W=>Cz t (h.resolve_left h1) W
   clear hL h h1;go_enter Tryz.func159,Tryz.ntmps159;go_wp2_with fail
   go_at_call 157;refine((ho _)).mono ?_;rintro e w1 ⟨rfl,hb1⟩;replace hB:=bt hB_4 hb1;replace x:=x_5.below hb1 x_5.lt;replace z:=z_6.below hb1 z_6.lt;replace zk:=blk2 z;replace r:=r.below hb1 r.lt;replace rk:=blk2 r;replace rkf:=r.fz;clear hB_1 hB_2 x_3 hB_4 x_5 z_6;go_wp2_with fail
   go_at_call 157;refine((ho2 _)).mono ?_;rintro e w2 ⟨rfl,hb2⟩;replace hB:=bt hB hb2;replace x:=x.below hb2 x.lt;replace z:=z.below hb2 z.lt;replace zk:=blk2 z;replace r:=r.below hb2 r.lt;replace rk:=blk2 r;replace rkf:=r.fz;go_wp2_with fail
   rw[Hr.out];have yy:=blk2 (Aj r (.slice B1 L.targets.length b1) (.slice B2 L.data.length b2));have b9:=Ae hB (g:=w.heap.size+1+1) (by omega) (.slice B1 L.targets.length b1) (.slice B2 L.data.length b2);refine bodyPost_ret (v:=.tuple #[pval L ⟨B1,b1⟩ ⟨B2,b2⟩,.int .i64 10]) (by simp[results,Tryz.results159,go_sem,yy]) rfl ?_;exact⟨⟨_,_,rfl,Hz.out _ b9,fun _ _ h=>h⟩,b9⟩
theorem OP (D:Dk)(L:Pn)(p q p' q':Pl)(w:World)(hD:IsDk w D p q)(hL:IsPn w L p' q')(hf:D.fit=true)(hfl:L.Fit)(f t:Int)(h:¬((f<0\/256<=f)\/(t<0\/256<=t))):
 Calls Tryz.prog 159 #[dval D p q,pval L p' q',.int .i64 f,.int .i64 t] w fun e w'=>RetPn w.heap.size L p' q' (Pn.tabCopy D L f t) e w'/\Below w.heap.size w w':=by
 have Hap:=hid (fun g (hg:w.heap.size<=g)=>hL.apart hg);have Hz:=hid (fun(W:World)(hb:Below w.heap.size w W)=>hL.below hb);have HzD:=hid (fun(W:World)(hb:Below w.heap.size w W)=>hD.below hb);have Hr:=hid (show Pn.tabCopy D L f t=Pn.set2 L t (fun Q i=>Pn.look D Q (96+2*f+i)) by rw[Pn.tabCopy,if_neg h]);have ho:=fun W=>Cg f (by omega) (by omega) W
 have ho2:=fun W=>Cg t (by omega) (by omega) W
 have Hlk:=hid (fun(W:World)(X:Pn)(pp qq:Pl)(hX:IsPn W X pp qq)(hXf:X.Fit)(hb:Below w.heap.size w W)(k:Int)=>Cw D X p q pp qq W (hD.below hb) hX k ((Dk.fit_parts hf).2.2.1) (by have:=hXf.2.1;omega) hXf.1);have Hlen:=hid (fun(X:Pn)(hX:X.Fit)(k:Int)=>FY hf hX k);have Hfl:=hid hfl;have f0:0<=f:=by omega
 have f1:f<256:=by omega
 have t0:0<=t:=by omega
 have t1:t<256:=by omega
 obtain⟨half,hhalf⟩:∃half:Pn->Int->List UInt8×Int,half=fun Q i=>Pn.look D Q (96+2*f+i):=⟨_,rfl⟩
 rw[<-hhalf]at Hr;have Hh:=hid (fun Q i=>show Pn.look D Q (96+2*f+i)=half Q i by rw[hhalf]);clear hL h hD hf hfl hhalf;obtain⟨A1,a1⟩:=p;obtain⟨A2,a2⟩:=q;obtain⟨B1,b1⟩:=p';obtain⟨B2,b2⟩:=q';have hB:=Below.refl w.heap.size w;have x:=Blk.new w 25 #[.string (bs D.data),.slice A1 D.cache.length a1,.int .i64 D.fuse,.bool D.off,.slice A2 D.bad.length a2];have hB_1:=Ya hB x;have z:=Yd hB_1 63 #[.slice B1 L.targets.length b1,.slice B2 L.data.length b2];simp only[Ys]at z;have zk:=blk2 z;have hB_2:=Ya hB_1 z;have x_3:=Yc x hB_2;have r:=Yd hB_2 63 #[.slice none 0 0,.slice none 0 0];simp only[Ys]at r;have rk:=blk2 r;have hB_4:=Ya hB_2 r;have x_5:=Yc x_3 hB_4;have z_6:=Yc z hB_4;go_enter Tryz.func159,Tryz.ntmps159;go_wp2_with fail
 go_at_call 157;refine((ho _)).mono ?_;rintro e w1 ⟨rfl,hb1⟩;replace hB:=bt hB_4 hb1;replace x:=x_5.below hb1 x_5.lt;replace z:=z_6.below hb1 z_6.lt;replace zk:=blk2 z;replace r:=r.below hb1 r.lt;replace rk:=blk2 r;clear hB_1 hB_2 x_3 hB_4 x_5 z_6;go_wp2_with fail
 go_at_call 157;refine((ho2 _)).mono ?_;rintro e w2 ⟨rfl,hb2⟩;replace hB:=bt hB hb2;replace x:=x.below hb2 x.lt;replace z:=z.below hb2 z.lt;replace zk:=blk2 z;replace r:=r.below hb2 r.lt;replace rk:=blk2 r;have w2l:w.heap.size+1+1<w2.heap.size:=r.lt;go_wp2_with fail
 have y:=Blk.new w2 63 #[.slice B1 L.targets.length b1,.slice B2 L.data.length b2];have yk:=blk2 y;have ykf:=y.fz;have hB_7:=Ya hB y;have x_8:=Yc x hB_7;have xk_8:=blk5 x_8;have z_9:=Yc z hB_7;have zk_9:=blk2 z_9;have r_10:=Yc r hB_7;have rk_10:=blk2 r_10;have rkf_10:=r_10.fz;generalize (w2.alloc (.cells #[.slice B1 L.targets.length b1,.slice B2 L.data.length b2] 63))=V at hB_7 x_8 xk_8 z_9 zk_9 r_10 rk_10 rkf_10 y yk ykf ⊢;clear hB x z r zk rk;have hB:=hB_7;have x:=x_8;have z:=z_9;have zk:=zk_9;have r:=r_10;have rk:=rk_10;clear hB_7 x_8 xk_8 z_9 zk_9 r_10 rk_10 rkf_10;go_loopw [11] (fun v W=>∃i:Nat,i<=2/\v=.int .i64 i/\∃X pp qq,Hid (Pn.st2 L t half i X)/\Hid X.Fit/\IsPn W X pp qq/\Hid (∀g,g<w2.heap.size+1->PnOff g L ⟨B1,b1⟩ ⟨B2,b2⟩->PnOff g X pp qq)/\
  Blk W w.heap.size 25 #[.string (bs D.data),.slice A1 D.cache.length a1,.int .i64 D.fuse,.bool D.off,.slice A2 D.bad.length a2]/\
  Blk W (w.heap.size+1) 63 #[.slice B1 L.targets.length b1,.slice B2 L.data.length b2]/\Blk W (w.heap.size+1+1) 63 #[.slice none 0 0,.slice none 0 0]/\
  Blk W w2.heap.size 63 #[.slice pp.a X.targets.length pp.c,.slice qq.a X.data.length qq.c]/\Below w.heap.size w W) (fun v _=>2-(intOf v).toNat)
 case atStart=>exact⟨0,by omega,rfl,L,⟨B1,b1⟩,⟨B2,b2⟩,hid rfl,Hfl,Hz.out _ hB,hid (fun g _ h=>h),x,z,r,y,hB⟩
 case round=>
  clear x z zk r rk y yk hB;obtain⟨i,hi,rfl,X,⟨P1,c1⟩,⟨P2,c2⟩,hst,hXf,hX,hoff,x,z,r,y,hB⟩:=hrel;have Hap2:=hid (fun g (hg:w.heap.size<=g)(hg':g<w2.heap.size+1)=>hoff.out g hg' (Hap.out g hg));by_cases hlt:i<2
  · have i1:(i:Int)<2:=by omega
    have hl64:=Hlen.out X hXf.out (96+2*f+(i:Int));have hlk:=Hlk.out wr X ⟨P1,c1⟩ ⟨P2,c2⟩ hX hXf.out hB (96+2*f+(i:Int));have hlk:=fun(e:Ext wr)=>Hlk.out e.world X ⟨P1,c1⟩ ⟨P2,c2⟩ (hX.below e.below) hXf.out (bt hB e.below) (96+2*f+(i:Int))
    rw[Hh.out]at hl64;simp only[Hh.out]at hlk;have Herr:=hid (Pn.st2_err (half:=half) hlt hst.out);have Hbad:=hid (Pn.st2_bad (half:=half) hlt hst.out);have Hnext:=hid (Pn.st2_next (half:=half) hlt hst.out);generalize half X i=S at hlk Herr Hbad Hnext hl64;obtain⟨s,er⟩:=S;simp only at hlk hl64;have hE:=Ni (V:=wr) f (by omega) (by omega);have hw1:=i64w (x:=96+2*f+(i:Int)) (by omega);have K1:=ext2 y;have K2:=ext5 x;go_wp2_with fail
    refine Aw mixed (by kernel_rfl) ?_
    repeat (go_big_quiet_step (((first|(go_at_call 63;with_reducible exact Al (hE _))|(go_at_call 71;with_reducible exact Al (hlk _))))))
    refine wpQuiet_nil ?_;rintro w3 ⟨pq_,hpq_⟩;have hb3:=pq_.below;rw[<-hpq_]at hb3;clear hpq_ pq_;clear hlk hE K1 K2 hw1;replace x:=x.below hb3 x.lt;replace z:=z.below hb3 z.lt;replace r:=r.below hb3 r.lt;replace y:=y.below hb3 y.lt;replace hX:=hX.below hb3;replace hB:=bt hB hb3;have yl:w2.heap.size<w3.heap.size:=y.lt;have zk:=blk2 z;have rk:=blk2 r;have yk:=blk2 y;have rf:=r.fz;have yf:=y.fz;by_cases he:er=0
    case neg=>
     have n1:(er !=0)=true:=by simpa using he
     have Hq:=hid (Herr.out he);clear he;go_wp2_with fail
     rw[Hr.out,Hq.out];have yy:=blk2 (Aj r (.slice B1 L.targets.length b1) (.slice B2 L.data.length b2));have b9:=Ae hB (g:=w.heap.size+1+1) (by omega) (.slice B1 L.targets.length b1) (.slice B2 L.data.length b2);refine bodyPost_ret (v:=.tuple #[pval L ⟨B1,b1⟩ ⟨B2,b2⟩,.int .i64 er]) (by simp[results,Tryz.results159,go_sem,yy]) rfl ?_;exact⟨⟨_,_,rfl,Hz.out _ b9,fun _ _ h=>h⟩,b9⟩
    subst he;have Hbad1:=hid (Hbad.out rfl);have Hnext1:=hid (Hnext.out rfl);clear Hbad Hnext Herr;have hw1:=i64w (x:=96+2*t+(i:Int)) (by omega);have hat:=fun W=>BH t (by omega) (by omega) W
    have hs:=fun(W:World)(hb:Below w3.heap.size w3 W)=>Cx X ⟨P1,c1⟩ ⟨P2,c2⟩ W (hX.below hb) (96+2*t+(i:Int)) (by omega) s (by omega) (by have:=hXf.out.2.1;omega) hXf.out.1
    have hYf:=Pn.set_fit hXf.out (96+2*t+(i:Int)) s;generalize X.set (96+2*t+(i:Int)) s=N at hs Hbad1 Hnext1 hYf;obtain⟨Y,er2⟩:=N;simp only at hYf hs;have Hap3:=hid (fun g (hg:w3.heap.size<=g)=>hX.apart hg);have s0:(w3.drew.cell? ⟨w2.heap.size,0,none⟩=some (.slice P1 X.targets.length c1)/\w3.drew.cell? ⟨w2.heap.size,1,none⟩=some (.slice P2 X.data.length c2))/\Below w3.heap.size w3 w3.drew:=⟨yk,(Below.refl _ _).drew⟩;clear zk rk yk;go_upto_region 10 with fail
    go_cut [13,14] (fun s13 s14 wx=>PnMade w3 w3.heap.size w3.heap.size w3.heap.size X ⟨P1,c1⟩ ⟨P2,c2⟩ Y er2 s14 s13 wx)
    case first=>
     go_region_held3 (fun W=>(W.cell? ⟨w2.heap.size,0,none⟩=some (.slice P1 X.targets.length c1)/\W.cell? ⟨w2.heap.size,1,none⟩=some (.slice P2 X.data.length c2))/\Below w3.heap.size w3 W)
      (first|exact s0|exact Aq s0 hbl1|exact Aq (Aq s0 hbl1) hbl2|exact Aq s0 (Yz _)|exact Aq (Aq s0 hbl1) (Yz _)|exact Aq (Aq s0 (Yz _)) hbl1|exact Aq (Aq (Aq s0 hbl1) hbl2) (Yz _)|exact Aq (Aq (Aq s0 hbl1) (Yz _)) hbl2|exact Aq (Aq (Aq s0 (Yz _)) hbl1) hbl2|exact DV (Aq (Aq (Aq s0 hbl1) hbl2) (Yz _)) (by omega) (by first|omega|(simp;omega)) _ _|exact DV (Aq (Aq (Aq s0 hbl1) (Yz _)) hbl2) (by omega) (by first|omega|(simp;omega)) _ _|exact DV (Aq (Aq (Aq s0 (Yz _)) hbl1) hbl2) (by omega) (by first|omega|(simp;omega)) _ _)
      (first|(go_at_call 63;refine(hat _).mono ?_;rintro e W1 ⟨rfl,hbl1⟩;have z1:w3.heap.size<=W1.heap.size:=(by have:=hbl1.size;first|omega|(simp at this;omega));try (have qb1:=((Blk.new w3 63 #[.slice none 0 0,.slice none 0 0]).drew).below hbl1 ((Blk.new w3 63 #[.slice none 0 0,.slice none 0 0]).drew).lt;have qc1:=blk2 qb1;have qf1:=qb1.frozen))|(go_at_call 50;refine(hs _ (by first|exact(Aq s0 hbl1).2|exact(Aq (Aq s0 hbl1) (Yz _)).2|exact(Aq (Aq s0 (Yz _)) hbl1).2)).mono ?_;rintro e W2 ⟨⟨p3,q3,rfl,i3,o3⟩,hbl2⟩;have z2:W1.heap.size<=W2.heap.size:=(by have:=hbl2.size;first|omega|(simp at this;omega));try (first|(have qb2:=qb1.below hbl2 qb1.lt;have qc2:=blk2 qb2;have qf2:=qb2.frozen)|(have qb2:=(Blk.new W1 63 #[.slice none 0 0,.slice none 0 0]).below hbl2 (Blk.new W1 63 #[.slice none 0 0,.slice none 0 0]).lt;have qc2:=blk2 qb2;have qf2:=qb2.frozen))))
     · go_wp2_with fail
       go_meet
       have b9:=(Aq (Aq s0 hbl1) hbl2).2.alloc ((Aq (Aq s0 hbl1) hbl2).2.size) (.cells #[.slice p3.a Y.targets.length p3.c,.slice q3.a Y.data.length q3.c] 63);exact⟨W2.heap.size,p3,q3,rfl,rfl,by omega,Blk.new W2 _ _,i3.below (Yz _),fun h hh ho=>o3 h (by omega) ho,b9⟩
     · go_wp2_with fail
       go_meet
       have b9:=Ae (Aq (Aq (Aq s0 hbl1) (Yz _)) hbl2).2 (g:=W1.heap.size) z1 (.slice p3.a Y.targets.length p3.c) (.slice q3.a Y.data.length q3.c);exact⟨W1.heap.size,p3,q3,rfl,rfl,z1,Aj qb2 _ _,i3.off2 (o3 W1.heap.size (by simp) (Hap3.out _ z1)) _ _,fun h hh ho=>o3 h (by simp;omega) ho,b9⟩
     · go_wp2_with fail
       go_meet
       have b9:=Ae (Aq (Aq (Aq s0 (Yz _)) hbl1) hbl2).2 (g:=w3.heap.size) (Nat.le_refl _) (.slice p3.a Y.targets.length p3.c) (.slice q3.a Y.data.length q3.c);have z3:w3.heap.size<W1.heap.size:=by have:=hbl1.size;simp at this;omega
       exact⟨w3.heap.size,p3,q3,rfl,rfl,Nat.le_refl _,Aj qb2 _ _,i3.off2 (o3 w3.heap.size z3 (Hap3.out _ (Nat.le_refl _))) _ _,fun h hh ho=>o3 h (by omega) ho,b9⟩
    case rest=>
    obtain⟨gu,p3,q3,rfl,rfl,hgu,u,i3,o3,hb5⟩:=hcut;replace x:=x.below hb5 x.lt;replace z:=z.below hb5 z.lt;replace r:=r.below hb5 r.lt;replace y:=y.below hb5 y.lt;replace hB:=bt hB hb5;have oy:=o3 w2.heap.size (by omega) (Hap2.out _ (by omega) (by omega));have or:=o3 (w.heap.size+1+1) (by omega) (Hap2.out _ (by omega) (by omega));clear hX s0 hat hs rf yf;have zk:=blk2 z;have rk:=blk2 r;have yk:=blk2 y;have uk:=blk2 u;have rf:=r.fz;have yf:=y.fz;by_cases he:er2=0
    case neg=>
     have n1:(er2 !=0)=true:=by simpa using he
     have Hq:=hid (Hbad1.out he);clear he;go_wp2_with fail
     rw[Hr.out,Hq.out];have yy:=blk2 (Aj r (.slice B1 L.targets.length b1) (.slice B2 L.data.length b2));have b9:=Ae hB (g:=w.heap.size+1+1) (by omega) (.slice B1 L.targets.length b1) (.slice B2 L.data.length b2);refine bodyPost_ret (v:=.tuple #[pval L ⟨B1,b1⟩ ⟨B2,b2⟩,.int .i64 er2]) (by simp[results,Tryz.results159,go_sem,yy]) rfl ?_;exact⟨⟨_,_,rfl,Hz.out _ b9,fun _ _ h=>h⟩,b9⟩
    subst he;have Hn:=hid (Hnext1.out rfl);have HYf:=hid hYf;clear Hnext1 Hbad1 hYf;go_wp2_with fail
    go_roundw
    case rel=>
     have o4:PnOff w2.heap.size Y p3 q3:=oy;exact⟨i+1,by omega,by go_num,Y,p3,q3,Hn,HYf,i3.off2 o4 _ _,hid (fun g hg h=>o3 g (by omega) (hoff.out g hg h)),AN x (g:=w2.heap.size) (by omega) _ _,AN z (g:=w2.heap.size) (by omega) _ _,AN r (g:=w2.heap.size) (by omega) _ _,Aj y _ _,Ae hB (g:=w2.heap.size) (by omega) _ _⟩
    case measure=>simp[intOf];omega
  · obtain rfl:i=2:=by omega
    have Hq:=hid (show Pn.set2 L t half=(X,0)from hst.out);have or:=Hap2.out (w.heap.size+1+1) (by omega) (by omega);have yk:=blk2 y;have rk:=blk2 r;have rf:=r.fz;go_wp2_with fail
    rw[Hr.out,Hq.out];have yy:=blk2 (Aj r (.slice P1 X.targets.length c1) (.slice P2 X.data.length c2));have b9:=Ae hB (g:=w.heap.size+1+1) (by omega) (.slice P1 X.targets.length c1) (.slice P2 X.data.length c2);refine bodyPost_ret (v:=.tuple #[pval X ⟨P1,c1⟩ ⟨P2,c2⟩,.int .i64 0]) (by simp[results,Tryz.results159,go_sem,yy]) rfl ?_;exact⟨⟨_,_,rfl,hX.off2 or _ _,fun g hg h=>hoff.out g (by omega) h⟩,b9⟩
theorem ON (D:Dk)(L:Pn)(p q p' q':Pl)(w:World)(hD:IsDk w D p q)(hL:IsPn w L p' q')(hf:D.fit=true)(hfl:L.Fit)(f t:Int):
 Calls Tryz.prog 159 #[dval D p q,pval L p' q',.int .i64 f,.int .i64 t] w fun e w'=>RetPn w.heap.size L p' q' (Pn.tabCopy D L f t) e w'/\Below w.heap.size w w':=by
 by_cases h:(f<0\/256<=f)\/(t<0\/256<=t)
 · exact OO D L p q p' q' w hL f t h
 · exact OP D L p q p' q' w hD hL hf hfl f t h
set_option linter.unusedSimpArgs false
def Zr (W:World)(g:Nat):Prop:=∀j,j<64->W.cell? ⟨g,j,none⟩=some (.int .u8 0)
theorem Ih (W:World)(t:TypeId):Zr (W.alloc (.cells (madeCells #[.int .u8 0] 64) t)) W.heap.size:=fun j hj=>by
 have h:=(Blk.new W t (madeCells #[.int .u8 0] 64)).cell j;rw[h];simp[madeCells,hj,Nat.mod_one]
theorem Ic {W:World}{g:Nat}(h:Zr W g)(o:Obj):Zr (W.alloc o) g:=fun j hj=>Au (Yz o) (h j hj)
theorem Ie {W W':World}{g:Nat}(h:Zr W g)(hb:Below W.heap.size W W'):Zr W' g:=fun j hj=>Au hb (h j hj)
theorem EH {W:World}{t:TypeId}{g:Nat}(h:g=W.heap.size):Zr (W.alloc (.cells (madeCells #[.int .u8 0] 64) t)) g:=h▸Ih W t
theorem Id {W:World}{t:TypeId}{g:Nat}{o:Obj}(h:g=W.heap.size):Zr ((W.alloc (.cells (madeCells #[.int .u8 0] 64) t)).alloc o) g:=Ic (EH h) o
theorem Ig {W:World}{g:Nat}(h:Zr W g):Zr W.drew g:=h
theorem Qc {W:World}{t:TypeId}{g:Nat}(h:g=W.heap.size):Zr (W.alloc (.cells (madeCells #[.int .u8 0] 64) t)).drew g:=Ig (EH h)
theorem Qb {W:World}{t:TypeId}{g:Nat}{o:Obj}(h:g=W.heap.size):Zr ((W.alloc (.cells (madeCells #[.int .u8 0] 64) t)).alloc o).drew g:=Ig (Id h)
theorem If {W:World}{g:Nat}(h:Zr W g):(convert 139 9 (.slice (some ⟨g,0,none⟩) 64 64)).run Tryz.prog W=.ok (.string (bs (List.replicate 64 0))) W:=by
 have:=run_convert_bytes_back (P:=Tryz.prog) W 139 9 5 ⟨g,0,none⟩ 64 (List.replicate 64 0) Tryz.underlying139 Tryz.underlying5 Tryz.underlying9 (fun j hj=>by
  have h2:=h j (by simpa using hj);have e:(⟨g,0,none⟩:Addr).add j=⟨g,j,none⟩:=by by_cases hz:j=0<;>simp[Addr.add,hz]
  rw[e,h2,List.getElem_replicate];rfl)
 exact this
theorem Qd (W:World):(Instr.makeSlice 139 (.int .i64 64) (.int .i64 64)).run Tryz.prog W=.ok (.slice (some ⟨W.heap.size,0,none⟩) 64 64) (W.alloc (.cells (madeCells #[.int .u8 0] 64) 5)):=by
 obtain⟨i0,hi,hz0,hz1,hz2⟩:=info_parts Tryz.infoByte;have:=Ce (P:=Tryz.prog) 139 5 i0 (.int .u8 0) Tryz.underlying139 hi hz0 .i64 .i64 64 64 (Nat.le_refl _) (by rw[hz2];omega) (by omega) W;rw[hz1]at this;exact this
section
variable {P:Program} {ops:Array Oper} {Q:Exit->Act->World->Prop} {md:Region.Mode} {S:World->Prop} {late:Nat->Bool}
theorem PU {i j k:Nat}{o o1 o2:Oper}{fuel:Nat}{listed:Array Bool}{a:Act}{w₀:World}(hr:Region.ready md ops listed=[i,j,k])(ho:ops[i]? =some o)(hg:o.guard=none)(ho1:ops[j]? =some o1)(hg1:o1.guard=none)(ho2:ops[k]? =some o2)(hg2:o2.guard=none)
 (h:∀K':Act->World->Prop,(∀a w,(late i=false->S w₀->S w)->wpLate P md ops Q S late fuel (listed.setIfInBounds i true) a w->K' a w)->o.wp P a w₀ K' Q)
 (h1:∀K':Act->World->Prop,(∀a w,(late j=false->S w₀->S w)->wpLate P md ops Q S late fuel (listed.setIfInBounds j true) a w->K' a w)->o1.wp P a w₀ K' Q)
 (h2:∀K':Act->World->Prop,(∀a w,(late k=false->S w₀->S w)->wpLate P md ops Q S late fuel (listed.setIfInBounds k true) a w->K' a w)->o2.wp P a w₀ K' Q):wpLate P md ops Q S late (fuel+1) listed a w₀:=
 ⟨fun h0=>(by rw[hr]at h0;cases h0),fun x hx=>by
  rw[hr]at hx
  rcases List.mem_cons.1 hx with hx|hx
  · rw[hx];refine wpOp_step ho fun K' hK=>?_
    rw[if_pos (by simp[Region.wanted,hg])];exact h K' fun a w h1 h2=>hK a w ⟨h1,h2⟩
  rcases List.mem_cons.1 hx with hx|hx
  · rw[hx];refine wpOp_step ho1 fun K' hK=>?_
    rw[if_pos (by simp[Region.wanted,hg1])];exact h1 K' fun a w h1 h2=>hK a w ⟨h1,h2⟩
  · rw[List.mem_singleton.1 hx];refine wpOp_step ho2 fun K' hK=>?_
    rw[if_pos (by simp[Region.wanted,hg2])];exact h2 K' fun a w h1 h2=>hK a w ⟨h1,h2⟩⟩
theorem H6 (i j k:Nat){o o1 o2:Oper}{fuel:Nat}{listed:Array Bool}{a:Act}{w₀:World}(hr:Region.ready md ops listed=[i,j,k])(ho:ops[i]? =some o)(hg:o.guard=none)(ho1:ops[j]? =some o1)(hg1:o1.guard=none)(ho2:ops[k]? =some o2)(hg2:o2.guard=none)
 (h:∀K':Act->World->Prop,(∀a w,(late i=false->S w₀->S w)->wpLate P md ops Q S late fuel (listed.setIfInBounds i true) a w->K' a w)->Up i (o.wp P a w₀ K' Q))
 (h1:∀K':Act->World->Prop,(∀a w,(late j=false->S w₀->S w)->wpLate P md ops Q S late fuel (listed.setIfInBounds j true) a w->K' a w)->Up j (o1.wp P a w₀ K' Q))
 (h2:∀K':Act->World->Prop,(∀a w,(late k=false->S w₀->S w)->wpLate P md ops Q S late fuel (listed.setIfInBounds k true) a w->K' a w)->Up k (o2.wp P a w₀ K' Q)):
 wpLate P md ops Q S late (fuel+1) listed a w₀:=PU hr ho hg ho1 hg1 ho2 hg2 (fun K' hK=>(h K' hK).out) (fun K' hK=>(h1 K' hK).out) fun K' hK=>(h2 K' hK).out
theorem Gd {o:Oper}{a:Act}{w w':World}{f:FuncId}{args:Array Value}{K:Act->World->Prop}(hr:(execOp a.eval o).run P w=.ok (.enter f args) w')
 (h:Calls P f args w' fun e w''=>∃v,e=.returned v/\K (a.put o.dst v) w''):o.wp P a w K Q:=by
 simp only[Oper.wp,hr,Oper.upon];refine h.mono ?_;rintro e w'' ⟨v,rfl,hv⟩;exact hv
end
theorem OI (L:Pn)(p' q':Pl)(w:World)(hL:IsPn w L p' q')(t:Int)(h:t<0\/256<=t):
 Calls Tryz.prog 158 #[pval L p' q',.int .i64 t] w fun e w'=>RetPn w.heap.size L p' q' (Pn.tabBlank L t) e w'/\Below w.heap.size w w':=by
 have Hz:=hid (fun(W:World)(hb:Below w.heap.size w W)=>hL.below hb);have Hr:=hid (show Pn.tabBlank L t=(L,10) by rw[Pn.tabBlank,if_pos h]);have ho:=fun W=>Cz t h W
 clear hL h;obtain⟨B1,b1⟩:=p';obtain⟨B2,b2⟩:=q';have hB:=Below.refl w.heap.size w;have z:=Blk.new w 63 #[.slice B1 L.targets.length b1,.slice B2 L.data.length b2];have zk:=blk2 z;have hB_1:=Ya hB z;have r:=Yd hB_1 63 #[.slice none 0 0,.slice none 0 0];simp only[Ys]at r;have rk:=blk2 r;have rkf:=r.fz;have hB_2:=Ya hB_1 r;have z_3:=Yc z hB_2;have zk_3:=blk2 z_3;go_enter Tryz.func158,Tryz.ntmps158;go_wp2_with fail
 go_at_call 157;refine((ho _)).mono ?_;rintro e w1 ⟨rfl,hb1⟩;replace hB:=bt hB_2 hb1;replace z:=z_3.below hb1 z_3.lt;replace zk:=blk2 z;replace r:=r.below hb1 r.lt;replace rk:=blk2 r;replace rkf:=r.fz;clear hB_1 hB_2 zk_3 z_3;have rl:w.heap.size+1<w1.heap.size:=r.lt;go_wp2_with fail
 rw[Hr.out];have yy:=blk2 (Aj r (.slice B1 L.targets.length b1) (.slice B2 L.data.length b2));have b9:=Ae hB (g:=w.heap.size+1) (by omega) (.slice B1 L.targets.length b1) (.slice B2 L.data.length b2);refine bodyPost_ret (v:=.tuple #[pval L ⟨B1,b1⟩ ⟨B2,b2⟩,.int .i64 10]) (by simp[results,Tryz.results158,go_sem,yy]) rfl ?_;exact⟨⟨_,_,rfl,Hz.out _ b9,fun _ _ h=>h⟩,b9⟩
attribute [local go_sem] EH Id Qc Qb Ic If Qd
theorem OJ (L:Pn)(p' q':Pl)(w:World)(hL:IsPn w L p' q')(hfl:L.Fit)(t:Int)(h:¬(t<0\/256<=t)):
 Calls Tryz.prog 158 #[pval L p' q',.int .i64 t] w fun e w'=>RetPn w.heap.size L p' q' (Pn.tabBlank L t) e w'/\Below w.heap.size w w':=by
 have Hap:=hid (fun g (hg:w.heap.size<=g)=>hL.apart hg);have Hz:=hid (fun(W:World)(hb:Below w.heap.size w W)=>hL.below hb);have Hr:=hid (show Pn.tabBlank L t=Pn.set2 L t (fun _ _=>(List.replicate 64 0,0)) by rw[Pn.tabBlank,if_neg h]);have ho:=fun W=>Cg t (by omega) (by omega) W
 have Hfl:=hid hfl;have t0:0<=t:=by omega
 have t1:t<256:=by omega
 clear hL h hfl;obtain⟨B1,b1⟩:=p';obtain⟨B2,b2⟩:=q';have hB:=Below.refl w.heap.size w;have z:=Blk.new w 63 #[.slice B1 L.targets.length b1,.slice B2 L.data.length b2];have zk:=blk2 z;have hB_1:=Ya hB z;have r:=Yd hB_1 63 #[.slice none 0 0,.slice none 0 0];simp only[Ys]at r;have rk:=blk2 r;have rkf:=r.fz;have hB_2:=Ya hB_1 r;have z_3:=Yc z hB_2;have zk_3:=blk2 z_3;go_enter Tryz.func158,Tryz.ntmps158;go_wp2_with fail
 go_at_call 157;refine((ho _)).mono ?_;rintro e w2 ⟨rfl,hb2⟩;replace hB:=bt hB_2 hb2;replace z:=z_3.below hb2 z_3.lt;replace zk:=blk2 z;replace r:=r.below hb2 r.lt;replace rk:=blk2 r;replace rkf:=r.fz;clear hB_1 hB_2 zk_3 z_3;have w2l:w.heap.size+1<w2.heap.size:=r.lt;go_wp2_with fail
 have y:=Blk.new w2 63 #[.slice B1 L.targets.length b1,.slice B2 L.data.length b2];have yk:=blk2 y;have ykf:=y.fz;have hB_4:=Ya hB y;have z_5:=Yc z hB_4;have zk_5:=blk2 z_5;have r_6:=Yc r hB_4;have rk_6:=blk2 r_6;have rkf_6:=r_6.fz;generalize (w2.alloc (.cells #[.slice B1 L.targets.length b1,.slice B2 L.data.length b2] 63))=V at hB_4 z_5 zk_5 r_6 rk_6 rkf_6 y yk ykf ⊢;clear hB z r zk rk rkf;have hB:=hB_4;have z:=z_5;have zk:=zk_5;have r:=r_6;have rk:=rk_6;have rkf:=rkf_6;clear hB_4 z_5 zk_5 r_6 rk_6 rkf_6;have wl:=hB.size;go_loopw [7] (fun v W=>∃i:Nat,i<=2/\v=.int .i64 i/\∃X pp qq,Hid (Pn.st2 L t (fun _ _=>(List.replicate 64 0,0)) i X)/\Hid X.Fit/\IsPn W X pp qq/\Hid (∀g,g<w2.heap.size+1->PnOff g L ⟨B1,b1⟩ ⟨B2,b2⟩->PnOff g X pp qq)/\
  Blk W w.heap.size 63 #[.slice B1 L.targets.length b1,.slice B2 L.data.length b2]/\Blk W (w.heap.size+1) 63 #[.slice none 0 0,.slice none 0 0]/\
  Blk W w2.heap.size 63 #[.slice pp.a X.targets.length pp.c,.slice qq.a X.data.length qq.c]/\Below w.heap.size w W) (fun v _=>2-(intOf v).toNat)
 case atStart=>exact⟨0,by omega,rfl,L,⟨B1,b1⟩,⟨B2,b2⟩,hid rfl,Hfl,Hz.out _ hB,hid (fun g _ h=>h),z,r,y,hB⟩
 case round=>
  clear z zk r rk y yk hB wl;obtain⟨i,hi,rfl,X,⟨P1,c1⟩,⟨P2,c2⟩,hst,hXf,hX,hoff,z,r,y,hB⟩:=hrel;have Hap2:=hid (fun g (hg:w.heap.size<=g)(hg':g<w2.heap.size+1)=>hoff.out g hg' (Hap.out g hg));by_cases hlt:i<2
  · have i1:(i:Int)<2:=by omega
    have Hbad:=hid (Pn.st2_bad (half:=fun _ _=>(List.replicate 64 0,0)) hlt hst.out);have Hnext:=hid (Pn.st2_next (half:=fun _ _=>(List.replicate 64 0,0)) hlt hst.out);have Hbad1:=hid (Hbad.out rfl);have Hnext1:=hid (Hnext.out rfl);clear Hbad Hnext;have hw1:=i64w (x:=96+2*t+(i:Int)) (by omega);have hat:=fun W=>BH t (by omega) (by omega) W
    have hs:=fun(W:World)(hb:Below wr.heap.size wr W)=>Cx X ⟨P1,c1⟩ ⟨P2,c2⟩ W (hX.below hb) (96+2*t+(i:Int)) (by omega) (List.replicate 64 0) (by simp) (by have:=hXf.out.2.1;omega) hXf.out.1
    have hYf:=Pn.set_fit hXf.out (96+2*t+(i:Int)) (List.replicate 64 0);generalize X.set (96+2*t+(i:Int)) (List.replicate 64 0)=N at hs Hbad1 Hnext1 hYf;obtain⟨Y,er2⟩:=N;simp only at hYf hs;have yk:=blk2 y;have hYf:=hid hYf;generalize hw3:wr=w3 at*;have Hap3:=hid (fun g (hg:w3.heap.size<=g)=>hX.apart hg);have yl:w2.heap.size<w3.heap.size:=y.lt;have s0:(w3.drew.cell? ⟨w2.heap.size,0,none⟩=some (.slice P1 X.targets.length c1)/\w3.drew.cell? ⟨w2.heap.size,1,none⟩=some (.slice P2 X.data.length c2))/\Below w3.heap.size w3 w3.drew:=⟨yk,(Below.refl _ _).drew⟩;have s00:(w3.cell? ⟨w2.heap.size,0,none⟩=some (.slice P1 X.targets.length c1)/\w3.cell? ⟨w2.heap.size,1,none⟩=some (.slice P2 X.data.length c2))/\Below w3.heap.size w3 w3:=⟨s0.1,Below.refl _ _⟩;have b0:=s0.2;have hsz:w3.drew.heap.size=w3.heap.size:=rfl;have Hsz:=hid hsz;clear hsz yk;go_upto_region 7 with fail
    go_cut [8,9] (fun s8 s9 wx=>PnMade w3 w3.heap.size w3.heap.size w3.heap.size X ⟨P1,c1⟩ ⟨P2,c2⟩ Y er2 s8 s9 wx)
    case first=>
     refine AQ (S:=fun W=>(W.cell? ⟨w2.heap.size,0,none⟩=some (.slice P1 X.targets.length c1)/\W.cell? ⟨w2.heap.size,1,none⟩=some (.slice P2 X.data.length c2))/\Below w3.heap.size w3 W) (late:=fun i=>i==12) (by kernel_rfl) ?_;generalize w3.drew=U at s0 ⊢;have s:=s0;clear s0;have z:=trivial;have b:=trivial;have i3:=trivial;simp only[Nat.reduceAdd,Yn];refine Yu 0 (some 20) (pval X ⟨P1,c1⟩ ⟨P2,c2⟩) rfl (by kernel_rfl) (fun _ _ _ h=>h) (fun W hW=>by have h:=hW.1;go_simp) s ?_;simp only[Yf];refine Yt 1 21 (.int .i64 t) rfl (by kernel_rfl) (fun _ _ _ h=>h) (fun W=>by first|rfl|go_simp) ?_;simp only[Yf];refine Yt 3 23 (.int .i64 (i:Int)) rfl (by kernel_rfl) (fun _ _ _ h=>h) (fun W=>by first|rfl|go_simp) ?_;simp only[Yf]
     repeat' first
      |refine H6 2 5 11 (by decide+kernel) rfl rfl rfl rfl rfl rfl (fun K hK=>?_) (fun K hK=>?_) (fun K hK=>?_)
      |refine H6 2 6 11 (by decide+kernel) rfl rfl rfl rfl rfl rfl (fun K hK=>?_) (fun K hK=>?_) (fun K hK=>?_)
      |refine Be 2 5 (by decide+kernel) rfl rfl rfl rfl (fun K hK=>?_) (fun K hK=>?_)
      |refine Be 2 6 (by decide+kernel) rfl rfl rfl rfl (fun K hK=>?_) (fun K hK=>?_)
      |refine Be 2 11 (by decide+kernel) rfl rfl rfl rfl (fun K hK=>?_) (fun K hK=>?_)
      |refine Be 5 11 (by decide+kernel) rfl rfl rfl rfl (fun K hK=>?_) (fun K hK=>?_)
      |refine Be 6 11 (by decide+kernel) rfl rfl rfl rfl (fun K hK=>?_) (fun K hK=>?_)
      |refine Be 7 11 (by decide+kernel) rfl rfl rfl rfl (fun K hK=>?_) (fun K hK=>?_)
      |refine AT 2 (by decide+kernel) rfl rfl (fun K hK=>?_)
      |refine AT 5 (by decide+kernel) rfl rfl (fun K hK=>?_)
      |refine AT 6 (by decide+kernel) rfl rfl (fun K hK=>?_)
      |refine AT 7 (by decide+kernel) rfl rfl (fun K hK=>?_)
      |refine AT 11 (by decide+kernel) rfl rfl (fun K hK=>?_)
      |refine AT 12 (by decide+kernel) rfl rfl (fun K hK=>?_)
      |(refine up 2 ?_
       refine Gd (f:=63) (args:=#[.int .i64 t]) (w':=U) (by go_simp) ((hat U).mono ?_);rintro e U ⟨rfl,hb⟩;refine⟨_,rfl,?_⟩;show K (Act.put _ (some 22) _) _;replace s:=Aq s hb
       (try replace z:=Ie z hb)
       (try replace b:=Blk.below b hb (Blk.lt b))
       refine hK _ _ (fun _ _=>s) ?_;simp only[Yf];refine Yt 4 24 (.int .i64 (96+2*t+(i:Int))) rfl (by kernel_rfl) (fun _ _ _ h=>h) (fun W=>by first|rfl|go_simp) ?_;simp only[Yf])
      |(refine up 5 ?_
       refine AF (v:=.slice (some ⟨U.heap.size,0,none⟩) 64 64) (w':=U.alloc (.cells (madeCells #[.int .u8 0] 64) 5)) (by go_simp) ?_;show K (Act.put _ (some 25) _) _;have hb:=CZ U (.cells (madeCells #[.int .u8 0] 64) 5);replace s:=Aq s hb;replace z:=Ih U 5
       (try replace b:=Blk.below b hb (Blk.lt b))
       (try replace i3:=IsPn.below i3 hb)
       refine hK _ _ (fun _ _=>s) ?_;simp only[Yf];generalize U.heap.size=gz at z ⊢;generalize U.alloc (.cells (madeCells #[.int .u8 0] 64) 5)=U at*)
      |(refine up 6 ?_
       refine AF (v:=.string (bs (List.replicate 64 0))) (w':=U) (by have h:=If z;go_simp) ?_;show K (Act.put _ (some 26) _) _;refine hK _ _ (fun _ h=>h) ?_;simp only[Yf])
      |(refine up 7 ?_
       refine Gd (f:=50) (args:=#[pval X ⟨P1,c1⟩ ⟨P2,c2⟩,.int .i64 (96+2*t+(i:Int)),.string (bs (List.replicate 64 0))]) (w':=U) (by go_simp) ((hs U s.2).mono ?_);clear i3;rintro e U ⟨⟨p3,q3,rfl,i3,o3⟩,hb⟩
       have o4:∀h,h<w3.heap.size->PnOff h X ⟨P1,c1⟩ ⟨P2,c2⟩->PnOff h Y p3 q3:=fun h hh ho=>o3 h (Nat.lt_of_lt_of_le hh s.2.size) ho
       (try (have hz:Blk _ _ _ _:=b;have oB:=o3 gb b.lt (Hap3.out gb gb0)))
       clear o3;refine⟨_,rfl,?_⟩;show K (Act.put _ (some 27) _) _;replace s:=Aq s hb
       (try replace b:=Blk.below b hb (Blk.lt b))
       refine hK _ _ (fun _ _=>s) ?_;simp only[Yf];refine Yt 8 19 (.tuple #[pval Y p3 q3,.int .i64 er2]) rfl (by kernel_rfl) (fun _ _ _ h=>h) (fun W=>by first|rfl|go_simp) ?_;simp only[Yf];refine Yt 9 28 (pval Y p3 q3) rfl (by kernel_rfl) (fun _ _ _ h=>h) (fun W=>by first|rfl|go_simp) ?_;simp only[Yf];refine Yt 10 29 (.int .i64 er2) rfl (by kernel_rfl) (fun _ _ _ h=>h) (fun W=>by first|rfl|go_simp) ?_;simp only[Yf])
      |(refine up 11 ?_
       refine AF (v:=.pointer (some ⟨U.heap.size,0,none⟩)) (w':=U.alloc (.cells #[.slice none 0 0,.slice none 0 0] 63)) (by go_simp) ?_;show K (Act.put _ (some 8) _) _;have hb:=CZ U (.cells #[.slice none 0 0,.slice none 0 0] 63);have gb0:w3.heap.size<=U.heap.size:=s.2.size;replace s:=Aq s hb
       (try replace z:=Ie z hb)
       replace b:=Blk.new U 63 #[.slice none 0 0,.slice none 0 0]
       (try (have hz:IsPn _ _ _ _:=i3;have oB:=i3.apart (g:=U.heap.size) (Nat.le_refl _)))
       (try replace i3:=IsPn.below i3 hb)
       refine hK _ _ (fun _ _=>s) ?_;simp only[Yf];clear hb;generalize U.heap.size=gb at*;generalize U.alloc (.cells #[.slice none 0 0,.slice none 0 0] 63)=U at*)
      |(refine up 12 ?_
       have Yy:=Aj b (.slice p3.a Y.targets.length p3.c) (.slice q3.a Y.data.length q3.c);refine Yq Yy (by have H:=Yk2 b Yy;go_simp) ?_;show K (Act.put _ none _) _;have b':=Aj b (.slice p3.a Y.targets.length p3.c) (.slice q3.a Y.data.length q3.c);have bw:=Ym2 s.2 Yy gb0;replace i3:=i3.off2 oB (.slice p3.a Y.targets.length p3.c) (.slice q3.a Y.data.length q3.c);refine hK _ _ (fun h=>by cases h) ?_
       (try simp only[Yf])
       refine Yt 13 9 (.int .i64 er2) rfl (by kernel_rfl) (fun _ _ _ h=>h) (fun W=>by first|rfl|go_simp) ?_;simp only[Yf];refine AA (by kernel_rfl) ?_ _;go_wp2_with fail
       go_meet
       exact⟨gb,p3,q3,rfl,rfl,gb0,b',i3,o4,bw⟩)
    case rest=>
    obtain⟨gu,p3,q3,rfl,rfl,hgu,u,i3,o3,hb5⟩:=hcut;have w2l':=hB.size;replace z:=z.below hb5 z.lt;replace r:=r.below hb5 r.lt;replace y:=y.below hb5 y.lt;replace hB:=bt hB hb5;have oy:=o3 w2.heap.size (by omega) (Hap2.out _ (by omega) (by omega));have or:=o3 (w.heap.size+1) (by omega) (Hap2.out _ (by omega) (by omega));have rl2:w.heap.size+1<wc.heap.size:=r.lt;have yl2:w2.heap.size<wc.heap.size:=y.lt;clear hX s0 s00 b0 hat hs;have zk:=blk2 z;have rk:=blk2 r;have yk:=blk2 y;have uk:=blk2 u;have rf:=r.fz;have yf:=y.fz;have ne1:¬gu=w2.heap.size:=by omega
    have ne2:¬w2.heap.size=gu:=by omega
    have ne3:¬gu=w.heap.size+1:=by omega
    have ne4:¬w.heap.size+1=gu:=by omega
    by_cases he:er2=0
    case neg=>
     have n1:(er2 !=0)=true:=by simpa using he
     have Hq:=hid (Hbad1.out he);clear he;go_wp2_with fail
     rw[Hr.out,Hq.out];have yy:=blk2 (Aj r (.slice B1 L.targets.length b1) (.slice B2 L.data.length b2));have b9:=Ae hB (g:=w.heap.size+1) (by omega) (.slice B1 L.targets.length b1) (.slice B2 L.data.length b2);refine bodyPost_ret (v:=.tuple #[pval L ⟨B1,b1⟩ ⟨B2,b2⟩,.int .i64 er2]) (by simp[results,Tryz.results158,go_sem,yy]) rfl ?_;exact⟨⟨_,_,rfl,Hz.out _ b9,fun _ _ h=>h⟩,b9⟩
    subst he;have Hn:=hid (Hnext1.out rfl);have HYf:=hid hYf.out;clear Hnext1 Hbad1 hYf;go_wp2_with fail
    go_roundw
    case rel=>
     have o4:PnOff w2.heap.size Y p3 q3:=oy;exact⟨i+1,by omega,by go_num,Y,p3,q3,Hn,HYf,i3.off2 o4 _ _,hid (fun g hg h=>o3 g (by omega) (hoff.out g hg h)),AN z (g:=w2.heap.size) (by omega) _ _,AN r (g:=w2.heap.size) (by omega) _ _,Aj y _ _,Ae hB (g:=w2.heap.size) (by omega) _ _⟩
    case measure=>simp[intOf];omega
  · obtain rfl:i=2:=by omega
    have Hq:=hid (show Pn.set2 L t (fun _ _=>(List.replicate 64 0,0))=(X,0)from hst.out);have or:=Hap2.out (w.heap.size+1) (by omega) (by omega);have yk:=blk2 y;have rk:=blk2 r;have rf:=r.fz;have rl:w.heap.size+1<wr.heap.size:=r.lt;go_wp2_with fail
    rw[Hr.out,Hq.out];have yy:=blk2 (Aj r (.slice P1 X.targets.length c1) (.slice P2 X.data.length c2));have b9:=Ae hB (g:=w.heap.size+1) (by omega) (.slice P1 X.targets.length c1) (.slice P2 X.data.length c2);refine bodyPost_ret (v:=.tuple #[pval X ⟨P1,c1⟩ ⟨P2,c2⟩,.int .i64 0]) (by simp[results,Tryz.results158,go_sem,yy]) rfl ?_;exact⟨⟨_,_,rfl,hX.off2 or _ _,fun g hg h=>hoff.out g (by omega) h⟩,b9⟩
theorem OH (L:Pn)(p' q':Pl)(w:World)(hL:IsPn w L p' q')(hfl:L.Fit)(t:Int):
 Calls Tryz.prog 158 #[pval L p' q',.int .i64 t] w fun e w'=>RetPn w.heap.size L p' q' (Pn.tabBlank L t) e w'/\Below w.heap.size w w':=by
 by_cases h:t<0\/256<=t
 · exact OI L p' q' w hL t h
 · exact OJ L p' q' w hL hfl t h
end
end Go.Proofs.YtmiilfnchfdfcaaGreatDoor
