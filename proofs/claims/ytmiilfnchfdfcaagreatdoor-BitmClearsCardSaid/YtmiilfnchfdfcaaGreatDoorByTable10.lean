/- By: Table10. -/
import Derived.Test.YtmiilfnchfdfcaaGreatDoorByTable8
set_option maxRecDepth 100000
set_option maxHeartbeats 40000000
set_option linter.unusedVariables false
namespace Go.Proofs.YtmiilfnchfdfcaaGreatDoor
section
open Go.RowKit Go.Shelf
attribute [local go_sem] Ad Ag Ah Ac Aj Ai
theorem Nd {V:World}(t:Int)(h0: -1000000<=t)(h1:t<=1000000)(e:Ext V):Calls Tryz.prog 63 #[.int .i64 t] e.world fun x w'=>x=.returned (.int .i64 (96+2*t))/\Below e.world.heap.size e.world w':=BH t h0 h1 e.world
def PnMade (w0:World)(B:Nat)(g0 g1:Nat)(L0:Pn)(pp qq:Pl)(Y:Pn)(er:Int)(v u:Value)(W:World):Prop:=
 ∃g p3 q3,v=.pointer (some ⟨g,0,none⟩)/\u=.int .i64 er/\w0.heap.size<=g/\Blk W g 63 #[.slice p3.a Y.targets.length p3.c,.slice q3.a Y.data.length q3.c]/\IsPn W Y p3 q3/\(∀h,h<B->PnOff h L0 pp qq->PnOff h Y p3 q3)/\Below w0.heap.size w0 W
theorem Ak {w W W':World}{a0 a1:Addr}{v0 v1:Value}(h:(W.cell? a0=some v0/\W.cell? a1=some v1)/\Below w.heap.size w W)(hb:Below W.heap.size W W'):(W'.cell? a0=some v0/\W'.cell? a1=some v1)/\Below w.heap.size w W':=
 ⟨⟨Av hb h.1.1,Av hb h.1.2⟩,bt h.2 hb⟩
theorem DW {w W:World}{b0 o0 o1:Nat}{v0 v1:Value}(h:(W.cell? ⟨b0,o0,none⟩=some v0/\W.cell? ⟨b0,o1,none⟩=some v1)/\Below w.heap.size w W)
 {g:Nat} (g0:b0≠g) (hg:w.heap.size<=g) (u v:Value):(((W.setCell ⟨g,0,none⟩ u).setCell ⟨g,1,none⟩ v).cell? ⟨b0,o0,none⟩=some v0/\((W.setCell ⟨g,0,none⟩ u).setCell ⟨g,1,none⟩ v).cell? ⟨b0,o1,none⟩=some v1)/\Below w.heap.size w ((W.setCell ⟨g,0,none⟩ u).setCell ⟨g,1,none⟩ v):=by
 have k:∀(b o:Nat)(x:Value),b≠g->W.cell? ⟨b,o,none⟩=some x->((W.setCell ⟨g,0,none⟩ u).setCell ⟨g,1,none⟩ v).cell? ⟨b,o,none⟩=some x:=fun b o x hb h=>by
  rw[World.cell?_setCell_other _ _ _ _ (by intro e;injection e with e;exact hb e.symm),World.cell?_setCell_other _ _ _ _ (by intro e;injection e with e;exact hb e.symm)];exact h
 exact⟨⟨k _ _ _ g0 h.1.1,k _ _ _ g0 h.1.2⟩,Af h.2 hg u v⟩
theorem OI (D:Dk)(L:Pn)(p q p' q':Pl)(w:World)(hL:IsPn w L p' q')(f t:Int)(h:(f<0\/256<=f)\/(t<0\/256<=t)):
 Calls Tryz.prog 159 #[dval D p q,pval L p' q',.int .i64 f,.int .i64 t] w fun e w'=>RetPn w.heap.size L p' q' (Pn.tabCopy D L f t) e w'/\Below w.heap.size w w':=by
 have Hz:=hid (fun(W:World)(hb:Below w.heap.size w W)=>hL.below hb);have Hr:=hid (show Pn.tabCopy D L f t=(L,10) by rw[Pn.tabCopy,if_pos h]);obtain⟨A1,a1⟩:=p;obtain⟨A2,a2⟩:=q;obtain⟨B1,b1⟩:=p';obtain⟨B2,b2⟩:=q';have hB:=Below.refl w.heap.size w;have x:=Blk.new w 25 #[.string (bs D.data),.slice A1 D.cache.length a1,.int .i64 D.fuse,.bool D.off,.slice A2 D.bad.length a2];have hB_1:=Ya hB x;have z:=Yd hB_1 63 #[.slice B1 L.targets.length b1,.slice B2 L.data.length b2];simp only[Ys]at z;have zk:=blk2 z;have hB_2:=Ya hB_1 z;have x_3:=Yc x hB_2;have r:=Yd hB_2 63 #[.slice none 0 0,.slice none 0 0];simp only[Ys]at r;have rk:=blk2 r;have rkf:=r.fz;have hB_4:=Ya hB_2 r;have x_5:=Yc x_3 hB_4;have z_6:=Yc z hB_4;by_cases h1:f<0\/256<=f
 · have ho:=fun W=>CB f h1 W
   clear hL h h1;go_enter Tryz.func159,Tryz.ntmps159;go_wp2_with fail
   go_at_call 157;refine((ho _)).mono ?_;rintro e w1 ⟨rfl,hb1⟩;replace hB:=bt hB_4 hb1;replace x:=x_5.below hb1 x_5.lt;replace z:=z_6.below hb1 z_6.lt;replace zk:=blk2 z;replace r:=r.below hb1 r.lt;replace rk:=blk2 r;replace rkf:=r.fz;clear hB_1 hB_2 x_3 hB_4 x_5 z_6;go_wp2_with fail
   rw[Hr.out];have yy:=blk2 (Ae r (.slice B1 L.targets.length b1) (.slice B2 L.data.length b2));have b9:=Af hB (g:=w.heap.size+1+1) (by omega) (.slice B1 L.targets.length b1) (.slice B2 L.data.length b2);refine bodyPost_ret (v:=.tuple #[pval L ⟨B1,b1⟩ ⟨B2,b2⟩,.int .i64 10]) (by simp[results,Tryz.results159,go_sem,yy]) rfl ?_;exact⟨⟨_,_,rfl,Hz.out _ b9,fun _ _ h=>h⟩,b9⟩
 · have ho:=fun W=>Ch f (by omega) (by omega) W
   have ho2:=fun W=>CB t (h.resolve_left h1) W
   clear hL h h1;go_enter Tryz.func159,Tryz.ntmps159;go_wp2_with fail
   go_at_call 157;refine((ho _)).mono ?_;rintro e w1 ⟨rfl,hb1⟩;replace hB:=bt hB_4 hb1;replace x:=x_5.below hb1 x_5.lt;replace z:=z_6.below hb1 z_6.lt;replace zk:=blk2 z;replace r:=r.below hb1 r.lt;replace rk:=blk2 r;replace rkf:=r.fz;clear hB_1 hB_2 x_3 hB_4 x_5 z_6;go_wp2_with fail
   go_at_call 157;refine((ho2 _)).mono ?_;rintro e w2 ⟨rfl,hb2⟩;replace hB:=bt hB hb2;replace x:=x.below hb2 x.lt;replace z:=z.below hb2 z.lt;replace zk:=blk2 z;replace r:=r.below hb2 r.lt;replace rk:=blk2 r;replace rkf:=r.fz;go_wp2_with fail
   rw[Hr.out];have yy:=blk2 (Ae r (.slice B1 L.targets.length b1) (.slice B2 L.data.length b2));have b9:=Af hB (g:=w.heap.size+1+1) (by omega) (.slice B1 L.targets.length b1) (.slice B2 L.data.length b2);refine bodyPost_ret (v:=.tuple #[pval L ⟨B1,b1⟩ ⟨B2,b2⟩,.int .i64 10]) (by simp[results,Tryz.results159,go_sem,yy]) rfl ?_;exact⟨⟨_,_,rfl,Hz.out _ b9,fun _ _ h=>h⟩,b9⟩
theorem OJ (D:Dk)(L:Pn)(p q p' q':Pl)(w:World)(hD:IsDk w D p q)(hL:IsPn w L p' q')(hf:D.fit=true)(hfl:L.Fit)(f t:Int)(h:¬((f<0\/256<=f)\/(t<0\/256<=t))):
 Calls Tryz.prog 159 #[dval D p q,pval L p' q',.int .i64 f,.int .i64 t] w fun e w'=>RetPn w.heap.size L p' q' (Pn.tabCopy D L f t) e w'/\Below w.heap.size w w':=by
 have Hap:=hid (fun g (hg:w.heap.size<=g)=>hL.apart hg);have Hz:=hid (fun(W:World)(hb:Below w.heap.size w W)=>hL.below hb);have HzD:=hid (fun(W:World)(hb:Below w.heap.size w W)=>hD.below hb);have Hr:=hid (show Pn.tabCopy D L f t=Pn.set2 L t (fun Q i=>Pn.look D Q (96+2*f+i)) by rw[Pn.tabCopy,if_neg h]);have ho:=fun W=>Ch f (by omega) (by omega) W
 have ho2:=fun W=>Ch t (by omega) (by omega) W
 have Hlk:=hid (fun(W:World)(X:Pn)(pp qq:Pl)(hX:IsPn W X pp qq)(hXf:X.Fit)(hb:Below w.heap.size w W)(k:Int)=>Cy D X p q pp qq W (hD.below hb) hX k ((Dk.fit_parts hf).2.2.1) (by have:=hXf.2.1;omega) hXf.1);have Hlen:=hid (fun(X:Pn)(hX:X.Fit)(k:Int)=>FZ hf hX k);have Hfl:=hid hfl;have f0:0<=f:=by omega
 have f1:f<256:=by omega
 have t0:0<=t:=by omega
 have t1:t<256:=by omega
 obtain⟨half,hhalf⟩:∃half:Pn->Int->List UInt8×Int,half=fun Q i=>Pn.look D Q (96+2*f+i):=⟨_,rfl⟩
 rw[<-hhalf]at Hr;have Hh:=hid (fun Q i=>show Pn.look D Q (96+2*f+i)=half Q i by rw[hhalf]);clear hL h hD hf hfl hhalf;obtain⟨A1,a1⟩:=p;obtain⟨A2,a2⟩:=q;obtain⟨B1,b1⟩:=p';obtain⟨B2,b2⟩:=q';have hB:=Below.refl w.heap.size w;have x:=Blk.new w 25 #[.string (bs D.data),.slice A1 D.cache.length a1,.int .i64 D.fuse,.bool D.off,.slice A2 D.bad.length a2];have hB_1:=Ya hB x;have z:=Yd hB_1 63 #[.slice B1 L.targets.length b1,.slice B2 L.data.length b2];simp only[Ys]at z;have zk:=blk2 z;have hB_2:=Ya hB_1 z;have x_3:=Yc x hB_2;have r:=Yd hB_2 63 #[.slice none 0 0,.slice none 0 0];simp only[Ys]at r;have rk:=blk2 r;have hB_4:=Ya hB_2 r;have x_5:=Yc x_3 hB_4;have z_6:=Yc z hB_4;go_enter Tryz.func159,Tryz.ntmps159;go_wp2_with fail
 go_at_call 157;refine((ho _)).mono ?_;rintro e w1 ⟨rfl,hb1⟩;replace hB:=bt hB_4 hb1;replace x:=x_5.below hb1 x_5.lt;replace z:=z_6.below hb1 z_6.lt;replace zk:=blk2 z;replace r:=r.below hb1 r.lt;replace rk:=blk2 r;clear hB_1 hB_2 x_3 hB_4 x_5 z_6;go_wp2_with fail
 go_at_call 157;refine((ho2 _)).mono ?_;rintro e w2 ⟨rfl,hb2⟩;replace hB:=bt hB hb2;replace x:=x.below hb2 x.lt;replace z:=z.below hb2 z.lt;replace zk:=blk2 z;replace r:=r.below hb2 r.lt;replace rk:=blk2 r;have w2l:w.heap.size+1+1<w2.heap.size:=r.lt;go_wp2_with fail
 have y:=Blk.new w2 63 #[.slice B1 L.targets.length b1,.slice B2 L.data.length b2];have yk:=blk2 y;have ykf:=y.fz;have hB_7:=Ya hB y;have x_8:=Yc x hB_7;have xk_8:=blk5 x_8;have z_9:=Yc z hB_7;have zk_9:=blk2 z_9;have r_10:=Yc r hB_7;have rk_10:=blk2 r_10;have rkf_10:=r_10.fz;generalize (w2.alloc (.cells #[.slice B1 L.targets.length b1,.slice B2 L.data.length b2] 63))=V at hB_7 x_8 xk_8 z_9 zk_9 r_10 rk_10 rkf_10 y yk ykf ⊢;clear hB x z r zk rk;have hB:=hB_7;have x:=x_8;have z:=z_9;have zk:=zk_9;have r:=r_10;have rk:=rk_10;clear hB_7 x_8 xk_8 z_9 zk_9 r_10 rk_10 rkf_10;go_loopw [11] (fun v W=>∃i:Nat,i<=2/\v=.int .i64 i/\∃X pp qq,Hid (Pn.st2 L t half i X)/\Hid X.Fit/\IsPn W X pp qq/\Hid (∀g,g<w2.heap.size+1->PnOff g L ⟨B1,b1⟩ ⟨B2,b2⟩->PnOff g X pp qq)/\
  Blk W w.heap.size 25 #[.string (bs D.data),.slice A1 D.cache.length a1,.int .i64 D.fuse,.bool D.off,.slice A2 D.bad.length a2]/\
  Blk W (w.heap.size+1) 63 #[.slice B1 L.targets.length b1,.slice B2 L.data.length b2]/\Blk W (w.heap.size+1+1) 63 #[.slice none 0 0,.slice none 0 0]/\
  Blk W w2.heap.size 63 #[.slice pp.a X.targets.length pp.c,.slice qq.a X.data.length qq.c]/\Below w.heap.size w W) (fun v _=>2-(intOf v).toNat)
 case atStart=>exact⟨0,by omega,rfl,L,⟨B1,b1⟩,⟨B2,b2⟩,hid rfl,Hfl,Hz.out _ hB,hid (fun g _ h=>h),x,z,r,y,hB⟩
 case round=>
  clear x z zk r rk y yk hB;obtain⟨i,hi,rfl,X,⟨P1,c1⟩,⟨P2,c2⟩,hst,hXf,hX,hoff,x,z,r,y,hB⟩:=hrel;have Hap2:=hid (fun g (hg:w.heap.size<=g)(hg':g<w2.heap.size+1)=>hoff.out g hg' (Hap.out g hg));by_cases hlt:i<2
  · have i1:(i:Int)<2:=by omega
    have hl64:=Hlen.out X hXf.out (96+2*f+(i:Int));have hlk:=Hlk.out wr X ⟨P1,c1⟩ ⟨P2,c2⟩ hX hXf.out hB (96+2*f+(i:Int));have hlk:=fun(e:Ext wr)=>Hlk.out e.world X ⟨P1,c1⟩ ⟨P2,c2⟩ (hX.below e.below) hXf.out (bt hB e.below) (96+2*f+(i:Int))
    rw[Hh.out]at hl64;simp only[Hh.out]at hlk;have Herr:=hid (Pn.st2_err (half:=half) hlt hst.out);have Hbad:=hid (Pn.st2_bad (half:=half) hlt hst.out);have Hnext:=hid (Pn.st2_next (half:=half) hlt hst.out);generalize half X i=S at hlk Herr Hbad Hnext hl64;obtain⟨s,er⟩:=S;simp only at hlk hl64;have hE:=Nd (V:=wr) f (by omega) (by omega);have hw1:=i64w (x:=96+2*f+(i:Int)) (by omega);have K1:=ext2 y;have K2:=ext5 x;go_wp2_with fail
    refine Ay mixed (by kernel_rfl) ?_
    repeat (go_big_quiet_step (((first|(go_at_call 63;with_reducible exact Al (hE _))|(go_at_call 71;with_reducible exact Al (hlk _))))))
    refine wpQuiet_nil ?_;rintro w3 ⟨pq_,hpq_⟩;have hb3:=pq_.below;rw[<-hpq_]at hb3;clear hpq_ pq_;clear hlk hE K1 K2 hw1;replace x:=x.below hb3 x.lt;replace z:=z.below hb3 z.lt;replace r:=r.below hb3 r.lt;replace y:=y.below hb3 y.lt;replace hX:=hX.below hb3;replace hB:=bt hB hb3;have yl:w2.heap.size<w3.heap.size:=y.lt;have zk:=blk2 z;have rk:=blk2 r;have yk:=blk2 y;have rf:=r.fz;have yf:=y.fz;by_cases he:er=0
    case neg=>
     have n1:(er !=0)=true:=by simpa using he
     have Hq:=hid (Herr.out he);clear he;go_wp2_with fail
     rw[Hr.out,Hq.out];have yy:=blk2 (Ae r (.slice B1 L.targets.length b1) (.slice B2 L.data.length b2));have b9:=Af hB (g:=w.heap.size+1+1) (by omega) (.slice B1 L.targets.length b1) (.slice B2 L.data.length b2);refine bodyPost_ret (v:=.tuple #[pval L ⟨B1,b1⟩ ⟨B2,b2⟩,.int .i64 er]) (by simp[results,Tryz.results159,go_sem,yy]) rfl ?_;exact⟨⟨_,_,rfl,Hz.out _ b9,fun _ _ h=>h⟩,b9⟩
    subst he;have Hbad1:=hid (Hbad.out rfl);have Hnext1:=hid (Hnext.out rfl);clear Hbad Hnext Herr;have hw1:=i64w (x:=96+2*t+(i:Int)) (by omega);have hat:=fun W=>BH t (by omega) (by omega) W
    have hs:=fun(W:World)(hb:Below w3.heap.size w3 W)=>Cz X ⟨P1,c1⟩ ⟨P2,c2⟩ W (hX.below hb) (96+2*t+(i:Int)) (by omega) s (by omega) (by have:=hXf.out.2.1;omega) hXf.out.1
    have hYf:=Pn.set_fit hXf.out (96+2*t+(i:Int)) s;generalize X.set (96+2*t+(i:Int)) s=N at hs Hbad1 Hnext1 hYf;obtain⟨Y,er2⟩:=N;simp only at hYf hs;have Hap3:=hid (fun g (hg:w3.heap.size<=g)=>hX.apart hg);have s0:(w3.drew.cell? ⟨w2.heap.size,0,none⟩=some (.slice P1 X.targets.length c1)/\w3.drew.cell? ⟨w2.heap.size,1,none⟩=some (.slice P2 X.data.length c2))/\Below w3.heap.size w3 w3.drew:=⟨yk,(Below.refl _ _).drew⟩;clear zk rk yk;go_upto_region 10 with fail
    go_cut [13,14] (fun s13 s14 wx=>PnMade w3 w3.heap.size w3.heap.size w3.heap.size X ⟨P1,c1⟩ ⟨P2,c2⟩ Y er2 s14 s13 wx)
    case first=>
     go_region_held3 (fun W=>(W.cell? ⟨w2.heap.size,0,none⟩=some (.slice P1 X.targets.length c1)/\W.cell? ⟨w2.heap.size,1,none⟩=some (.slice P2 X.data.length c2))/\Below w3.heap.size w3 W)
      (first|exact s0|exact Ak s0 hbl1|exact Ak (Ak s0 hbl1) hbl2|exact Ak s0 (Yz _)|exact Ak (Ak s0 hbl1) (Yz _)|exact Ak (Ak s0 (Yz _)) hbl1|exact Ak (Ak (Ak s0 hbl1) hbl2) (Yz _)|exact Ak (Ak (Ak s0 hbl1) (Yz _)) hbl2|exact Ak (Ak (Ak s0 (Yz _)) hbl1) hbl2|exact DW (Ak (Ak (Ak s0 hbl1) hbl2) (Yz _)) (by omega) (by first|omega|(simp;omega)) _ _|exact DW (Ak (Ak (Ak s0 hbl1) (Yz _)) hbl2) (by omega) (by first|omega|(simp;omega)) _ _|exact DW (Ak (Ak (Ak s0 (Yz _)) hbl1) hbl2) (by omega) (by first|omega|(simp;omega)) _ _)
      (first|(go_at_call 63;refine(hat _).mono ?_;rintro e W1 ⟨rfl,hbl1⟩;have z1:w3.heap.size<=W1.heap.size:=(by have:=hbl1.size;first|omega|(simp at this;omega));try (have qb1:=((Blk.new w3 63 #[.slice none 0 0,.slice none 0 0]).drew).below hbl1 ((Blk.new w3 63 #[.slice none 0 0,.slice none 0 0]).drew).lt;have qc1:=blk2 qb1;have qf1:=qb1.frozen))|(go_at_call 50;refine(hs _ (by first|exact(Ak s0 hbl1).2|exact(Ak (Ak s0 hbl1) (Yz _)).2|exact(Ak (Ak s0 (Yz _)) hbl1).2)).mono ?_;rintro e W2 ⟨⟨p3,q3,rfl,i3,o3⟩,hbl2⟩;have z2:W1.heap.size<=W2.heap.size:=(by have:=hbl2.size;first|omega|(simp at this;omega));try (first|(have qb2:=qb1.below hbl2 qb1.lt;have qc2:=blk2 qb2;have qf2:=qb2.frozen)|(have qb2:=(Blk.new W1 63 #[.slice none 0 0,.slice none 0 0]).below hbl2 (Blk.new W1 63 #[.slice none 0 0,.slice none 0 0]).lt;have qc2:=blk2 qb2;have qf2:=qb2.frozen))))
     · go_wp2_with fail
       go_meet
       have b9:=(Ak (Ak s0 hbl1) hbl2).2.alloc ((Ak (Ak s0 hbl1) hbl2).2.size) (.cells #[.slice p3.a Y.targets.length p3.c,.slice q3.a Y.data.length q3.c] 63);exact⟨W2.heap.size,p3,q3,rfl,rfl,by omega,Blk.new W2 _ _,i3.below (Yz _),fun h hh ho=>o3 h (by omega) ho,b9⟩
     · go_wp2_with fail
       go_meet
       have b9:=Af (Ak (Ak (Ak s0 hbl1) (Yz _)) hbl2).2 (g:=W1.heap.size) z1 (.slice p3.a Y.targets.length p3.c) (.slice q3.a Y.data.length q3.c);exact⟨W1.heap.size,p3,q3,rfl,rfl,z1,Ae qb2 _ _,i3.off2 (o3 W1.heap.size (by simp) (Hap3.out _ z1)) _ _,fun h hh ho=>o3 h (by simp;omega) ho,b9⟩
     · go_wp2_with fail
       go_meet
       have b9:=Af (Ak (Ak (Ak s0 (Yz _)) hbl1) hbl2).2 (g:=w3.heap.size) (Nat.le_refl _) (.slice p3.a Y.targets.length p3.c) (.slice q3.a Y.data.length q3.c);have z3:w3.heap.size<W1.heap.size:=by have:=hbl1.size;simp at this;omega
       exact⟨w3.heap.size,p3,q3,rfl,rfl,Nat.le_refl _,Ae qb2 _ _,i3.off2 (o3 w3.heap.size z3 (Hap3.out _ (Nat.le_refl _))) _ _,fun h hh ho=>o3 h (by omega) ho,b9⟩
    case rest=>
    obtain⟨gu,p3,q3,rfl,rfl,hgu,u,i3,o3,hb5⟩:=hcut;replace x:=x.below hb5 x.lt;replace z:=z.below hb5 z.lt;replace r:=r.below hb5 r.lt;replace y:=y.below hb5 y.lt;replace hB:=bt hB hb5;have oy:=o3 w2.heap.size (by omega) (Hap2.out _ (by omega) (by omega));have or:=o3 (w.heap.size+1+1) (by omega) (Hap2.out _ (by omega) (by omega));clear hX s0 hat hs rf yf;have zk:=blk2 z;have rk:=blk2 r;have yk:=blk2 y;have uk:=blk2 u;have rf:=r.fz;have yf:=y.fz;by_cases he:er2=0
    case neg=>
     have n1:(er2 !=0)=true:=by simpa using he
     have Hq:=hid (Hbad1.out he);clear he;go_wp2_with fail
     rw[Hr.out,Hq.out];have yy:=blk2 (Ae r (.slice B1 L.targets.length b1) (.slice B2 L.data.length b2));have b9:=Af hB (g:=w.heap.size+1+1) (by omega) (.slice B1 L.targets.length b1) (.slice B2 L.data.length b2);refine bodyPost_ret (v:=.tuple #[pval L ⟨B1,b1⟩ ⟨B2,b2⟩,.int .i64 er2]) (by simp[results,Tryz.results159,go_sem,yy]) rfl ?_;exact⟨⟨_,_,rfl,Hz.out _ b9,fun _ _ h=>h⟩,b9⟩
    subst he;have Hn:=hid (Hnext1.out rfl);have HYf:=hid hYf;clear Hnext1 Hbad1 hYf;go_wp2_with fail
    go_roundw
    case rel=>
     have o4:PnOff w2.heap.size Y p3 q3:=oy;exact⟨i+1,by omega,by go_num,Y,p3,q3,Hn,HYf,i3.off2 o4 _ _,hid (fun g hg h=>o3 g (by omega) (hoff.out g hg h)),AP x (g:=w2.heap.size) (by omega) _ _,AP z (g:=w2.heap.size) (by omega) _ _,AP r (g:=w2.heap.size) (by omega) _ _,Ae y _ _,Af hB (g:=w2.heap.size) (by omega) _ _⟩
    case measure=>simp[intOf];omega
  · obtain rfl:i=2:=by omega
    have Hq:=hid (show Pn.set2 L t half=(X,0)from hst.out);have or:=Hap2.out (w.heap.size+1+1) (by omega) (by omega);have yk:=blk2 y;have rk:=blk2 r;have rf:=r.fz;go_wp2_with fail
    rw[Hr.out,Hq.out];have yy:=blk2 (Ae r (.slice P1 X.targets.length c1) (.slice P2 X.data.length c2));have b9:=Af hB (g:=w.heap.size+1+1) (by omega) (.slice P1 X.targets.length c1) (.slice P2 X.data.length c2);refine bodyPost_ret (v:=.tuple #[pval X ⟨P1,c1⟩ ⟨P2,c2⟩,.int .i64 0]) (by simp[results,Tryz.results159,go_sem,yy]) rfl ?_;exact⟨⟨_,_,rfl,hX.off2 or _ _,fun g hg h=>hoff.out g (by omega) h⟩,b9⟩
theorem OH (D:Dk)(L:Pn)(p q p' q':Pl)(w:World)(hD:IsDk w D p q)(hL:IsPn w L p' q')(hf:D.fit=true)(hfl:L.Fit)(f t:Int):
 Calls Tryz.prog 159 #[dval D p q,pval L p' q',.int .i64 f,.int .i64 t] w fun e w'=>RetPn w.heap.size L p' q' (Pn.tabCopy D L f t) e w'/\Below w.heap.size w w':=by
 by_cases h:(f<0\/256<=f)\/(t<0\/256<=t)
 · exact OI D L p q p' q' w hL f t h
 · exact OJ D L p q p' q' w hD hL hf hfl f t h
end
end Go.Proofs.YtmiilfnchfdfcaaGreatDoor
