/- BitmDoes: images with a dirty bitmap more, without one, with an empty one, and whose bitmaps are saved and loaded, are the document's: any fit image of few writes, any name. The listed variables of unicode/utf8 start as the program's text lays them (a tied card). No condition. -/
import Derived.Test.YtmiilfnchfdfcaaGreatDoorBeImg8
import Derived.Test.YtmiilfnchfdfcaaGreatDoorCards
import Derived.Test.YtmiilfnchfdfcaaGreatDoorTie
import Derived.LaidMore
set_option maxRecDepth 100000
set_option maxHeartbeats 40000000
set_option linter.unusedVariables false
namespace Go.Proofs.YtmiilfnchfdfcaaGreatDoor.bitmDoes
section
open Go.RowKit Go.Shelf Go.WideShapes Go.ChangeShapes Go.ChangeAt Go.Joins
open Go.ChangeMaps (open_string shut_string)
attribute [local go_sem] Ad Af Ag Ab Ai Ah
theorem QQ (D:Dk)(g h:Int)(j:Jr)(maps:List Dm)(br:Bool)(p q r:Pl)(nm:List UInt8)(w:World)(hI:IsIm0 w D g h j maps p q r)(hg:goodI D g h j maps=false):
 CR 4 #[Cd D g h j maps br p q r,.string (bs nm)] w (.bool true):=by
 have hG:=fun(W:World)(hb:Below w.heap.size w W)=>Gu D g h j maps br p q r W (hI.below hb)
 rw[hg]at hG;clear hI hg;obtain⟨sq,pos⟩:=j;obtain⟨A1,a1⟩:=p;obtain⟨A2,a2⟩:=q;obtain⟨A3,a3⟩:=r;have hB:=Y0 w;obtain⟨x,xk⟩:=Z11 (Am (Blk.new w 33) D A1 a1 A2 a2 g h sq pos A3 maps.length a3 br);have a0:=Ya hB x;go_enter Tryz.func4,Tryz.ntmps4;go_wp2_with fail
 refine((hG _ a0)).mono ?_;rintro e w1 ⟨rfl,hb1⟩;replace hB:=bt a0 hb1;replace x:=x.bl hb1;replace xk:=Aa x;clear a0;go_wp2_with fail
 refine((Fq _)).mono ?_;rintro e w2 ⟨rfl,hb2⟩;replace hB:=bt hB hb2;replace x:=x.bl hb2;replace xk:=Aa x;go_wp2_with fail
 go_ret
 exact⟨rfl,hB⟩
theorem Fz (x:Im)(nm:List UInt8)(m:Dm)(e:Int):(x.bmPut nm m e).1.maps=x.maps:=by
 unfold Im.bmPut
 repeat' split
 all_goals first|rfl|exact Im.done_maps _ _
theorem Ld (x:Im)(nm:List UInt8):(x.bmAdd nm).1.maps.length<=x.maps.length+1:=by
 unfold Im.bmAdd
 repeat' split
 all_goals first|(simp[Im.withMaps];done)|(rw[Fz];omega)|(show x.maps.length<=_;omega)
theorem Lg (x:Im)(nm:List UInt8):(x.bmRemove nm).1.maps.length<=x.maps.length:=by
 unfold Im.bmRemove
 repeat' split
 all_goals first|exact Nat.le_refl _|exact List.length_eraseIdx_le _ _|(rw[Fz];exact Nat.le_refl _)
theorem Le (x:Im)(nm:List UInt8):(x.bmClear nm).1.maps.length<=x.maps.length:=by
 unfold Im.bmClear
 repeat' split
 all_goals first|exact Nat.le_refl _|(simp[Im.withMaps];done)
theorem Lh (x:Im):x.bmSave.1.maps.length<=x.maps.length:=by
 unfold Im.bmSave Im.flushed
 repeat' split
 all_goals first|exact Nat.le_refl _|exact Nat.zero_le _|(rw[Im.done_maps];exact Nat.le_refl _)|(show((x.done _).1).maps.length<=_;rw[Im.done_maps];exact Nat.le_refl _)
theorem Lf (x:Im):x.bmLoad.1.maps.length<=x.maps.length+2:=by
 have hf:=Bw x.d Pn.none;have h:=(Ey _ hf.2.1 hf.2.2 _ (Nat.le_refl _)).len;rw[GJ]at h;have h2:=hf.1;unfold Im.bmLoad
 repeat' split
 all_goals first|(show x.maps.length<=_;omega)|(show(Im.loadAll _).1.2.length<=_;omega)|(rw[Im.done_maps];omega)
structure BoxIm (W:World) (t:TypeId) (g:Nat) (V:Im) (p q r:Pl):Prop where
 b:Blk W g t #[.string (bs V.d.data),.slice p.a V.d.cache.length p.c,.int .i64 V.d.fuse,.bool V.d.off,.slice q.a V.d.bad.length q.c,.int .i64 V.g,.int .i64 V.h,.int .u64 V.j.seq,.int .i64 V.j.pos,.slice r.a V.maps.length r.c,.bool V.br]
 i:IsIm W V p q r
theorem BoxIm.below {W W':World}{t:TypeId}{g:Nat}{V:Im}{p q r:Pl}(h:BoxIm W t g V p q r)(hb:Below W.heap.size W W'):BoxIm W' t g V p q r:=⟨h.b.below hb h.b.lt,h.i.below hb⟩
theorem BoxIm.new {W:World}{V:Im}{p q r:Pl}(h:IsIm W V p q r)(t:TypeId):BoxIm (W.alloc (.cells #[.string (bs V.d.data),.slice p.a V.d.cache.length p.c,.int .i64 V.d.fuse,.bool V.d.off,.slice q.a V.d.bad.length q.c,.int .i64 V.g,.int .i64 V.h,.int .u64 V.j.seq,.int .i64 V.j.pos,.slice r.a V.maps.length r.c,.bool V.br] t)) t W.heap.size V p q r:=⟨Blk.new _ _ _,h.below (BH _ _)⟩
theorem QR (D:Dk)(g:Int)(h:Nat)(j:Jr)(maps:List Dm)(br:Bool)(p q r:Pl)(nm:List UInt8)(hnm:nm.length<=maxLen)(w:World)(hI0:IsIm0 w D g h j maps p q r)(hg:goodI D g h j maps=true)(hI:IsIm w ⟨D,g,h,j,maps,br⟩ p q r)(ok:(⟨D,g,h,j,maps,br⟩:Im).Ok):
 CR 4 #[Cd D g h j maps br p q r,.string (bs nm)] w (.bool true):=by
 have hG:=fun(W:World)(hb:Below w.heap.size w W)=>Gu D g h j maps br p q r W (hI0.below hb)
 rw[hg]at hG;obtain⟨X,hX⟩:∃X,(⟨D,g,h,j,maps,br⟩:Im)=X:=⟨_,rfl⟩;have bn:X.maps.length<=2:=by rw[<-hX];exact ok.maps
 rw[hX]at hI ok;have H1:=hid (fun(W:World)(hb:Below w.heap.size w W)=>FA X p q r W (hI.below hb) ok nm hnm);have H2:=hid (fun(W:World)(hb:Below w.heap.size w W)=>NO X p q r W (hI.below hb) ok nm hnm);have H3:=hid (fun(W:World)(hb:Below w.heap.size w W)=>JI X p q r W (hI.below hb) ok nm hnm);have H4:=hid (fun(W:World)(hb:Below w.heap.size w W)=>NS X p q r W (hI.below hb) ok nm hnm);have H5:=hid (fun(W:World)(hb:Below w.heap.size w W)=>JE X p q r W (hI.below hb) ok nm hnm);have H6:=hid (fun(W:World)(hb:Below w.heap.size w W)=>NP X p q r W (hI.below hb) ok nm hnm);have H7:=hid (fun(W:World)(hb:Below w.heap.size w W)=>FD X p q r W (hI.below hb) ok);have H8:=hid (fun(W:World)(hb:Below w.heap.size w W)=>NT X p q r W (hI.below hb) ok);have H9:=hid (fun(W:World)(hb:Below w.heap.size w W)=>D7 X p q r W (hI.below hb) ok);have bd:=hid (fun(W:World)(hb:Below w.heap.size w W)=>NQ X p q r W (hI.below hb) ok);have n1:=Ld X nm;replace n1:=hid (show(X.bmAdd nm).1.maps.length<=1000000 by omega);generalize X.bmAdd nm=V1 at H1 H2 n1;obtain⟨V1,e1⟩:=V1;simp only at H1 H2 n1;have n2:=Lg X nm;replace n2:=hid (show(X.bmRemove nm).1.maps.length<=1000000 by omega);generalize X.bmRemove nm=V2 at H3 H4 n2;obtain⟨V2,e2⟩:=V2;simp only at H3 H4 n2;have n3:=Le X nm;replace n3:=hid (show(X.bmClear nm).1.maps.length<=1000000 by omega);generalize X.bmClear nm=V3 at H5 H6 n3;obtain⟨V3,e3⟩:=V3;simp only at H5 H6 n3;have n4:=Lh X;replace n4:=hid (show(X.bmSave).1.maps.length<=1000000 by omega);generalize X.bmSave=V4 at H7 H8 n4;obtain⟨V4,e4⟩:=V4;simp only at H7 H8 n4;have n5:=Lf X;replace n5:=hid (show(X.bmLoad).1.maps.length<=1000000 by omega);generalize X.bmLoad=V5 at H9 bd n5;obtain⟨V5,e5⟩:=V5;simp only at H9 bd n5;subst hX;clear bn hI0 hg hI ok;obtain⟨sq,pos⟩:=j;obtain⟨A1,a1⟩:=p;obtain⟨A2,a2⟩:=q;obtain⟨A3,a3⟩:=r;have hB:=Y0 w;obtain⟨x,xk⟩:=Z11 (Am (Blk.new w 33) D A1 a1 A2 a2 g h sq pos A3 maps.length a3 br);have aX:=Ya hB x;go_enter Tryz.func4,Tryz.ntmps4;go_wp2_with fail
 refine((hG _ aX)).mono ?_;rintro e w0 ⟨rfl,hb0⟩;replace hB:=bt aX hb0;replace x:=x.bl hb0;replace xk:=Aa x;clear aX;clear hG;go_wp2_with fail
 refine((H1.out _ hB)).mono ?_;rintro e w1 ⟨⟨p1,q1,r1,rfl,i1,o1⟩,hb1⟩;replace hB:=bt hB hb1;replace x:=x.bl hb1;replace xk:=Aa x;clear o1 H1;have af:=Am (fun A=>hB.alloc hB.size (.cells A 33)) V1.d p1.a p1.c q1.a q1.c V1.g V1.h V1.j.seq V1.j.pos r1.a V1.maps.length r1.c V1.br;obtain⟨bj,bg⟩:=Z11 (Yc x af);have k1:=BoxIm.new i1 33;clear i1;go_wp2_with fail
 refine((H2.out _ af)).mono ?_;rintro e w2 ⟨⟨p2,q2,r2,rfl,i2,o2⟩,hb2⟩;replace hB:=bt af hb2;replace x:=bj.bl hb2;replace xk:=Aa x;replace k1:=k1.below hb2;clear af bg bj;clear o2 H2;have ae:=Am (fun A=>hB.alloc hB.size (.cells A 33)) V1.d p2.a p2.c q2.a q2.c V1.g V1.h V1.j.seq V1.j.pos r2.a V1.maps.length r2.c V1.br;obtain⟨bk,bh⟩:=Z11 (Yc x ae);have aY:=k1.below (Yb ae);have k2:=BoxIm.new i2 33;clear i2;go_wp2_with fail
 refine((H3.out _ ae)).mono ?_;rintro e w3 ⟨⟨p3,q3,r3,rfl,i3,o3⟩,hb3⟩;replace hB:=bt ae hb3;replace x:=bk.bl hb3;replace xk:=Aa x;replace k1:=aY.below hb3;replace k2:=k2.below hb3;clear ae bh bk aY;clear o3 H3;have ac:=Am (fun A=>hB.alloc hB.size (.cells A 33)) V2.d p3.a p3.c q3.a q3.c V2.g V2.h V2.j.seq V2.j.pos r3.a V2.maps.length r3.c V2.br;obtain⟨bm,bi⟩:=Z11 (Yc x ac);have aZ:=k1.below (Yb ac);have am:=k2.below (Yb ac);have k3:=BoxIm.new i3 33;clear i3;go_wp2_with fail
 refine((H4.out _ ac)).mono ?_;rintro e w4 ⟨⟨p4,q4,r4,rfl,i4,o4⟩,hb4⟩;replace hB:=bt ac hb4;replace x:=bm.bl hb4;replace xk:=Aa x;replace k1:=aZ.below hb4;replace k2:=am.below hb4;replace k3:=k3.below hb4;clear ac bi bm aZ am;clear o4 H4;have a9:=Am (fun A=>hB.alloc hB.size (.cells A 33)) V2.d p4.a p4.c q4.a q4.c V2.g V2.h V2.j.seq V2.j.pos r4.a V2.maps.length r4.c V2.br;obtain⟨b0,b6⟩:=Z11 (Yc x a9);have ag:=k1.below (Yb a9);have an:=k2.below (Yb a9);have av:=k3.below (Yb a9);have k4:=BoxIm.new i4 33;clear i4;go_wp2_with fail
 refine((H5.out _ a9)).mono ?_;rintro e w5 ⟨⟨p5,q5,r5,rfl,i5,o5⟩,hb5⟩;replace hB:=bt a9 hb5;replace x:=b0.bl hb5;replace xk:=Aa x;replace k1:=ag.below hb5;replace k2:=an.below hb5;replace k3:=av.below hb5;replace k4:=k4.below hb5;clear a9 b6 b0 ag an av;clear o5 H5;have a8:=Am (fun A=>hB.alloc hB.size (.cells A 33)) V3.d p5.a p5.c q5.a q5.c V3.g V3.h V3.j.seq V3.j.pos r5.a V3.maps.length r5.c V3.br;obtain⟨b1,b7⟩:=Z11 (Yc x a8);have ah:=k1.below (Yb a8);have ao:=k2.below (Yb a8);have aw:=k3.below (Yb a8);have aC:=k4.below (Yb a8);have k5:=BoxIm.new i5 33;clear i5;go_wp2_with fail
 refine((H6.out _ a8)).mono ?_;rintro e w6 ⟨⟨p6,q6,r6,rfl,i6,o6⟩,hb6⟩;replace hB:=bt a8 hb6;replace x:=b1.bl hb6;replace xk:=Aa x;replace k1:=ah.below hb6;replace k2:=ao.below hb6;replace k3:=aw.below hb6;replace k4:=aC.below hb6;replace k5:=k5.below hb6;clear a8 b7 b1 ah ao aw aC;clear o6 H6;have a7:=Am (fun A=>hB.alloc hB.size (.cells A 33)) V3.d p6.a p6.c q6.a q6.c V3.g V3.h V3.j.seq V3.j.pos r6.a V3.maps.length r6.c V3.br;obtain⟨b2,b8⟩:=Z11 (Yc x a7);have ai:=k1.below (Yb a7);have ap:=k2.below (Yb a7);have ax:=k3.below (Yb a7);have aD:=k4.below (Yb a7);have aI:=k5.below (Yb a7);have k6:=BoxIm.new i6 33;clear i6;go_wp2_with fail
 refine((H7.out _ a7)).mono ?_;rintro e w7 ⟨⟨p7,q7,r7,rfl,i7,o7⟩,hb7⟩;replace hB:=bt a7 hb7;replace x:=b2.bl hb7;replace xk:=Aa x;replace k1:=ai.below hb7;replace k2:=ap.below hb7;replace k3:=ax.below hb7;replace k4:=aD.below hb7;replace k5:=aI.below hb7;replace k6:=k6.below hb7;clear a7 b8 b2 ai ap ax aD aI;clear o7 H7;have a6:=Am (fun A=>hB.alloc hB.size (.cells A 33)) V4.d p7.a p7.c q7.a q7.c V4.g V4.h V4.j.seq V4.j.pos r7.a V4.maps.length r7.c V4.br;obtain⟨b3,b9⟩:=Z11 (Yc x a6);have aj:=k1.below (Yb a6);have aq:=k2.below (Yb a6);have ay:=k3.below (Yb a6);have aE:=k4.below (Yb a6);have aJ:=k5.below (Yb a6);have aN:=k6.below (Yb a6);have k7:=BoxIm.new i7 33;clear i7;go_wp2_with fail
 refine((H8.out _ a6)).mono ?_;rintro e w8 ⟨⟨p8,q8,r8,rfl,i8,o8⟩,hb8⟩;replace hB:=bt a6 hb8;replace x:=b3.bl hb8;replace xk:=Aa x;replace k1:=aj.below hb8;replace k2:=aq.below hb8;replace k3:=ay.below hb8;replace k4:=aE.below hb8;replace k5:=aJ.below hb8;replace k6:=aN.below hb8;replace k7:=k7.below hb8;clear a6 b9 b3 aj aq ay aE aJ aN;clear o8 H8;have a5:=Am (fun A=>hB.alloc hB.size (.cells A 33)) V4.d p8.a p8.c q8.a q8.c V4.g V4.h V4.j.seq V4.j.pos r8.a V4.maps.length r8.c V4.br;obtain⟨b4,ba⟩:=Z11 (Yc x a5);have ak:=k1.below (Yb a5);have ar:=k2.below (Yb a5);have az:=k3.below (Yb a5);have aF:=k4.below (Yb a5);have aK:=k5.below (Yb a5);have aO:=k6.below (Yb a5);have aR:=k7.below (Yb a5);have k8:=BoxIm.new i8 33;clear i8;go_wp2_with fail
 refine((H9.out _ a5)).mono ?_;rintro e w9 ⟨⟨p9,q9,r9,rfl,i9,o9⟩,hb9⟩;replace hB:=bt a5 hb9;replace x:=b4.bl hb9;replace xk:=Aa x;replace k1:=ak.below hb9;replace k2:=ar.below hb9;replace k3:=az.below hb9;replace k4:=aF.below hb9;replace k5:=aK.below hb9;replace k6:=aO.below hb9;replace k7:=aR.below hb9;replace k8:=k8.below hb9;clear a5 ba b4 ak ar az aF aK aO aR;clear o9 H9;have a0:=Am (fun A=>hB.alloc hB.size (.cells A 33)) V5.d p9.a p9.c q9.a q9.c V5.g V5.h V5.j.seq V5.j.pos r9.a V5.maps.length r9.c V5.br;obtain⟨b5,bb⟩:=Z11 (Yc x a0);have al:=k1.below (Yb a0);have au:=k2.below (Yb a0);have aA:=k3.below (Yb a0);have aG:=k4.below (Yb a0);have aL:=k5.below (Yb a0);have aP:=k6.below (Yb a0);have aS:=k7.below (Yb a0);have aU:=k8.below (Yb a0);have k9:=BoxIm.new i9 33;clear i9;go_wp2_with fail
 refine((bd.out _ a0)).mono ?_;rintro e w10 ⟨⟨p10,q10,r10,rfl,i10,o10⟩,hb10⟩;replace hB:=bt a0 hb10;replace x:=b5.bl hb10;replace xk:=Aa x;replace k1:=al.below hb10;replace k2:=au.below hb10;replace k3:=aA.below hb10;replace k4:=aG.below hb10;replace k5:=aL.below hb10;replace k6:=aP.below hb10;replace k7:=aS.below hb10;replace k8:=aU.below hb10;replace k9:=k9.below hb10;clear a0 bb b5 al au aA aG aL aP aS aU;clear o10 bd;have a4:=Am (fun A=>hB.alloc hB.size (.cells A 33)) V5.d p10.a p10.c q10.a q10.c V5.g V5.h V5.j.seq V5.j.pos r10.a V5.maps.length r10.c V5.br;obtain⟨bf,bc⟩:=Z11 (Yc x a4);have aa:=k1.below (Yb a4);have ab:=k2.below (Yb a4);have aB:=k3.below (Yb a4);have aH:=k4.below (Yb a4);have aM:=k5.below (Yb a4);have aQ:=k6.below (Yb a4);have aT:=k7.below (Yb a4);have aV:=k8.below (Yb a4);have aW:=k9.below (Yb a4);have ad:=BoxIm.new i10 33;clear i10;have u1:=Aa (aa).b;have u2:=Aa (ab).b;go_wp2_with fail
 refine((CL V1 p1 q1 r1 p2 q2 r2 _ (aa).i (ab).i n1.out (Dk.same_self _))).mono ?_;rintro e s1 ⟨rfl,g1⟩;replace hB:=bt a4 g1;replace k1:=aa.below g1;replace k2:=ab.below g1;replace k3:=aB.below g1;replace k4:=aH.below g1;replace k5:=aM.below g1;replace k6:=aQ.below g1;replace k7:=aT.below g1;replace k8:=aV.below g1;replace k9:=aW.below g1;replace ad:=ad.below g1;clear a4 bc bf aa ab aB aH aM aQ aT aV aW;clear u1 u2 n1;have u3:=Aa (k3).b;have u4:=Aa (k4).b;go_wp2_with fail
 refine((CL V2 p3 q3 r3 p4 q4 r4 _ (k3).i (k4).i n2.out (Dk.same_self _))).mono ?_;rintro e s2 ⟨rfl,g2⟩;replace hB:=bt hB g2;replace k3:=k3.below g2;replace k4:=k4.below g2;replace k5:=k5.below g2;replace k6:=k6.below g2;replace k7:=k7.below g2;replace k8:=k8.below g2;replace k9:=k9.below g2;replace ad:=ad.below g2;clear u3 u4 n2;have u5:=Aa (k5).b;have u6:=Aa (k6).b;go_wp2_with fail
 refine((CL V3 p5 q5 r5 p6 q6 r6 _ (k5).i (k6).i n3.out (Dk.same_self _))).mono ?_;rintro e s3 ⟨rfl,g3⟩;replace hB:=bt hB g3;replace k5:=k5.below g3;replace k6:=k6.below g3;replace k7:=k7.below g3;replace k8:=k8.below g3;replace k9:=k9.below g3;replace ad:=ad.below g3;clear u5 u6 n3;have u7:=Aa (k7).b;have u8:=Aa (k8).b;go_wp2_with fail
 refine((CL V4 p7 q7 r7 p8 q8 r8 _ (k7).i (k8).i n4.out (Dk.same_self _))).mono ?_;rintro e s4 ⟨rfl,g4⟩;replace hB:=bt hB g4;replace k7:=k7.below g4;replace k8:=k8.below g4;replace k9:=k9.below g4;replace ad:=ad.below g4;clear u7 u8 n4;have u9:=Aa (k9).b;have bo:=Aa (ad).b;go_wp2_with fail
 refine((CL V5 p9 q9 r9 p10 q10 r10 _ (k9).i (ad).i n5.out (Dk.same_self _))).mono ?_;rintro e s5 ⟨rfl,g5⟩;replace hB:=bt hB g5;replace k9:=k9.below g5;replace ad:=ad.below g5;clear u9 bo n5;go_wp2_with fail
 refine((Fq _)).mono ?_;rintro e w11 ⟨rfl,hb11⟩;replace hB:=bt hB hb11;go_wp2_with fail
 go_ret
 exact⟨rfl,hB⟩
theorem walk (w:World)(D:Dk)(g h:Int)(j:Jr)(maps:List Dm)(br:Bool)(p q r:Pl)(hI:IsIm0 w D g h j maps p q r)(s0:ByteArray)(ws:s0.size<=maxLen)(hs:s0.size<=reachBytes):
 CR 4 #[Cd D g h j maps br p q r,.string s0] w (.bool true):=by
 obtain⟨nm,rfl⟩:=CW s0;have a0:nm.length<=maxLen:=by rwa [Ab]at ws
 cases hg:goodI D g h j maps with
 |false=>exact QQ D g h j maps br p q r nm w hI hg
 |true=>
  obtain⟨hh,rfl,h2,ok⟩:=LF br hI hg;exact QR D g hh j maps br p q r nm a0 w hI hg h2 ok
theorem own:ownKnob Tryz.prog.godebug=none:=by kernel_rfl
def firstCells:Array Value:=match Go.Pinned.utf8First with| .agg l=>(l.map fun| .lit (.int k m)=>Value.int k m|_=>undef).toArray|_=>#[]
noncomputable def laidWorld (os:Os):World:=
 let w0:=World.doorLaid Tryz.prog 4000 os
 {w0 with heap:=w0.heap.modify 1 fun| .cells _ t fr=>.cells firstCells t fr|o=>o}
theorem KV (os:Os)(args:Array Value):laidMetH Tryz.prog Rows.bitmDoesRow.laid ((laidWorld os).forCall (fun _ _=>0) ⟨#[],args,[]⟩).memory:=
 laidMetH_of_parts3 (fuel:=8) (laidMet_of_run' 8 (by kernel_rfl) (by kernel_rfl)) (by kernel_rfl) (by kernel_rfl)
theorem lifted (os:Os)(started:os.Started)(H:Type)(enc:TypeId×Value->H):
 ReturnsInHanded {} Tryz.checked os 4 .any (fun w args=>(Rows.bitmDoesSpec.pre enc Tryz.prog Tryz.f4 [] false w args/\laidMetH Tryz.prog Rows.bitmDoesRow.laid w)/\sizedMet enc Tryz.prog Tryz.f4 (OpenSpec.ofChange Rows.bitmDoesSpec) false w args)
  (Rows.bitmDoesSpec.post enc Tryz.prog Tryz.f4 false true false false):=by
 refine returnsInHanded_of_change_and (C:=Tryz.checked) (X:=fun w _=>laidMetH Tryz.prog Rows.bitmDoesRow.laid w) (fun _ _ _ hh h=>h.of_heap hh) own started (by kernel_rfl) Tryz.func4
  (ChangeSpec.witness_shaped (enc:=enc) (C:=Tryz.checked) (os:=os) (X:=fun w _=>laidMetH Tryz.prog Rows.bitmDoesRow.laid w) false (laidWorld os) #[.agg #[.string ByteArray.empty,.slice none 0 0,.int .i64 0,.bool false,.slice none 0 0,.int .i64 0,.int .i64 0,.int .u64 0,.int .i64 0,.slice none 0 0,.bool false],.string ByteArray.empty] 8 rfl (World.shaped_of_RefB (by kernel_rfl) (by kernel_rfl)) (by kernel_rfl) (by kernel_rfl) (by kernel_rfl) (KV os _)) ?_
 intro W base args ds gs before hval0 hW _ hsz0 hL _;have a0:∀(j:Nat) t v,Tryz.f4.params[j]? =some t->args[j]? =some v->Value.okWide Tryz.prog W .any base t v:=hval0;have a2:=hW;obtain⟨p,q,hA0,hV,rfl,hfz,hnd⟩:=hW;have hA:DataW.TrodAll enc Tryz.prog W 0 (fun _=>true) true Tryz.f4.params.toList args.toList ds p:=hA0;have a4:=hA;have a3:(DataW.weightsEach Tryz.prog (Tryz.f4.params.toList++Rows.bitmDoesSpec.plain.varTypes Tryz.prog) (ds++gs)).all (·<=reachBytes)=true:=hsz0;rw[Tryz.params4]at hA a0 a3;obtain⟨v0,vs0,d0,ds0,p0,q0,hargs,rfl,rfl,h0,r0⟩:=trodAll_cons hA;obtain⟨v1,vs1,d1,ds1,p1,q1,rfl,rfl,rfl,h1,r1⟩:=trodAll_cons r0;obtain⟨rfl,rfl,rfl⟩:=trodAll_nil r1;obtain rfl:args=#[v0,v1]:=by cases args;simp_all
 obtain⟨rfl,rfl⟩:=trodVars_none hV;obtain⟨D0,g0,n0,j0,m0,b0,P0,Q0,R0,rfl,w0⟩:=MN Tryz.underlying33 (by kernel_rfl) ⟨by kernel_rfl,by kernel_rfl⟩ ⟨by kernel_rfl,by kernel_rfl⟩ ⟨by kernel_rfl,by kernel_rfl⟩ ⟨by kernel_rfl,by kernel_rfl⟩ ⟨by kernel_rfl,by kernel_rfl⟩ Tryz.underlying25 (by kernel_rfl) Tryz.underlying9 Tryz.underlying22 Tryz.underlying3 Tryz.underlying4 Tryz.underlying23 Tryz.underlying115 (by kernel_rfl) (by kernel_rfl) Tryz.underlying3 Tryz.underlying9 Tryz.underlying3 (by kernel_rfl) (by kernel_rfl) Tryz.underlying27 (by kernel_rfl) Tryz.underlying3 Tryz.underlying3 Tryz.underlying30 (by kernel_rfl) Tryz.underlying28 Tryz.underlying3 Tryz.underlying31 Tryz.underlying42 ⟨by kernel_rfl,by kernel_rfl⟩ ⟨by kernel_rfl,by kernel_rfl⟩ ⟨by kernel_rfl,by kernel_rfl⟩ (by kernel_rfl) Tryz.underlying9 Tryz.underlying4 Tryz.underlying40 Tryz.underlying4 (by kernel_rfl) Tryz.underlying4 (a0 0 33 v0 rfl rfl) h0 (QS a3 (j:=0) rfl rfl);obtain⟨a1,rfl,rfl,rfl,w1⟩:=open_string Tryz.underlying9 (a0 1 9 v1 rfl rfl) h1;clear hA0 hval0;simp only[List.append_nil]at a2;refine(walk W D0 g0 n0 j0 m0 b0 P0 Q0 R0 w0 a1 w1 (sized_string a3 (j:=1) rfl rfl)).mono fun e W' ⟨he,hb⟩=>?_
 subst he;exact⟨_,rfl,Nj (pa:=_) (pv:=[]) a2 (fun _ _ _=>(trodAll_cons_mk (shut_bool Tryz.underlying4 _) trodAll_mk0)) (fun sp hsp=>I9 (by kernel_rfl) hb (by kernel_rfl) a4 (fun x hx=>a2.lt x (by simpa using hx)) (fun x hx=>hsp x (by simpa using hx))) (fun _ _=>rfl) (by simp) hb (ok_one (by kernel_rfl) rfl (okWide_bool_mk Tryz.underlying4 _))⟩
theorem OT:Rows.BitmDoesSaid:=
 OpenClaim.holds_of_wide 4 Tryz.f4 rfl rfl rfl rfl rfl rfl rfl ⟨rfl,rfl,rfl,rfl,rfl⟩ rfl rfl rfl rfl rfl (by kernel_rfl) Tryz.func4 (by kernel_rfl)
  (of_decide_eq_true (by kernel_rfl)) (by unfold Func.isWrapper;first|(rw[if_pos (by decide+kernel)];kernel_rfl)|(rw[if_neg (by decide+kernel)];exact⟨rfl,rfl⟩))
  (fun os started H enc _=>lifted os started H enc)
theorem proved:Rows.BitmDoesCardSaid:=
 Claim7.holds_tied_plain_at .later [] [.data,.pinned] true (true,"0c58b2a2273f37811cc9d94c96387fcc33251b553504e44fb86b73f057d423b5") false
  OT (fun _ h=>by cases h) (by kernel_rfl) (fun _ h=>by cases h) bitmDoes_row_tie rfl ⟨rfl,rfl⟩ (by kernel_rfl) rfl
  (fun f fn hf hfn=>by
   obtain rfl:f=4:=Option.some.inj ((show Tryz.prog.funcNamed "cofferdam/cofferdamlaw17.BitmDoes" =some 4 by kernel_rfl).symm.trans hf)|>.symm;obtain rfl:fn=Tryz.f4:=(Option.some.inj (Tryz.func4.symm.trans hfn)).symm;exact⟨by kernel_rfl,fun j t ht=>by
    rw[Tryz.params4]at ht;have hm:t∈[33,9]:=by have:=Array.mem_of_getElem? ht;simpa using this
    have a0:([33,9].all fun u=>!Tryz.prog.wantsStandIn u)=true:=by kernel_rfl
    exact(show Tryz.prog.wantsStandIn t=false by simpa using List.all_eq_true.1 a0 t hm)⟩)
  (by kernel_rfl)
#print axioms proved
end
end Go.Proofs.YtmiilfnchfdfcaaGreatDoor.bitmDoes
