/- Be: Img6, Img7, Img10, Span1, RangeS, Span3, Law15b, BitmLaw, Bitm1, LateG. -/
import Derived.Test.YtmiilfnchfdfcaaGreatDoorBePoint7
set_option maxRecDepth 100000
set_option maxHeartbeats 40000000
set_option linter.unusedVariables false
namespace Go.Proofs.YtmiilfnchfdfcaaGreatDoor
section
open Go.RowKit Go.Shelf
attribute [local go_sem] Ad Af Ag Ab Ai Ah
def fillAt (at9:Int)(b:List UInt8)(i:Nat)(E:Dk):Dk×Int:=E.write (at9+i) ((b.take (64*(i+1))).drop (64*i))
def fillN (D:Dk)(at9:Int)(b:List UInt8):Nat->Dk×Int
 |0=>(D,0)
 |1=>fillAt at9 b 0 D
 |_=>Dk.next (fillAt at9 b 0 D) (fillAt at9 b 1)
theorem Lj (D:Dk)(at9:Int)(b:List UInt8){i:Nat}(hi:i<2)(h:(fillN D at9 b i).2=0):fillN D at9 b (i+1)=fillAt at9 b i (fillN D at9 b i).1:=by
 match i,hi with
 |0,_=>rfl
 |1,_=>
  have h':(fillAt at9 b 0 D).2=0:=h;show Dk.next (fillAt at9 b 0 D) _=_;rw[Dk.next_zero h'];rfl
theorem Lk (D:Dk)(at9:Int)(b:List UInt8){i:Nat}(hi:i<2)(h:(fillN D at9 b (i+1)).2≠0):fillN D at9 b 2=fillN D at9 b (i+1):=by
 match i,hi with
 |0,_=>
  have h':(fillAt at9 b 0 D).2≠0:=h;show Dk.next (fillAt at9 b 0 D) _=fillAt at9 b 0 D;rw[Dk.next,if_pos h']
 |1,_=>rfl
theorem Li {D:Dk}(hD:D.fit=true)(at9:Int)(b:List UInt8)(i:Nat):(fillN D at9 b i).1.fit=true:=by
 match i with
 |0=>exact hD
 |1=>exact Dk.write_fit hD _ _
 |i+2=>exact Dk.next_fit (Dk.write_fit hD _ _) fun E hE=>Dk.write_fit hE _ _
theorem Ll {k at9:Int}(hk:96+2*k=at9){b:List UInt8}(hb:b.length=128)(D:Dk):Im.fill D k b=fillN D at9 b 2:=by
 have e0:fillAt at9 b 0=fun E=>E.write (96+2*k) (b.take 64):=by funext E;unfold fillAt;rw[hk];simp
 have e1:fillAt at9 b 1=fun E=>E.write (96+2*k+1) (b.drop 64):=by funext E;unfold fillAt;rw[hk,List.take_of_length_le (by omega)];rfl
 show Dk.next _ _=Dk.next (fillAt at9 b 0 D) (fillAt at9 b 1);rw[e0,e1]
theorem Im.rd_len {D:Dk}(hf:D.fit=true)(l1 u:Int)(h:(Im.rd D l1 u).2=0):(Im.rd D l1 u).1.length=128:=by
 unfold Im.rd at h ⊢
 split
 · rename_i h1;rw[if_pos h1]at h;exact absurd h h1
 · rename_i h1
   rw[if_neg h1]at h
   split
   · rename_i h2
     rw[if_pos h2]at h;unfold Im.clus at h ⊢
     split
     · rename_i h3;rw[if_pos h3]at h;exact absurd h h3
     · rename_i h3
       rw[if_neg h3]at h
       split
       · rename_i h4;rw[if_pos h4]at h;exact absurd h h4
       · rename_i h4
         have e1:=Dk.read_full hf (Classical.not_not.1 h3);have e2:=Dk.read_full hf (Classical.not_not.1 h4);show(_++_:List UInt8).length=128;rw[List.length_append,e1,e2]
   · exact List.length_replicate ..
theorem NN (x:Im)(p q r:Pl)(w:World)(hI:IsIm w x p q r)(ok:x.Ok)(hbr:x.br=false)(u off:Int)(s:List UInt8)(hu:0<=u/\u<x.g)(ho:0<=off)(hs:off+s.length<=128)(hs0:s≠[]):
 CX 20 #[imval x p q r,.int .i64 u,.int .i64 off,.string (bs s)] w (RetIm w.heap.size x p q r (x.write u off s)):=by
 have hx:x.write u off s=(x.mark u).writeIn u off s:=by rw[Im.write,if_neg (by rw[hbr];simp),if_neg (by omega),if_neg hs0]
 have bx:=hid (fun g (hg:w.heap.size<=g)=>hI.apart hg);have bp:=hid (fun(W:World)(hb:Below w.heap.size w W)=>NH x u p q r W (hI.below hb) (by have:=ok.g;unfold okInt;omega) (by have:=ok.maps;omega));rw[hx];clear hx;obtain⟨D,g,h,⟨seq,pos⟩,maps,br⟩:=x;obtain⟨hd,hm⟩:=hI;have hf:=ok.d;have hg:=ok.g;have hh:=ok.h;have az:=hid (fun(E:Dk)(hE:E.fit=true)=>(ok.mark u).withD hE);simp only[Im.mark]at hd hm hf hg hh hbr hu bx bp az ⊢;subst hbr;generalize Im.markM u maps=ms at bp az ⊢;have bX:=hid (fun(W:World)(hb:Below w.heap.size w W)=>HK D Pn.none p q ⟨none,0⟩ ⟨none,0⟩ W (hd.below hb) (AI _) hf Pn.none_fit);have b1:=hid (fun(l:Int)(W:World)(hb:Below w.heap.size w W)=>IS D Pn.none p q ⟨none,0⟩ ⟨none,0⟩ W (hd.below hb) (AI _) hf Pn.none_fit l u);have ap:=hid (fun(a:Int)(W:World)(hb:Below w.heap.size w W)=>Cq D Pn.none p q ⟨none,0⟩ ⟨none,0⟩ W (hd.below hb) (AI _) hf Pn.none_fit a);have aZ:=hid (fun(W:World)(hb:Below w.heap.size w W)=>Ih D Pn.none p q ⟨none,0⟩ ⟨none,0⟩ W (hd.below hb) (AI _) hf Pn.none_fit g h (by omega));have aA:=hid (fun(l:Int)(W:World)(hb:Below w.heap.size w W)=>NJ D p q W (hd.below hb) hf l u);have aB:=hid (fun(l:Int)=>Im.rd_len hf l u);have aC:=hid (Pn.alTake_fit hf Pn.none_fit (h:Int));have aF:=hid (Pn.alTake_small (D:=D) (L:=Pn.none) (h:=(h:Int)) (by omega));have aq:=hid (fun(l:Int)=>(Pn.tabFind_small D Pn.none l u).2.2);have HW:=hid (show Im.writeIn ⟨D,g,h,⟨seq,pos⟩,ms,false⟩ u off s=if(Pn.rtGet D Pn.none).2≠0 then(⟨D,g,h,⟨seq,pos⟩,ms,false⟩,(Pn.rtGet D Pn.none).2)else if(Pn.tabFind D Pn.none (Pn.rtGet D Pn.none).1.1 u).2≠0 then(⟨D,g,h,⟨seq,pos⟩,ms,false⟩,(Pn.tabFind D Pn.none (Pn.rtGet D Pn.none).1.1 u).2)
  else if(Pn.tabFind D Pn.none (Pn.rtGet D Pn.none).1.1 u).1.1≠1 then Im.writeNew ⟨D,g,h,⟨seq,pos⟩,ms,false⟩ (Pn.rtGet D Pn.none).1.1 u off s
  else if(Pn.cntGet D Pn.none (Pn.tabFind D Pn.none (Pn.rtGet D Pn.none).1.1 u).1.2).2≠0 then(⟨D,g,h,⟨seq,pos⟩,ms,false⟩,(Pn.cntGet D Pn.none (Pn.tabFind D Pn.none (Pn.rtGet D Pn.none).1.1 u).1.2).2)
  else if(Pn.cntGet D Pn.none (Pn.tabFind D Pn.none (Pn.rtGet D Pn.none).1.1 u).1.2).1<=1 then
   (⟨(Im.place D (Pn.tabFind D Pn.none (Pn.rtGet D Pn.none).1.1 u).1.2 off s).1,g,h,⟨seq,pos⟩,ms,false⟩,(Im.place D (Pn.tabFind D Pn.none (Pn.rtGet D Pn.none).1.1 u).1.2 off s).2)
  else Im.writeNew ⟨D,g,h,⟨seq,pos⟩,ms,false⟩ (Pn.rtGet D Pn.none).1.1 u off s from rfl)
 have aD:=hid (fun(l:Int)=>show Im.writeNew ⟨D,g,h,⟨seq,pos⟩,ms,false⟩ l u off s=if(Pn.alTake D Pn.none h).2.2≠0 then(⟨D,g,h,⟨seq,pos⟩,ms,false⟩,(Pn.alTake D Pn.none h).2.2)else if(Im.rd D l u).2≠0 then(⟨D,g,h,⟨seq,pos⟩,ms,false⟩,(Im.rd D l u).2)
  else if(Im.fill D (Pn.alTake D Pn.none h).2.1 (over (Im.rd D l u).1 off.toNat s)).2≠0 then(⟨(Im.fill D (Pn.alTake D Pn.none h).2.1 (over (Im.rd D l u).1 off.toNat s)).1,g,h,⟨seq,pos⟩,ms,false⟩,(Im.fill D (Pn.alTake D Pn.none h).2.1 (over (Im.rd D l u).1 off.toNat s)).2)
  else Im.writeNew.pointed ⟨(Im.fill D (Pn.alTake D Pn.none h).2.1 (over (Im.rd D l u).1 off.toNat s)).1,g,h,⟨seq,pos⟩,ms,false⟩ (Pn.alTake D Pn.none h).1 u 1 (Pn.alTake D Pn.none h).2.1 from rfl)
 generalize Pn.alTake D Pn.none (h:Int)=TK at*;obtain⟨L,k,ea⟩:=TK;simp only at aZ aC aF aD;generalize Pn.rtGet D Pn.none=RG at*;obtain⟨⟨one,n⟩,er⟩:=RG;simp only at bX HW;replace b1:=hid (b1.out one);replace aA:=hid (aA.out one);replace aB:=hid (aB.out one);replace aq:=hid (aq.out one);replace aD:=hid (aD.out one);generalize Im.rd D (one:Int) u=RD at*;obtain⟨b,eb⟩:=RD;simp only at aA aB aD;generalize Pn.tabFind D Pn.none (one:Int) u=TF at*;obtain⟨⟨K,A⟩,et⟩:=TF;simp only at b1 HW aq;replace ap:=hid (ap.out A);generalize Pn.cntGet D Pn.none A=CG at*;obtain⟨c,ec⟩:=CG;simp only at ap HW;obtain⟨off,rfl⟩:=Int.eq_ofNat_of_zero_le ho;have co:u<64:=by omega
 clear ok ho;obtain⟨A1,a1⟩:=p;obtain⟨A2,a2⟩:=q;obtain⟨A3,a3⟩:=r;have f0:decide (u<0)=false:=decide_eq_false (by omega);have f1:decide (g<=u)=false:=decide_eq_false (by omega);have f2:decide ((off:Int)<0)=false:=decide_eq_false (by omega);have f3:decide ((128:Int)<(s.length:Int))=false:=decide_eq_false (by omega);have c8:decide (128<s.length)=false:=decide_eq_false (by omega);have f4:decide ((128:Int)-(s.length:Int)<(off:Int))=false:=decide_eq_false (by omega);have f5:s.isEmpty=false:=by cases s with|nil=>exact absurd rfl hs0|cons _ _=>rfl
 have bP:=bx.out w.heap.size (Nat.le_refl _);have bN:=bx.out (w.heap.size+1) (by omega);have cn:s.length<=128:=by omega
 clear hs0;have hB:=Y0 w;obtain⟨x,xk,xkf⟩:=Z11f (Am (Blk.new w 33) D A1 a1 A2 a2 g h seq pos A3 maps.length a3 false);have hB_1:=Ya hB x;have am:=hd.below (Yb hB_1);have b7:=hm.below (Yb hB_1);have r:=apz (Yd hB_1 33);simp only[Ys]at r;have rk:=Aa r;have ac:=r.fz;have al:=Ya hB_1 r;have b6:=am.below (Yb al);have b8:=b7.below (Yb al);obtain⟨c5,bV⟩:=Z11 (Yc x al);go_enter Tryz.func20,Tryz.ntmps20;go_wp2_with fail
 refine((bp.out _ al)).mono ?_;rintro e w1 ⟨⟨⟨R3,r3⟩,rfl,im,om⟩,hb1⟩;replace hB:=bt al hb1;replace hd:=b6.below hb1;replace hm:=b8.below hb1;replace x:=c5.bl hb1;replace xk:=Aa x;replace xkf:=x.fz;replace r:=r.bl hb1;replace rk:=Aa r;replace ac:=r.fz;clear hB_1 am b7 al b6 b8 bV c5;have c3:=(om w.heap.size (by simp only[Ys];omega) bP);have bZ:=(om (w.heap.size+1) (by simp only[Ys];omega) bN);have ci:=bP.1;have c0:=bN.1;have cu:=c3.2;have c2:=bZ.2;replace im:=im.m;have OM:=hid (fun g' (h1:g'<w.heap.size)(h2:ImOff g' ⟨D,g,h,⟨seq,pos⟩,maps,false⟩ ⟨A1,a1⟩ ⟨A2,a2⟩ ⟨A3,a3⟩)=>(om g' (by simp only[Ys];omega) h2).2);clear bp bP bN om c3 bZ f0 f1 f2 f3 c8 f4 f5;have a5:=ap11 (Al hB (g:=w.heap.size) (by omega)) D A1 a1 A2 a2 g h seq pos R3 ms.length r3 false;have an:=hd.oc a5 (by assumption);obtain⟨bk,bm⟩:=Z11 (Yh x a5);have bf:=Yg r a5 (by omega);have aK:=im.oc a5 (by assumption);go_wp2_with fail
 refine((bX.out _ a5)).mono ?_;rintro e w2 ⟨rfl,hb2⟩;replace hB:=bt a5 hb2;replace hd:=an.below hb2;replace x:=bk.bl hb2;replace xk:=Aa x;replace xkf:=x.fz;replace r:=bf.bl hb2;replace rk:=Aa r;replace ac:=r.fz;replace im:=aK.below hb2;clear a5 an bm bk bf aK;obtain⟨z,zk⟩:=Z2 (Blk.new w2 95 #[.int .i64 one,.int .u32 n]);have a6:=Ya hB z;have au:=hd.below (Yb a6);obtain⟨aW,bn⟩:=Z11 (Yc x a6);obtain⟨aU,bh,aV⟩:=Z11f (Yc r a6);have aw:=im.below (Yb a6);by_cases he:er=0
 · subst he;go_wp2_with fail
   refine((b1.out _ a6)).mono ?_;rintro e w3 ⟨rfl,hb3⟩;replace hB:=bt a6 hb3;replace hd:=au.below hb3;replace x:=aW.bl hb3;replace xk:=Aa x;replace xkf:=x.fz;replace r:=aU.bl hb3;replace rk:=Aa r;replace ac:=r.fz;replace im:=aw.below hb3;replace z:=z.bl hb3;replace zk:=blk2 z;clear a6 au bn aW bh aV aU aw;obtain⟨y,yk⟩:=Z2 (Blk.new w3 102 #[.int .i64 K,.int .i64 A]);have a4:=Ya hB y;have a8:=hd.below (Yb a4);obtain⟨aH,ak,ab⟩:=Z11f (Yc x a4);obtain⟨ao,aj,aa⟩:=Z11f (Yc r a4);have a9:=im.below (Yb a4);obtain⟨aX,ay⟩:=Z2 (Yc z a4);by_cases ht:et=0
   · subst ht
     go_upto_if 83 with fail
     generalize (w3.alloc (.cells #[.int .i64 K,.int .i64 A] 102))=V at a4 a8 aH ak ab ao aj aa a9 aX ay y yk ⊢;clear hB hd x r im z xk rk zk xkf ac;have hB:=a4;have hd:=a8;have x:=aH;have xk:=ak;have xkf:=ab;have r:=ao;have rk:=aj;have ac:=aa;have im:=a9;have z:=aX;have zk:=ay;clear a4 a8 aH ak ab ao aj aa a9 aX ay;have hV:=Y0 V;have bJ:=x;have bH:=r;have bD:=hB;have bF:=hd;have bK:=im
     go_cut [] (fun W=>Below V.heap.size V W/\Hid (Im.writeIn ⟨D,g,h,⟨seq,pos⟩,ms,false⟩ u off s=Im.writeNew ⟨D,g,h,⟨seq,pos⟩,ms,false⟩ one u off s))
     case first=>
      clear aD aZ aA aB aC aF az bJ bH bD bF bK;by_cases hK:K=1
      · subst hK;go_wp2_with fail
        refine((ap.out _ hB)).mono ?_;rintro e w4 ⟨rfl,hb4⟩;replace hB:=bt hB hb4;replace hd:=hd.below hb4;replace x:=x.bl hb4;replace xk:=Aa x;replace xkf:=x.fz;replace r:=r.bl hb4;replace rk:=Aa r;replace ac:=r.fz;replace im:=im.below hb4;replace z:=z.bl hb4;replace zk:=blk2 z;replace y:=y.bl hb4;replace yk:=blk2 y;replace hV:=bt hV hb4;by_cases hc:ec=0
        · subst hc;by_cases hn:c<=1
          · have n2:decide (c<=1)=true:=decide_eq_true hn;have Hr:=hid (show Im.writeIn ⟨D,g,h,⟨seq,pos⟩,ms,false⟩ u off s=(⟨(Im.place D A off s).1,g,h,⟨seq,pos⟩,ms,false⟩,(Im.place D A off s).2) by rw[HW.out];exact(if_neg (by simp)).trans ((if_neg (by simp)).trans ((if_neg (by simp)).trans ((if_neg (by simp)).trans (if_pos hn)))));have bu:=hid (fun(W:World)(i1:IsDk W D ⟨A1,a1⟩ ⟨A2,a2⟩)(i2:IsMs W ms ⟨R3,r3⟩)=>NI ⟨D,g,h,⟨seq,pos⟩,ms,false⟩ ⟨A1,a1⟩ ⟨A2,a2⟩ ⟨R3,r3⟩ W ⟨i1,i2⟩ hf A off s (by have:=aq.out;omega) (by omega) hs);generalize Im.place D A off s=PL at bu Hr;obtain⟨F,ew⟩:=PL;simp only at bu Hr;clear HW ap aq hn;have ca:=r.lt;go_wp2_with fail
            refine((bu.out _ hd im)).mono ?_;rintro e w5 ⟨⟨⟨P5,e5⟩,⟨Q5,f5⟩,⟨R5,g5⟩,rfl,i5,o5⟩,hb5⟩;replace hB:=bt hB hb5;replace hd:=hd.below hb5;replace x:=x.bl hb5;replace xk:=Aa x;replace xkf:=x.fz;replace r:=r.bl hb5;replace rk:=Aa r;replace ac:=r.fz;replace im:=im.below hb5;replace z:=z.bl hb5;replace zk:=blk2 z;replace y:=y.bl hb5;replace yk:=blk2 y;have bO:=o5 (w.heap.size+1) (by omega) ⟨c0,c2⟩;have oF:=bO.1;have oM:=bO.2;have O5:=fun g' (h1:g'<w.heap.size) h2=>o5 g' (by omega) h2
            have cd:=i5.d;have ce:=i5.m;clear bu o5 i5 bO;have a0:=ap11 (Al hB (g:=w.heap.size+1) (by omega)) F P5 e5 Q5 f5 g h seq pos R5 ms.length g5 false;have ah:=hd.oc a0 (by assumption);have ax:=Yh r a0;have ai:=im.oc a0 (by assumption);have aP:=cd.oc a0 (by assumption);have aQ:=ce.oc a0 (by assumption);have yy:=Aa ax;go_wp2_with fail
            rw[Hr.out];exact retIm aP aQ (fun g' h1 h2=>O5 g' h1 ⟨h2.1,OM.out g' h1 h2⟩) a0 (by simp[results,Tryz.results20,go_sem,yy]) rfl
          · have n2:decide (c<=1)=false:=decide_eq_false hn;have Hr:=hid (show Im.writeIn ⟨D,g,h,⟨seq,pos⟩,ms,false⟩ u off s=Im.writeNew ⟨D,g,h,⟨seq,pos⟩,ms,false⟩ one u off s by rw[HW.out];exact(if_neg (by simp)).trans ((if_neg (by simp)).trans ((if_neg (by simp)).trans ((if_neg (by simp)).trans (if_neg hn)))));clear HW ap aq hn;go_wp2_with fail
            go_meet
            exact⟨hV,Hr⟩
        · have n2:(ec !=0)=true:=bne_iff_ne.2 hc;have Hr:=hid (show Im.writeIn ⟨D,g,h,⟨seq,pos⟩,ms,false⟩ u off s=(⟨D,g,h,⟨seq,pos⟩,ms,false⟩,ec) by rw[HW.out];exact(if_neg (by simp)).trans ((if_neg (by simp)).trans ((if_neg (by simp)).trans (if_pos hc))));clear HW ap aq hc;have a0:=ap11 (Al hB (g:=w.heap.size+1) (by omega)) D A1 a1 A2 a2 g h seq pos R3 ms.length r3 false;have ah:=hd.oc a0 (by assumption);have ax:=Yh r a0;have ai:=im.oc a0 (by assumption);have yy:=Aa ax;go_wp2_with fail
          rw[Hr.out];exact retIm ah ai (fun g' h1 h2=>⟨h2.1,OM.out g' h1 h2⟩) a0 (by simp[results,Tryz.results20,go_sem,yy]) rfl
      · have nK:(K==1)=false:=beq_eq_false_iff_ne.2 hK;have Hr:=hid (show Im.writeIn ⟨D,g,h,⟨seq,pos⟩,ms,false⟩ u off s=Im.writeNew ⟨D,g,h,⟨seq,pos⟩,ms,false⟩ one u off s by rw[HW.out];exact(if_neg (by simp)).trans ((if_neg (by simp)).trans (if_pos hK)));clear HW ap aq hK;go_wp2_with fail
        go_meet
        exact⟨hV,Hr⟩
     case rest=>
      obtain⟨hW,HN⟩:=hcut;replace x:=bJ.bl hW;replace r:=bH.bl hW;replace z:=z.bl hW;replace hB:=bt bD hW;replace hd:=bF.below hW;replace im:=bK.below hW;have aY:=hid (HN.out.trans aD.out);clear xk xkf rk ac zk y yk hV bJ bH bD bF bK hW HN aD HW ap aq;have xk:=Aa x;have xkf:=x.fz;have rk:=Aa r;have ac:=r.fz;have zk:=blk2 z;have bb:=hid (r.lt);go_wp2_with fail
      refine((aZ.out _ hB)).mono ?_;rintro e w6 ⟨⟨PA,pa⟩,⟨QA,qa⟩,rfl,i6,o6,hb6⟩;replace hB:=bt hB hb6;replace hd:=hd.below hb6;replace im:=im.below hb6;replace x:=x.bl hb6;replace xk:=Aa x;replace xkf:=x.fz;replace r:=r.bl hb6;replace rk:=Aa r;replace ac:=r.fz;replace z:=z.bl hb6;replace zk:=blk2 z;have cv:=o6 w.heap.size (by have:=bb.out;omega) ⟨.inl rfl,.inl rfl⟩;have ch:=o6 (w.heap.size+1) (by have:=bb.out;omega) ⟨.inl rfl,.inl rfl⟩;have cp:=(im).apart (Nat.le_refl w6.heap.size);have cj:=i6.apart (Nat.le_refl w6.heap.size);have c7:=(hd).apart (Nat.le_refl w6.heap.size);have ag:=hid (r.lt);clear o6 aZ;obtain⟨pl,plk,plkf⟩:=Z2f (apc2 (Blk.new w6 63) L PA pa QA qa);have hB_1:=Ya hB pl;have am:=hd.below (Yb hB_1);have ae:=im.below (Yb hB_1);obtain⟨c4,bU⟩:=Z11 (Yc x hB_1);obtain⟨bR,bS,bj⟩:=Z11f (Yc r hB_1);obtain⟨c6,bW⟩:=Z2 (Yc z hB_1);have bd:=i6.below (Yb hB_1);by_cases ha:ea=0
      · subst ha;go_wp2_with fail
        refine((aA.out _ hB_1)).mono ?_;rintro e w7 ⟨rfl,hb7⟩;replace hB:=bt hB_1 hb7;replace hd:=am.below hb7;replace im:=ae.below hb7;replace x:=c4.bl hb7;replace xk:=Aa x;replace xkf:=x.fz;replace r:=bR.bl hb7;replace rk:=Aa r;replace ac:=r.fz;replace z:=c6.bl hb7;replace zk:=blk2 z;replace i6:=bd.below hb7;replace pl:=pl.bl hb7;replace plk:=blk2 pl;replace plkf:=pl.fz;clear hB_1 am ae bU c4 bS bj bR bW c6 bd;by_cases hbe:eb=0
        · subst hbe;have b5:=aB.out rfl;have bY:Pn.laidOver b (off:Int) s=(over b off s,0):=by rw[Pn.laidOver,if_neg (by omega),Int.toNat_natCast]
          have bG:=fun W=>EO b s (off:Int) W (by omega) (by omega)
          rw[bY]at bG;have hT:(over b off s).length=128:=by simp only[over,List.length_append,List.length_drop,List.length_take];omega
          have H1:=hid (aY.out.trans ((if_neg (by simp)).trans (if_neg (by simp))));obtain⟨at9,h9⟩:∃at9:Int,96+2*k=at9:=⟨_,rfl⟩;have cm:=aF.out;have cl:0<=at9/\at9<=1000:=by omega
          have H2:=H1.out;rw[Int.toNat_natCast,Ll h9 hT]at H2;have b4:=fun W=>BR k (by omega) (by omega) W
          rw[h9]at b4;generalize over b off s=T at bG hT H2;replace H2:=hid H2;clear bY h9 aY H1 aB b5 aA;go_wp2_with fail
          refine((bG _)).mono ?_;rintro e w8 ⟨rfl,hb8⟩;replace hB:=bt hB hb8;replace hd:=hd.below hb8;replace im:=im.below hb8;replace x:=x.bl hb8;replace xk:=Aa x;replace xkf:=x.fz;replace r:=r.bl hb8;replace rk:=Aa r;replace ac:=r.fz;replace z:=z.bl hb8;replace zk:=blk2 z;replace i6:=i6.below hb8;replace pl:=pl.bl hb8;replace plk:=blk2 pl;replace plkf:=pl.fz;have bv:=hid (fun(W:World)(E:Dk)(P Q:Pl)(hD:IsDk W E P Q)(a:Int)(ha: -9223372036854775808<=a/\a<=9223372036854775807)(U:List UInt8)(hU:U.length<=9223372036854775807)=>DD E P Q W hD a ha U hU);have ar:=hid (fun i (hi:i<2)(h:(fillN D at9 T i).2=0)=>Lj D at9 T hi h);have ad:=hid (fun i (hi:i<2)(h:(fillN D at9 T (i+1)).2≠0)=>Lk D at9 T hi h);have aE:=hid (fun i=>Li hf at9 T i);go_wp2_with fail
          go_loopw [18] (fun v W=>∃(i:Nat)(E:Dk)(P Q:Pl),i<=2/\v=.int .i64 i/\Hid (fillN D at9 T i=(E,0))/\Blk W w.heap.size 33 #[.string (bs E.data),.slice P.a E.cache.length P.c,.int .i64 E.fuse,.bool E.off,.slice Q.a E.bad.length Q.c,.int .i64 g,.int .i64 h,.int .u64 seq,.int .i64 pos,.slice R3 ms.length r3,.bool false]/\Blk W (w.heap.size+1) 33 #[.string (bs []),.slice none 0 0,.int .i64 0,.bool false,.slice none 0 0,.int .i64 0,.int .i64 0,.int .u64 0,.int .i64 0,.slice none 0 0,.bool false]/\Blk W w6.heap.size 63 #[.slice PA L.targets.length pa,.slice QA L.data.length qa]/\IsDk W E P Q/\IsMs W ms ⟨R3,r3⟩/\IsPn W L ⟨PA,pa⟩ ⟨QA,qa⟩/\(∀g',g'<w6.heap.size+1->DkOff g' D ⟨A1,a1⟩ ⟨A2,a2⟩->DkOff g' E P Q)/\Below w.heap.size w W) (fun v _=>2-(intOf v).toNat)
          case atStart=>exact⟨0,D,⟨A1,a1⟩,⟨A2,a2⟩,by omega,rfl,hid rfl,x,r,pl,hd,im,i6,fun _ _ h=>h,hB⟩
          case round=>
           clear x xk r rk pl plk hd im i6 hB xkf ac plkf z zk;obtain⟨i,E,⟨P1,c1⟩,⟨Q1,d1⟩,hi,rfl,HE,x,r,pl,ds,im,i6,HO,hB⟩:=hrel;simp only at x;have aO:=ag.out;have ox:=HO w.heap.size (by omega) ci;have or:=HO (w.heap.size+1) (by omega) c0;have op:=HO w6.heap.size (by omega) c7;clear aO;have aN:=hid (And.intro r.lt pl.lt);have xk:=Aa x;have xkf:=x.fz;have rk:=Aa r;have ac:=r.fz;have plk:=blk2 pl;have plkf:=pl.fz;by_cases hlt:i<2
           · have b3:E.fit=true:=by have:=aE.out i;rw[HE.out]at this;exact this
             have ba:=ar.out i hlt (by rw[HE.out]);rw[HE.out]at ba;simp only at ba;obtain⟨u64,hu64⟩:∃m:Nat,64*i=m:=⟨_,rfl⟩;obtain⟨v64,hv64⟩:∃m:Nat,64*(i+1)=m:=⟨_,rfl⟩;rw[fillAt,hu64,hv64]at ba;have e1:(i:Int)*64=(u64:Int):=by omega
             have e2:((i:Int)+1)*64=(v64:Int):=by omega
             have q1:u64<=v64/\v64<=128:=by omega
             have q6:(v64:Int)<=128:=by omega
             have wA:=i64w (x:=at9+(i:Int)) ⟨by omega,by omega⟩;have wB:=i64w (x:=(u64:Int)) ⟨by omega,by omega⟩;have wC:=i64w (x:=(v64:Int)) ⟨by omega,by omega⟩;have wD:=i64w (x:=(i:Int)+1) ⟨by omega,by omega⟩;have cc:((T.take v64).drop u64).length<=1000:=by simp only[List.length_drop,List.length_take];omega
             clear hu64 hv64 ar;go_upto_region 30 with fail
             have bT:=ds;have b0:=fun(W:World)(hW:Below wr.heap.size wr W)=>bv.out W E ⟨P1,c1⟩ ⟨Q1,d1⟩ (bT.below hW) (at9+(i:Int)) (by omega) ((T.take v64).drop u64) (by omega)
             have Hgood:=hid ba;clear ba cc;generalize hFE:E.write (at9+(i:Int)) ((T.take v64).drop u64)=FE at b0 Hgood;obtain⟨F,ew⟩:=FE;obtain⟨wk,hwk⟩:∃wk:Int,at9+(i:Int)=wk:=⟨_,rfl⟩;clear hFE;simp only[hwk]at b0 wA;have bE:=fun g (hg:wr.heap.size<=g)=>bT.apart hg
             have xq:=x;have KX:=hid (fun(W:World)(hW:Below wr.heap.size wr W)=>Aa (xq.bl hW));clear xk rk xkf ac plk plkf
             go_cut [19,20] (fun sa sb W=>∃(gz:Nat)(p9 q9:Pl),sa=.pointer (some ⟨gz,0,none⟩)/\sb=.int .i64 ew/\wr.heap.size<=gz/\Blk W gz 25 #[.string (bs F.data),.slice p9.a F.cache.length p9.c,.int .i64 F.fuse,.bool F.off,.slice q9.a F.bad.length q9.c]/\IsDk W F p9 q9/\(∀g',g'<wr.heap.size->DkOff g' E ⟨P1,c1⟩ ⟨Q1,d1⟩->DkOff g' F p9 q9)/\Below wr.heap.size wr W)
             case first=>
              have KX:=KX.out;clear HO Hgood ad aE bv HE r pl im i6 H2 az aC aF OM;have s0:Below wr.heap.size wr wr.drew:=(Below.refl _ _).drew;refine AV (S:=fun W=>Below wr.heap.size wr W) (late:=fun _=>false) (by kernel_rfl) ?_;generalize wr.drew=U0 at s0 ⊢;simp only[Nat.reduceAdd,Yn];refine Yt 0 146 (.pointer (some ⟨w.heap.size,0,none⟩)) rfl (by kernel_rfl) (fun _ _ _ h=>h) (fun W=>by first|rfl|go_simp) ?_;simp only[Yf];refine Yu 1 (some 147) (dval E ⟨P1,c1⟩ ⟨Q1,d1⟩) rfl (by kernel_rfl) (fun _ _ _ h=>h) (fun W hW=>by have h:=KX W hW;go_simp) s0 ?_;simp only[Yf];refine Yt 2 148 (.int .i64 k) rfl (by kernel_rfl) (fun _ _ _ h=>h) (fun W=>by first|rfl|go_simp) ?_;simp only[Yf];refine Yt 4 150 (.int .i64 (i:Int)) rfl (by kernel_rfl) (fun _ _ _ h=>h) (fun W=>by first|rfl|go_simp) ?_;simp only[Yf];refine Yt 6 152 (.string (bs T)) rfl (by kernel_rfl) (fun _ _ _ h=>h) (fun W=>by first|rfl|go_simp) ?_;simp only[Yf];refine Yt 7 153 (.int .i64 (i:Int)) rfl (by kernel_rfl) (fun _ _ _ h=>h) (fun W=>by first|rfl|go_simp) ?_;simp only[Yf];refine Yt 8 154 (.int .i64 (u64:Int)) rfl (by kernel_rfl) (fun _ _ _ h=>h) (fun W=>by first|rfl|go_simp) ?_;simp only[Yf];refine Yt 9 155 (.int .i64 (i:Int)) rfl (by kernel_rfl) (fun _ _ _ h=>h) (fun W=>by first|rfl|go_simp) ?_;simp only[Yf];refine Yt 10 156 (.int .i64 ((i:Int)+1)) rfl (by kernel_rfl) (fun _ _ _ h=>h) (fun W=>by first|rfl|go_simp) ?_;simp only[Yf];refine Yt 11 157 (.int .i64 (v64:Int)) rfl (by kernel_rfl) (fun _ _ _ h=>h) (fun W=>by first|rfl|go_simp) ?_;simp only[Yf];refine Yt 12 158 (.string (bs ((T.take v64).drop u64))) rfl (by kernel_rfl) (fun _ _ _ h=>h) (fun W=>by first|rfl|go_simp) ?_;simp only[Yf];refine Bq (i:=3) (k:=17) (by kernel_rfl) rfl rfl rfl rfl (fun K hK=>?_) (fun K hK=>?_)
              · skip
                refine oper_enter' (f:=63) (args:=#[.int .i64 k]) (w':=U0) (by go_simp) ((b4 U0).mono ?_);rintro e U1 ⟨rfl,hb0⟩;refine⟨_,rfl,?_⟩;show K (Act.put _ (some 149) _) _;have s1:=bt s0 hb0;refine hK _ _ (fun _ _=>s1) ?_;simp only[Yf];refine Yt 5 151 (.int .i64 wk) rfl (by kernel_rfl) (fun _ _ _ h=>h) (fun W=>by first|rfl|go_simp) ?_;simp only[Yf];refine Bq (i:=13) (k:=17) (by kernel_rfl) rfl rfl rfl rfl (fun K hK=>?_) (fun K hK=>?_)
                · skip
                  refine oper_enter' (f:=62) (args:=#[dval E ⟨P1,c1⟩ ⟨Q1,d1⟩,.int .i64 wk,.string (bs ((T.take v64).drop u64))]) (w':=U1) (by go_simp) ((b0 U1 s1).mono ?_);rintro e U2 ⟨⟨⟨P9,e9⟩,⟨Q9,f9⟩,rfl,d9,o9⟩,hb1⟩;refine⟨_,rfl,?_⟩;show K (Act.put _ (some 159) _) _;have s2:=bt s1 hb1;have O9:∀g',g'<wr.heap.size->DkOff g' E ⟨P1,c1⟩ ⟨Q1,d1⟩->DkOff g' F ⟨P9,e9⟩ ⟨Q9,f9⟩:=fun g' h1 h2=>o9 g' (Nat.lt_of_lt_of_le h1 s1.size) h2
                  refine hK _ _ (fun _ _=>s2) ?_;simp only[Yf];refine Yt 14 145 (.tuple #[dval F ⟨P9,e9⟩ ⟨Q9,f9⟩,.int .i64 ew]) rfl (by kernel_rfl) (fun _ _ _ h=>h) (fun W=>by first|rfl|go_simp) ?_;simp only[Yf];refine Yt 15 160 (dval F ⟨P9,e9⟩ ⟨Q9,f9⟩) rfl (by kernel_rfl) (fun _ _ _ h=>h) (fun W=>by first|rfl|go_simp) ?_;simp only[Yf];refine Yt 16 161 (.int .i64 ew) rfl (by kernel_rfl) (fun _ _ _ h=>h) (fun W=>by first|rfl|go_simp) ?_;simp only[Yf];refine Ak (i:=17) (by kernel_rfl) rfl rfl (fun K hK=>?_);refine AJ (v:=.pointer (some ⟨U2.heap.size,0,none⟩)) (w':=U2.alloc (.cells #[.string (bs []),.slice none 0 0,.int .i64 0,.bool false,.slice none 0 0] 25)) (by go_simp) ?_;show K (Act.put _ (some 19) _) _;have s3:=s2.alloc s2.size (.cells #[.string (bs []),.slice none 0 0,.int .i64 0,.bool false,.slice none 0 0] 25);have bz:=Blk.new U2 25 #[.string (bs []),.slice none 0 0,.int .i64 0,.bool false,.slice none 0 0];have af:wr.heap.size<=U2.heap.size:=s2.size;have og:=d9.apart (Nat.le_refl U2.heap.size);replace d9:=d9.below (Yb s3);refine hK _ _ (fun _ _=>s3) ?_;generalize U2.alloc (.cells #[.string (bs []),.slice none 0 0,.int .i64 0,.bool false,.slice none 0 0] 25)=U3 at s3 bz d9 ⊢;generalize U2.heap.size=gz at bz af og ⊢;simp only[Yf];refine Ak (i:=18) (by kernel_rfl) rfl rfl (fun K hK=>?_);have Yy:=ap5 (Ap bz) F P9 e9 Q9 f9;refine Yq Yy (by have H:=Yk5 bz Yy;go_simp) ?_;show K (Act.put _ none _) _;have aM:=Yy;have bw:=Ym5 s3 Yy af;have d5:=d9.ob bw og;refine hK _ _ (fun _ _=>bw) ?_
                  try simp only[Yf]
                  refine Yt 19 20 (.int .i64 ew) rfl (by kernel_rfl) (fun _ _ _ h=>h) (fun W=>by first|rfl|go_simp) ?_;simp only[Yf];refine AD (by kernel_rfl) ?_ _;go_wp2_with fail
                  go_meet
                  exact⟨gz,⟨P9,e9⟩,⟨Q9,f9⟩,rfl,rfl,af,aM,d5,O9,bw⟩
                · skip
                  refine AJ (v:=.pointer (some ⟨U1.heap.size,0,none⟩)) (w':=U1.alloc (.cells #[.string (bs []),.slice none 0 0,.int .i64 0,.bool false,.slice none 0 0] 25)) (by go_simp) ?_;show K (Act.put _ (some 19) _) _;have s2:=s1.alloc s1.size (.cells #[.string (bs []),.slice none 0 0,.int .i64 0,.bool false,.slice none 0 0] 25);have bz:=Blk.new U1 25 #[.string (bs []),.slice none 0 0,.int .i64 0,.bool false,.slice none 0 0];have af:wr.heap.size<=U1.heap.size:=s1.size;refine hK _ _ (fun _ _=>s2) ?_;generalize U1.alloc (.cells #[.string (bs []),.slice none 0 0,.int .i64 0,.bool false,.slice none 0 0] 25)=U2 at s2 bz ⊢;generalize U1.heap.size=gz at bz af ⊢;simp only[Yf];refine Ak (i:=13) (by kernel_rfl) rfl rfl (fun K hK=>?_);refine oper_enter' (f:=62) (args:=#[dval E ⟨P1,c1⟩ ⟨Q1,d1⟩,.int .i64 wk,.string (bs ((T.take v64).drop u64))]) (w':=U2) (by go_simp) ((b0 U2 s2).mono ?_);rintro e U3 ⟨⟨⟨P9,e9⟩,⟨Q9,f9⟩,rfl,d9,o9⟩,hb2⟩;refine⟨_,rfl,?_⟩;show K (Act.put _ (some 159) _) _;have s3:=bt s2 hb2;have O9:∀g',g'<wr.heap.size->DkOff g' E ⟨P1,c1⟩ ⟨Q1,d1⟩->DkOff g' F ⟨P9,e9⟩ ⟨Q9,f9⟩:=fun g' h1 h2=>o9 g' (Nat.lt_of_lt_of_le h1 s2.size) h2
                  have og:DkOff gz F ⟨P9,e9⟩ ⟨Q9,f9⟩:=o9 gz bz.lt (bE gz af);replace bz:=bz.bl hb2;refine hK _ _ (fun _ _=>s3) ?_;simp only[Yf];refine Yt 14 145 (.tuple #[dval F ⟨P9,e9⟩ ⟨Q9,f9⟩,.int .i64 ew]) rfl (by kernel_rfl) (fun _ _ _ h=>h) (fun W=>by first|rfl|go_simp) ?_;simp only[Yf];refine Yt 15 160 (dval F ⟨P9,e9⟩ ⟨Q9,f9⟩) rfl (by kernel_rfl) (fun _ _ _ h=>h) (fun W=>by first|rfl|go_simp) ?_;simp only[Yf];refine Yt 16 161 (.int .i64 ew) rfl (by kernel_rfl) (fun _ _ _ h=>h) (fun W=>by first|rfl|go_simp) ?_;simp only[Yf];refine Ak (i:=18) (by kernel_rfl) rfl rfl (fun K hK=>?_);have Yy:=ap5 (Ap bz) F P9 e9 Q9 f9;refine Yq Yy (by have H:=Yk5 bz Yy;go_simp) ?_;show K (Act.put _ none _) _;have aM:=Yy;have bw:=Ym5 s3 Yy af;have d5:=d9.ob bw og;refine hK _ _ (fun _ _=>bw) ?_
                  try simp only[Yf]
                  refine Yt 19 20 (.int .i64 ew) rfl (by kernel_rfl) (fun _ _ _ h=>h) (fun W=>by first|rfl|go_simp) ?_;simp only[Yf];refine AD (by kernel_rfl) ?_ _;go_wp2_with fail
                  go_meet
                  exact⟨gz,⟨P9,e9⟩,⟨Q9,f9⟩,rfl,rfl,af,aM,d5,O9,bw⟩
              · skip
                refine AJ (v:=.pointer (some ⟨U0.heap.size,0,none⟩)) (w':=U0.alloc (.cells #[.string (bs []),.slice none 0 0,.int .i64 0,.bool false,.slice none 0 0] 25)) (by go_simp) ?_;show K (Act.put _ (some 19) _) _;have s1:=s0.alloc s0.size (.cells #[.string (bs []),.slice none 0 0,.int .i64 0,.bool false,.slice none 0 0] 25);have bz:=Blk.new U0 25 #[.string (bs []),.slice none 0 0,.int .i64 0,.bool false,.slice none 0 0];have af:wr.heap.size<=U0.heap.size:=s0.size;refine hK _ _ (fun _ _=>s1) ?_;generalize U0.alloc (.cells #[.string (bs []),.slice none 0 0,.int .i64 0,.bool false,.slice none 0 0] 25)=U1 at s1 bz ⊢;generalize U0.heap.size=gz at bz af ⊢;simp only[Yf];refine Ak (i:=3) (by kernel_rfl) rfl rfl (fun K hK=>?_);refine oper_enter' (f:=63) (args:=#[.int .i64 k]) (w':=U1) (by go_simp) ((b4 U1).mono ?_);rintro e U2 ⟨rfl,hb1⟩;refine⟨_,rfl,?_⟩;show K (Act.put _ (some 149) _) _;have s2:=bt s1 hb1;replace bz:=bz.bl hb1;refine hK _ _ (fun _ _=>s2) ?_;simp only[Yf];refine Yt 5 151 (.int .i64 wk) rfl (by kernel_rfl) (fun _ _ _ h=>h) (fun W=>by first|rfl|go_simp) ?_;simp only[Yf];refine Ak (i:=13) (by kernel_rfl) rfl rfl (fun K hK=>?_);refine oper_enter' (f:=62) (args:=#[dval E ⟨P1,c1⟩ ⟨Q1,d1⟩,.int .i64 wk,.string (bs ((T.take v64).drop u64))]) (w':=U2) (by go_simp) ((b0 U2 s2).mono ?_);rintro e U3 ⟨⟨⟨P9,e9⟩,⟨Q9,f9⟩,rfl,d9,o9⟩,hb2⟩;refine⟨_,rfl,?_⟩;show K (Act.put _ (some 159) _) _;have s3:=bt s2 hb2;have O9:∀g',g'<wr.heap.size->DkOff g' E ⟨P1,c1⟩ ⟨Q1,d1⟩->DkOff g' F ⟨P9,e9⟩ ⟨Q9,f9⟩:=fun g' h1 h2=>o9 g' (Nat.lt_of_lt_of_le h1 s2.size) h2
                have og:DkOff gz F ⟨P9,e9⟩ ⟨Q9,f9⟩:=o9 gz bz.lt (bE gz af);replace bz:=bz.bl hb2;refine hK _ _ (fun _ _=>s3) ?_;simp only[Yf];refine Yt 14 145 (.tuple #[dval F ⟨P9,e9⟩ ⟨Q9,f9⟩,.int .i64 ew]) rfl (by kernel_rfl) (fun _ _ _ h=>h) (fun W=>by first|rfl|go_simp) ?_;simp only[Yf];refine Yt 15 160 (dval F ⟨P9,e9⟩ ⟨Q9,f9⟩) rfl (by kernel_rfl) (fun _ _ _ h=>h) (fun W=>by first|rfl|go_simp) ?_;simp only[Yf];refine Yt 16 161 (.int .i64 ew) rfl (by kernel_rfl) (fun _ _ _ h=>h) (fun W=>by first|rfl|go_simp) ?_;simp only[Yf];refine Ak (i:=18) (by kernel_rfl) rfl rfl (fun K hK=>?_);have Yy:=ap5 (Ap bz) F P9 e9 Q9 f9;refine Yq Yy (by have H:=Yk5 bz Yy;go_simp) ?_;show K (Act.put _ none _) _;have aM:=Yy;have bw:=Ym5 s3 Yy af;have d5:=d9.ob bw og;refine hK _ _ (fun _ _=>bw) ?_
                try simp only[Yf]
                refine Yt 19 20 (.int .i64 ew) rfl (by kernel_rfl) (fun _ _ _ h=>h) (fun W=>by first|rfl|go_simp) ?_;simp only[Yf];refine AD (by kernel_rfl) ?_ _;go_wp2_with fail
                go_meet
                exact⟨gz,⟨P9,e9⟩,⟨Q9,f9⟩,rfl,rfl,af,aM,d5,O9,bw⟩
             obtain⟨gz,⟨P9,e9⟩,⟨Q9,f9⟩,rfl,rfl,af,aM,d5,O9,bw9⟩:=hcut;clear bv b0 b4 bE KX bT wA wB wC wD e1 e2 q1 q6 hwk HE;replace hB:=bt hB bw9;replace x:=x.bl bw9;replace r:=r.bl bw9;replace pl:=pl.bl bw9;replace im:=im.below bw9;replace i6:=i6.below bw9;have gk:=blk5 aM;have aO:=ag.out;have c9:=aN.out;have ct:=O9 w.heap.size (by omega) ox;have cs:=O9 (w.heap.size+1) (by omega) or;have O8:=hid (fun g' (h1:g'<w6.heap.size+1) h2=>O9 g' (by omega) (HO g' h1 h2));clear af O9 HO;have xk:=Aa x;have xkf:=x.fz;have rk:=Aa r;have ac:=r.fz;have plk:=blk2 pl;have plkf:=pl.fz;have hB_1:=(((((hB).setCell (p:=⟨w.heap.size,0,none⟩) (by show _<=(w.heap.size:Nat);omega) (.string (bs F.data))).setCell (p:=⟨w.heap.size,1,none⟩) (by show _<=(w.heap.size:Nat);omega) (.slice P9 F.cache.length e9)).setCell (p:=⟨w.heap.size,2,none⟩) (by show _<=(w.heap.size:Nat);omega) (.int .i64 F.fuse)).setCell (p:=⟨w.heap.size,3,none⟩) (by show _<=(w.heap.size:Nat);omega) (.bool F.off)).setCell (p:=⟨w.heap.size,4,none⟩) (by show _<=(w.heap.size:Nat);omega) (.slice Q9 F.bad.length f9);have im_2:=im.ob hB_1 (by assumption);have i6_3:=i6.ob hB_1 (by assumption);have d5_4:=d5.ob hB_1 (by assumption);have x_5:=(((((x).set 0 (.string (bs F.data))).set 1 (.slice P9 F.cache.length e9)).set 2 (.int .i64 F.fuse)).set 3 (.bool F.off)).set 4 (.slice Q9 F.bad.length f9);simp only[Ye]at x_5;have bo:=Aa x_5;obtain⟨r_6,bi,aL⟩:=Z11f (Yi r hB_1 (by omega));obtain⟨pl_7,plk_7⟩:=Z2 (Yi pl hB_1 (by omega));clear aO c9;by_cases hw0:ew=0
             · subst hw0;clear ad;go_wp2_with fail
               go_roundw
               case rel=>exact⟨i+1,F,⟨P9,e9⟩,⟨Q9,f9⟩,by omega,by go_num,Hgood,x_5,r_6,pl_7,d5_4,im_2,i6_3,O8.out,hB_1⟩
               case measure=>simp[intOf];omega
             · have n1:(ew !=0)=true:=bne_iff_ne.2 hw0;have HF:=hid (show fillN D at9 T 2=(F,ew) by rw[ad.out i hlt (by rw[Hgood.out];exact hw0),Hgood.out]);have Hr:=hid (H2.out.trans ((if_pos (by rw[HF.out];exact hw0)).trans (by rw[HF.out])));clear ad Hgood hw0;have a5:=ap11 (Al hB_1 (g:=w.heap.size+1) (by omega)) F P9 e9 Q9 f9 g h seq pos R3 ms.length r3 false;have bL:=im_2.oc a5 (by assumption);have b2:=d5_4.oc a5 (by assumption);obtain⟨ck,yy⟩:=Z11 (Yh r_6 a5);go_wp2_with fail
               rw[Hr.out];exact retIm b2 bL (fun g' h1 h2=>⟨O8.out g' (by have:=ag.out;omega) h2.1,OM.out g' h1 h2⟩) a5 (by simp[results,Tryz.results20,go_sem,yy]) rfl
           · obtain rfl:i=2:=by omega
             have b3:E.fit=true:=by have:=aE.out 2;rw[HE.out]at this;exact this
             have H4:=H2.out;rw[HE.out]at H4;replace H4:=hid (H4.trans (if_neg (by simp)));have HP:=hid (show Im.writeNew.pointed ⟨E,g,h,⟨seq,pos⟩,ms,false⟩ L u 1 k=if(Pn.ptPoint E L g h u 1 k).2≠0 then(⟨E,g,h,⟨seq,pos⟩,ms,false⟩,(Pn.ptPoint E L g h u 1 k).2)else Im.done ⟨E,g,h,⟨seq,pos⟩,ms,false⟩ (Pn.ptPoint E L g h u 1 k).1 from rfl);have bC:=hid (fun(W:World)(i1:IsDk W E ⟨P1,c1⟩ ⟨Q1,d1⟩)(i2:IsPn W L ⟨PA,pa⟩ ⟨QA,qa⟩)=>ND E L ⟨P1,c1⟩ ⟨Q1,d1⟩ ⟨PA,pa⟩ ⟨QA,qa⟩ W i1 i2 b3 aC.out g h (by omega) (by omega) u 1 k ⟨by omega,by omega⟩);have bq:=hid (Pn.ptPoint_fit b3 aC.out g h u 1 k);have bB:=hid (az.out E b3);generalize Pn.ptPoint E L g h u 1 k=PT at bC bq HP;obtain⟨L2,ep⟩:=PT;have O8:=hid HO;clear ad ar aE bv b4 H2 HE HO az aC aF b3;go_wp2_with fail
             refine((bC.out _ ds i6)).mono ?_;rintro e w9 ⟨⟨⟨PB,pb⟩,⟨QB,qb⟩,rfl,i9,o9⟩,hb9⟩;replace hB:=bt hB hb9;replace ds:=ds.below hb9;replace im:=im.below hb9;replace i6:=i6.below hb9;replace x:=x.bl hb9;replace xk:=Aa x;replace xkf:=x.fz;replace r:=r.bl hb9;replace rk:=Aa r;replace ac:=r.fz;replace pl:=pl.bl hb9;replace plk:=blk2 pl;replace plkf:=pl.fz;have cq:=o9 w6.heap.size (by have:=aN.out.2;omega) cj;have cr:=o9 (w.heap.size+1) (by have:=aN.out.1;omega) ch;have bI:=hid (r.lt);clear o9 bC;have aO:=ag.out;have hB_1:=((hB).setCell (p:=⟨w6.heap.size,0,none⟩) (by show _<=(w6.heap.size:Nat);omega) (.slice PB L2.targets.length pb)).setCell (p:=⟨w6.heap.size,1,none⟩) (by show _<=(w6.heap.size:Nat);omega) (.slice QB L2.data.length qb);have aG:=ds.oa hB_1 (by assumption);have ae:=im.oa hB_1 (by assumption);have bc:=i6.oa hB_1 (by assumption);obtain⟨x_5,bo⟩:=Z11 (Yk x hB_1 (by omega));obtain⟨r_6,bi,aL⟩:=Z11f (Yk r hB_1 (by omega));have pl_7:=((pl).set 0 (.slice PB L2.targets.length pb)).set 1 (.slice QB L2.data.length qb);simp only[Ye]at pl_7;have plk_7:=blk2 pl_7;have aR:=i9.oa hB_1 (by assumption);clear aO;by_cases hp:ep=0
             · subst hp;have Hr:=hid (show Im.writeIn ⟨D,g,h,⟨seq,pos⟩,ms,false⟩ u off s=Im.done ⟨E,g,h,⟨seq,pos⟩,ms,false⟩ L2 from H4.out.trans (HP.out.trans (if_neg (by simp))));have bA:=hid (fun(W:World)(i1:IsDk W E ⟨P1,c1⟩ ⟨Q1,d1⟩)(i2:IsMs W ms ⟨R3,r3⟩)(i3:IsPn W L2 ⟨PB,pb⟩ ⟨QB,qb⟩)=>CK ⟨E,g,h,⟨seq,pos⟩,ms,false⟩ L2 ⟨P1,c1⟩ ⟨Q1,d1⟩ ⟨R3,r3⟩ ⟨PB,pb⟩ ⟨QB,qb⟩ W ⟨i1,i2⟩ i3 bB.out bq.out);generalize Im.done ⟨E,g,h,⟨seq,pos⟩,ms,false⟩ L2=DN at bA Hr;obtain⟨⟨F,g9,h9,⟨s9,p9⟩,m9,b9⟩,ed⟩:=DN;clear H4 HP bq bB;go_wp2_with fail
               refine((bA.out _ aG ae aR)).mono ?_;rintro e wd ⟨⟨⟨PC,pc⟩,⟨QC,qc⟩,⟨RC,rc⟩,rfl,ic,oc⟩,hbd⟩;replace hB:=bt hB_1 hbd;replace ds:=aG.below hbd;replace im:=ae.below hbd;replace i6:=bc.below hbd;replace x:=x_5.bl hbd;replace xk:=Aa x;replace xkf:=x.fz;replace r:=r_6.bl hbd;replace rk:=Aa r;replace ac:=r.fz;replace pl:=pl_7.bl hbd;replace plk:=blk2 pl;replace plkf:=pl.fz;replace i9:=aR.below hbd;clear hB_1 aG ae bc bo x_5 bi aL r_6 plk_7 pl_7 aR;have cb:=bI.out;have bM:=oc (w.heap.size+1) (by simp only[World.size_setCell];omega) ⟨or,c2⟩;have OC:=hid (fun g' (h1:g'<w.heap.size) h2=>oc g' (by simp only[World.size_setCell];omega) h2);have oF:=bM.1;have oM:=bM.2;have cf:=ic.d;have cg:=ic.m;clear bA oc bM ic cb;have aO:=ag.out;have a7:=ap11 (Al hB (g:=w.heap.size+1) (by omega)) F PC pc QC qc g9 h9 s9 p9 RC m9.length rc b9;have aI:=ds.oc a7 (by assumption);have aJ:=im.oc a7 (by assumption);have bg:=Yh r a7;have aS:=cf.oc a7 (by assumption);have aT:=cg.oc a7 (by assumption);clear aO;have yy:=Aa bg;go_wp2_with fail
               rw[Hr.out];exact retIm aS aT (fun g' h1 h2=>OC.out g' h1 ⟨O8.out g' (by have:=ag.out;omega) h2.1,OM.out g' h1 h2⟩) a7 (by simp[results,Tryz.results20,go_sem,yy]) rfl
             · have n1:(ep !=0)=true:=bne_iff_ne.2 hp;have Hr:=hid (H4.out.trans (HP.out.trans (if_pos hp)));clear H4 HP bq bB hp;have a7:=ap11 (Al hB_1 (g:=w.heap.size+1) (by omega)) E P1 c1 Q1 d1 g h seq pos R3 ms.length r3 false;have aI:=aG.oc a7 (by assumption);have aJ:=ae.oc a7 (by assumption);obtain⟨bg,yy⟩:=Z11 (Yh r_6 a7);go_wp2_with fail
               rw[Hr.out];exact retIm aI aJ (fun g' h1 h2=>⟨O8.out g' (by have:=ag.out;omega) h2.1,OM.out g' h1 h2⟩) a7 (by simp[results,Tryz.results20,go_sem,yy]) rfl
        · have n1:(eb !=0)=true:=bne_iff_ne.2 hbe;have Hr:=hid (aY.out.trans ((if_neg (by simp)).trans (if_pos hbe)));clear aY aA aB aC aF az hbe;have a5:=ap11 (Al hB (g:=w.heap.size+1) (by omega)) D A1 a1 A2 a2 g h seq pos R3 ms.length r3 false;have an:=hd.oc a5 (by assumption);have av:=im.oc a5 (by assumption);obtain⟨bQ,yy⟩:=Z11 (Yh r a5);go_wp2_with fail
          rw[Hr.out];exact retIm an av (fun g' h1 h2=>⟨h2.1,OM.out g' h1 h2⟩) a5 (by simp[results,Tryz.results20,go_sem,yy]) rfl
      · have n1:(ea !=0)=true:=bne_iff_ne.2 ha;have Hr:=hid (aY.out.trans (if_pos ha));clear aY aA aB aC aF az ha;have a5:=ap11 (Al hB_1 (g:=w.heap.size+1) (by omega)) D A1 a1 A2 a2 g h seq pos R3 ms.length r3 false;have an:=am.oc a5 (by assumption);have av:=ae.oc a5 (by assumption);obtain⟨bQ,yy⟩:=Z11 (Yh bR a5);go_wp2_with fail
        rw[Hr.out];exact retIm an av (fun g' h1 h2=>⟨h2.1,OM.out g' h1 h2⟩) a5 (by simp[results,Tryz.results20,go_sem,yy]) rfl
   · have n1:(et !=0)=true:=bne_iff_ne.2 ht;have Hr:=hid (show Im.writeIn ⟨D,g,h,⟨seq,pos⟩,ms,false⟩ u off s=(⟨D,g,h,⟨seq,pos⟩,ms,false⟩,et) by rw[HW.out];exact(if_neg (by simp)).trans (if_pos ht));clear HW aD aZ aA aB aC aF az ap aq ht;have a0:=ap11 (Al a4 (g:=w.heap.size+1) (by omega)) D A1 a1 A2 a2 g h seq pos R3 ms.length r3 false;have ah:=a8.oc a0 (by assumption);have ax:=Yh ao a0;have ai:=a9.oc a0 (by assumption);have yy:=Aa ax;go_wp2_with fail
     rw[Hr.out];exact retIm ah ai (fun g' h1 h2=>⟨h2.1,OM.out g' h1 h2⟩) a0 (by simp[results,Tryz.results20,go_sem,yy]) rfl
 · have n1:(er !=0)=true:=bne_iff_ne.2 he;have Hr:=hid (show Im.writeIn ⟨D,g,h,⟨seq,pos⟩,ms,false⟩ u off s=(⟨D,g,h,⟨seq,pos⟩,ms,false⟩,er) by rw[HW.out];exact if_pos he);clear HW aD aZ aA aB aC aF az ap aq b1 he;have a4:=ap11 (Al a6 (g:=w.heap.size+1) (by omega)) D A1 a1 A2 a2 g h seq pos R3 ms.length r3 false;have a8:=au.oc a4 (by assumption);obtain⟨aH,ak,ab⟩:=Z11f (Yg aW a4 (by omega));obtain⟨ao,aj,aa⟩:=Z11f (Yh aU a4);have a9:=aw.oc a4 (by assumption);have yy:=Aa ao;go_wp2_with fail
   rw[Hr.out];exact retIm a8 a9 (fun g' h1 h2=>⟨h2.1,OM.out g' h1 h2⟩) a4 (by simp[results,Tryz.results20,go_sem,yy]) rfl
theorem NL (x:Im)(p q r:Pl)(w:World)(hI:IsIm w x p q r)(ok:x.Ok)(u off:Int)(s:List UInt8)(hu64:okInt u)(ho64:okInt off)(hs64:s.length<=9223372036854775807):
 CX 20 #[imval x p q r,.int .i64 u,.int .i64 off,.string (bs s)] w (RetIm w.heap.size x p q r (x.write u off s)):=by
 by_cases hin:x.br=false/\(0<=u/\u<x.g)/\0<=off/\off+s.length<=128/\s≠[]
 · exact NN x p q r w hI ok hin.1 u off s hin.2.1 hin.2.2.1 hin.2.2.2.1 hin.2.2.2.2
 have a9:=hI.apart (g:=w.heap.size+1) (by omega);have hg:=ok.g;obtain⟨hd,hm⟩:=hI;unfold okInt at hu64 ho64;clear ok;obtain⟨D,g,h,⟨seq,pos⟩,maps,br⟩:=x;simp only at hd hm a9 hin hg;obtain⟨A1,a1⟩:=p;obtain⟨A2,a2⟩:=q;obtain⟨A3,a3⟩:=r;cases br with
 |true=>
  clear hin;have Hr:=hid (show Im.write ⟨D,g,h,⟨seq,pos⟩,maps,true⟩ u off s=(⟨D,g,h,⟨seq,pos⟩,maps,true⟩,24)from if_pos rfl);have hB:=Y0 w;clear a9;have x:=Am (Blk.new w 33) D A1 a1 A2 a2 g h seq pos A3 maps.length a3 true;have a0:=Ya hB x;have a5:=hd.below (Yb a0);have a7:=hm.below (Yb a0);have r:=Am (Yd a0 33) D A1 a1 A2 a2 g h seq pos A3 maps.length a3 true;simp only[Ys]at r;have rk:=Aa r;have a4:=Ya a0 r;have a6:=a5.below (Yb a4);have a8:=a7.below (Yb a4);have yy:=rk;have bw:=a4;have dw:=a6;have mw:=a8;go_enter Tryz.func20,Tryz.ntmps20;go_wp2_with fail
  rw[Hr.out];exact retIm dw mw (fun _ _ h=>h) bw (by simp[results,Tryz.results20,go_sem,yy]) rfl
 |false=>
  by_cases hb:(u<0\/g<=u)\/off<0\/128<s.length\/128-(s.length:Int)<off
  · by_cases h0:u<0
    · skip
      have Hr:=hid (show Im.write ⟨D,g,h,⟨seq,pos⟩,maps,false⟩ u off s=(⟨D,g,h,⟨seq,pos⟩,maps,false⟩,10)from(if_neg (by simp)).trans (if_pos hb));clear hin hb;have hB:=Y0 w;clear a9;have x:=Am (Blk.new w 33) D A1 a1 A2 a2 g h seq pos A3 maps.length a3 false;have a0:=Ya hB x;have a5:=hd.below (Yb a0);have a7:=hm.below (Yb a0);have r:=Am (Yd a0 33) D A1 a1 A2 a2 g h seq pos A3 maps.length a3 false;simp only[Ys]at r;have rk:=Aa r;have a4:=Ya a0 r;have a6:=a5.below (Yb a4);have a8:=a7.below (Yb a4);have yy:=rk;have bw:=a4;have dw:=a6;have mw:=a8;go_enter Tryz.func20,Tryz.ntmps20;go_wp2_with fail
      rw[Hr.out];exact retIm dw mw (fun _ _ h=>h) bw (by simp[results,Tryz.results20,go_sem,yy]) rfl
    · by_cases h1:g<=u
      · skip
        have Hr:=hid (show Im.write ⟨D,g,h,⟨seq,pos⟩,maps,false⟩ u off s=(⟨D,g,h,⟨seq,pos⟩,maps,false⟩,10)from(if_neg (by simp)).trans (if_pos hb));clear hin hb;have hB:=Y0 w;clear a9;have x:=Am (Blk.new w 33) D A1 a1 A2 a2 g h seq pos A3 maps.length a3 false;have a0:=Ya hB x;have a5:=hd.below (Yb a0);have a7:=hm.below (Yb a0);have r:=Am (Yd a0 33) D A1 a1 A2 a2 g h seq pos A3 maps.length a3 false;simp only[Ys]at r;have rk:=Aa r;have a4:=Ya a0 r;have a6:=a5.below (Yb a4);have a8:=a7.below (Yb a4);have yy:=rk;have bw:=a4;have dw:=a6;have mw:=a8;go_enter Tryz.func20,Tryz.ntmps20;go_wp2_with fail
        rw[Hr.out];exact retIm dw mw (fun _ _ h=>h) bw (by simp[results,Tryz.results20,go_sem,yy]) rfl
      · by_cases h2:off<0
        · skip
          have Hr:=hid (show Im.write ⟨D,g,h,⟨seq,pos⟩,maps,false⟩ u off s=(⟨D,g,h,⟨seq,pos⟩,maps,false⟩,10)from(if_neg (by simp)).trans (if_pos hb));clear hin hb;have hB:=Y0 w;clear a9;have x:=Am (Blk.new w 33) D A1 a1 A2 a2 g h seq pos A3 maps.length a3 false;have a0:=Ya hB x;have a5:=hd.below (Yb a0);have a7:=hm.below (Yb a0);have r:=Am (Yd a0 33) D A1 a1 A2 a2 g h seq pos A3 maps.length a3 false;simp only[Ys]at r;have rk:=Aa r;have a4:=Ya a0 r;have a6:=a5.below (Yb a4);have a8:=a7.below (Yb a4);have yy:=rk;have bw:=a4;have dw:=a6;have mw:=a8;go_enter Tryz.func20,Tryz.ntmps20;go_wp2_with fail
          rw[Hr.out];exact retIm dw mw (fun _ _ h=>h) bw (by simp[results,Tryz.results20,go_sem,yy]) rfl
        · by_cases h3:(128:Int)<(s.length:Int)
          · skip
            have Hr:=hid (show Im.write ⟨D,g,h,⟨seq,pos⟩,maps,false⟩ u off s=(⟨D,g,h,⟨seq,pos⟩,maps,false⟩,10)from(if_neg (by simp)).trans (if_pos hb));clear hin hb;have hB:=Y0 w;clear a9;have x:=Am (Blk.new w 33) D A1 a1 A2 a2 g h seq pos A3 maps.length a3 false;have a0:=Ya hB x;have a5:=hd.below (Yb a0);have a7:=hm.below (Yb a0);have r:=Am (Yd a0 33) D A1 a1 A2 a2 g h seq pos A3 maps.length a3 false;simp only[Ys]at r;have rk:=Aa r;have a4:=Ya a0 r;have a6:=a5.below (Yb a4);have a8:=a7.below (Yb a4);have yy:=rk;have bw:=a4;have dw:=a6;have mw:=a8;go_enter Tryz.func20,Tryz.ntmps20;go_wp2_with fail
            rw[Hr.out];exact retIm dw mw (fun _ _ h=>h) bw (by simp[results,Tryz.results20,go_sem,yy]) rfl
          · skip
            have Hr:=hid (show Im.write ⟨D,g,h,⟨seq,pos⟩,maps,false⟩ u off s=(⟨D,g,h,⟨seq,pos⟩,maps,false⟩,10)from(if_neg (by simp)).trans (if_pos hb));have ac:decide ((128:Int)-(s.length:Int)<off)=true:=decide_eq_true (by omega);clear hin hb;have hB:=Y0 w;clear a9;have x:=Am (Blk.new w 33) D A1 a1 A2 a2 g h seq pos A3 maps.length a3 false;have a0:=Ya hB x;have a5:=hd.below (Yb a0);have a7:=hm.below (Yb a0);have r:=Am (Yd a0 33) D A1 a1 A2 a2 g h seq pos A3 maps.length a3 false;simp only[Ys]at r;have rk:=Aa r;have a4:=Ya a0 r;have a6:=a5.below (Yb a4);have a8:=a7.below (Yb a4);have yy:=rk;have bw:=a4;have dw:=a6;have mw:=a8;go_enter Tryz.func20,Tryz.ntmps20;go_wp2_with fail
            rw[Hr.out];exact retIm dw mw (fun _ _ h=>h) bw (by simp[results,Tryz.results20,go_sem,yy]) rfl
  · have aa:s=[]:=Classical.byContradiction fun hc=>hin ⟨rfl,by omega,by omega,by omega,hc⟩
    subst aa;have Hr:=hid (show Im.write ⟨D,g,h,⟨seq,pos⟩,maps,false⟩ u off []=(⟨D,g,h,⟨seq,pos⟩,maps,false⟩,0)from(if_neg (by simp)).trans ((if_neg hb).trans (if_pos rfl)));have ad:decide (u<0)=false:=decide_eq_false (by omega);have ae:decide (g<=u)=false:=decide_eq_false (by omega);have af:decide (off<0)=false:=decide_eq_false (by omega);have ab:off<=128:=by have:=hb;simp only[List.length_nil]at this;omega
    have ag:decide ((128:Int)<off)=false:=decide_eq_false (by omega);clear hin hs64;have hB:=Y0 w;clear a9;have x:=Am (Blk.new w 33) D A1 a1 A2 a2 g h seq pos A3 maps.length a3 false;have a0:=Ya hB x;have a5:=hd.below (Yb a0);have a7:=hm.below (Yb a0);have r:=Am (Yd a0 33) D A1 a1 A2 a2 g h seq pos A3 maps.length a3 false;simp only[Ys]at r;have rk:=Aa r;have a4:=Ya a0 r;have a6:=a5.below (Yb a4);have a8:=a7.below (Yb a4);have yy:=rk;have bw:=a4;have dw:=a6;have mw:=a8;go_enter Tryz.func20,Tryz.ntmps20;go_wp2_with fail
    rw[Hr.out];exact retIm dw mw (fun _ _ h=>h) bw (by simp[results,Tryz.results20,go_sem,yy]) rfl
theorem DM:smQ0.Fit:=Pn.set_fit Pn.none_fit 0 _
theorem IJ:smQ.Fit:=by
 unfold smQ Pn.rtSet
 split
 · exact DM
 · exact Pn.set_fit DM _ _
theorem II:smP.Fit:=Pn.cntAdd_fit Ek.1 IJ 0 1
theorem NK (w:World):Calls Tryz.prog 19 #[] w fun e w'=>(∃p q r,e=.returned (imval smI p q r)/\IsIm w' smI p q r)/\Below w.heap.size w w':=by
 obtain⟨e1,e2,e3,e4,e5,e6,e7,e8,e9⟩:=Ek;have ad:∀(g:Nat)(p q:Pl),DkOff g smD0 p q:=fun g p q=>⟨.inl rfl,.inl rfl⟩
 have hn:=N1 112;rw[show Dk.fresh 112=(smD0,0)from Dk.fresh_blank (n:=112) (by omega) (by omega)]at hn;have aI:=On 20 8;rw[e2]at aI;have aH:(writeW 20 8).length<=9223372036854775807:=by
  have:(writeW 20 8).length=64:=by decide+kernel
  omega
 have ar:=fun(W:World)=>Cp Pn.none ⟨none,0⟩ ⟨none,0⟩ W (AI _) 0 (by decide) (writeW 20 8) aH (by decide) rfl
 rw[show Pn.set Pn.none 0 (writeW 20 8)=(smQ0,0)from Prod.ext rfl e3]at ar;have ac:=fun(W:World)(p q:Pl)(hL:IsPn W smQ0 p q)=>Nz smQ0 p q W hL (by have:=DM.2.1;omega) DM.1 0 1 (by decide)
 rw[show Pn.rtSet smQ0 0 1=(smQ,0)from Prod.ext rfl e4]at ac;have ap:=fun(W:World)(p q p' q':Pl)(hD:IsDk W smD0 p q)(hL:IsPn W smQ p' q')=>DH smD0 smQ p q p' q' W hD hL e1 IJ 0 1 (by decide)
 rw[show Pn.cntAdd smD0 smQ 0 1=(smP,0)from Prod.ext rfl e5]at ap;have aq:=fun(W:World)(p q p' q':Pl)(hD:IsDk W smD0 p q)(hL:IsPn W smP p' q')=>Ic smD0 smP p q p' q' W hD hL II.1 (by have:=II.2.1;omega)
 rw[show Pn.lay smD0 smP=(smD1,0)from Prod.ext rfl e6]at aq;have aG:=fun(W:World)(p q:Pl)(hD:IsDk W smD1 p q)=>DB smD1 p q W hD e7
 rw[show smD1.flush=(smD,0)from Prod.ext rfl e8]at aG;have HI:=hid (show smI=⟨smD,20,8,⟨1,0⟩,[],false⟩from rfl);generalize hI:smI=I0 at*;clear hI e1 e2 e3 e4 e5 e6 e7 e8 e9 aH;generalize smD0=E0 at*;generalize smQ0=Q0 at*;generalize smQ=Q1 at*;generalize smP=P0 at*;generalize smD1=D1 at*;generalize smD=D0 at*;generalize writeW 20 8=S4 at*;have hB:=Y0 w;have r:=apz (Blk.new w 33);have ao:=Ya hB r;go_enter Tryz.func19,Tryz.ntmps19;go_wp2_with fail
 refine((hn _)).mono ?_;rintro e w1 ⟨⟨p1,q1,rfl,d1⟩,hb1⟩;replace hB:=bt ao hb1;replace r:=r.bl hb1;clear ao;have aZ:w.heap.size<w1.heap.size:=(r).lt;obtain⟨x,xk,xkf⟩:=Z5f (apc5 (Blk.new w1 25) E0 p1.a p1.c q1.a q1.c);have ab:=Ya hB x;have aJ:=Yc r ab;have ak:=d1.below (Yb ab);go_wp2_with fail
 refine((aI _)).mono ?_;rintro e w2 ⟨rfl,hb2⟩;replace hB:=bt ab hb2;replace r:=aJ.bl hb2;replace d1:=ak.below hb2;replace x:=x.bl hb2;replace xk:=blk5 x;replace xkf:=x.fz;clear ab aJ ak;go_wp2_with fail
 refine((ar _)).mono ?_;rintro e w3 ⟨⟨p2,q2,rfl,i2,o2⟩,hb3⟩;replace hB:=bt hB hb3;replace r:=r.bl hb3;replace d1:=d1.below hb3;replace x:=x.bl hb3;replace xk:=blk5 x;replace xkf:=x.fz;clear o2;have b0:=(x).lt;have aV:=i2.apart (Nat.le_refl w3.heap.size);obtain⟨y,yk,ykf⟩:=Z2f (apc2 (Blk.new w3 63) Q0 p2.a p2.c q2.a q2.c);have a4:=Ya hB y;have aK:=Yc r a4;have al:=d1.below (Yb a4);have aM:=Yc x a4;have ae:=i2.below (Yb a4);have aS:=(y).lt;go_wp2_with fail
 refine((ac _ p2 q2 ae)).mono ?_;rintro e w4 ⟨⟨p3,q3,rfl,i3,o3⟩,hb4⟩;replace hB:=bt a4 hb4;replace r:=aK.bl hb4;replace d1:=al.below hb4;replace x:=aM.bl hb4;replace xk:=blk5 x;replace xkf:=x.fz;replace i2:=ae.below hb4;replace y:=y.bl hb4;replace yk:=blk2 y;replace ykf:=y.fz;clear a4 aK al aM ae;have aW:=o3 w3.heap.size aS aV;clear o3;have b1:=ad w3.heap.size p1 q1;have a0:=ap2 (Ae hB (g:=w3.heap.size) (by omega)) Q1 p3.a p3.c q3.a q3.c;have au:=Yk r a0 (by omega);have a5:=d1.oa a0 (by assumption);obtain⟨av,aw⟩:=Z5 (Yk x a0 (by omega));obtain⟨aj,aB⟩:=Z2 (Yl y a0);have a9:=i3.oa a0 (by assumption);have aT:=(aj).lt;go_wp2_with fail
 refine((ap _ p1 q1 p3 q3 a5 a9)).mono ?_;rintro e w5 ⟨⟨p4,q4,rfl,i4,o4⟩,hb5⟩;replace hB:=bt a0 hb5;replace r:=au.bl hb5;replace d1:=a5.below hb5;replace x:=av.bl hb5;replace xk:=blk5 x;replace xkf:=x.fz;replace y:=aj.bl hb5;replace yk:=blk2 y;replace ykf:=y.fz;replace i3:=a9.below hb5;clear a0 au a5 aw av aB aj a9;have b3:=o4 w3.heap.size aT aW;clear o4;have a1:=ap2 (Ae hB (g:=w3.heap.size) (by omega)) P0 p4.a p4.c q4.a q4.c;have af:=Yk r a1 (by omega);have a6:=d1.oa a1 (by assumption);obtain⟨ah,ax⟩:=Z5 (Yk x a1 (by omega));obtain⟨az,aC⟩:=Z2 (Yl y a1);have aa:=i4.oa a1 (by assumption);have aQ:=(ah).lt;have aO:=(af).lt;go_wp2_with fail
 refine((aq _ p1 q1 p4 q4 a6 aa)).mono ?_;rintro e w6 ⟨⟨p5,q5,rfl,d5,o5⟩,hb6⟩;replace hB:=bt a1 hb6;replace r:=af.bl hb6;replace d1:=a6.below hb6;replace x:=ah.bl hb6;replace xk:=blk5 x;replace xkf:=x.fz;replace y:=az.bl hb6;replace yk:=blk2 y;replace ykf:=y.fz;replace i4:=aa.below hb6;clear a1 af a6 ax ah aC az aa;have aU:=o5 w1.heap.size aQ (ad _ _ _);have aX:=o5 w.heap.size aO (ad _ _ _);clear o5;have a2:=ap5 (Ao hB (g:=w1.heap.size) (by omega)) D1 p5.a p5.c q5.a q5.c;have ag:=Yi r a2 (by omega);obtain⟨ai,ay⟩:=Z5 (Yj x a2);have aA:=Yi y a2 (by omega);have a7:=d5.ob a2 (by assumption);have aR:=(ai).lt;have aP:=(ag).lt;go_wp2_with fail
 refine((aG _ p5 q5 a7)).mono ?_;rintro e w7 ⟨⟨p6,q6,rfl,d6,o6⟩,hb7⟩;replace hB:=bt a2 hb7;replace r:=ag.bl hb7;replace x:=ai.bl hb7;replace xk:=blk5 x;replace xkf:=x.fz;replace y:=aA.bl hb7;replace yk:=blk2 y;replace ykf:=y.fz;replace d5:=a7.below hb7;clear a2 ag ay ai aA a7;have b2:=o6 w1.heap.size aR aU;have b4:=o6 w.heap.size aP aX;clear o6;have a3:=ap5 (Ao hB (g:=w1.heap.size) (by omega)) D0 p6.a p6.c q6.a q6.c;obtain⟨aD,aL,aF⟩:=Z11f (Yi r a3 (by omega));obtain⟨aY,aN⟩:=Z5 (Yj x a3);have am:=d6.ob a3 (by assumption);have a8:=ap11 (Al a3 (g:=w.heap.size) (by omega)) D0 p6.a p6.c q6.a q6.c 20 8 1 0 none 0 0 false;have aE:=Yh aD a8;have an:=am.oc a8 (by assumption);have yy:=Aa aE;have dd:=an;have bb:=a8;go_wp2_with fail
 refine bodyPost_ret (v:=imval ⟨D0,20,8,⟨1,0⟩,[],false⟩ p6 q6 ⟨none,0⟩) (by simp[results,Tryz.results19,go_sem,yy]) rfl ?_;exact⟨⟨p6,q6,⟨none,0⟩,by rw[HI.out],by rw[HI.out];exact⟨dd,Dh _⟩⟩,bb⟩
theorem Tiles.next {a n:Int}{l:List Cut}(h:Tiles a n l)(hn:0<n):∃l',l=(a/128,a%128,min n (128-a%128))::l'/\Tiles (a+min n (128-a%128)) (n-min n (128-a%128)) l':=by
 cases h with
 |nil h=>omega
 |cons h1 h2 h3=>subst h2;exact⟨_,rfl,h3⟩
theorem Tiles.done {a n:Int}{l:List Cut}(h:Tiles a n l)(hn:n<=0):l=[]:=by
 cases h with
 |nil h=>rfl
 |cons h1=>omega
end
section
open Go.RowKit Go.Shelf
def slB (W:World)(B:Nat):Option Nat:=match W.cell? ⟨B,0,none⟩with|some v=>v.ownBlock| .none=>.none
structure KeepS (B:Nat) (X Y:World):Prop where
 size:X.heap.size<=Y.heap.size
 same:∀(k:Nat)(o:Obj),X.heap[k]? =some o->o.isCells=true->k≠B->slB X B≠some k->Y.heap[k]? =some o
 sl:slB Y B=slB X B\/∃g,slB Y B=some g/\X.heap.size<=g
 wf:(∀g,slB X B=some g->g<X.heap.size)->∀g,slB Y B=some g->g<Y.heap.size
theorem KeepS.trans {B:Nat}{X Y Z:World}(h:KeepS B X Y)(k:KeepS B Y Z):KeepS B X Z:=by
 refine⟨Nat.le_trans h.size k.size,fun i o hi hc hb hs=>?_,?_,fun w=>k.wf (h.wf w)⟩
 · have a0:=(Array.getElem?_eq_some_iff.1 hi).1;refine k.same i o (h.same i o hi hc hb hs) hc hb fun e=>?_
   rcases h.sl with h1|⟨g,h1,h2⟩
   · exact hs (h1▸e)
   · rw[h1]at e;injection e with e;omega
 · rcases k.sl with k1|⟨g,k1,k2⟩
   · rw[k1];exact h.sl
   · exact .inr ⟨g,k1,Nat.le_trans h.size k2⟩
theorem DL {X Y:World}{B:Nat}(h:Y.heap[B]? =X.heap[B]?):slB Y B=slB X B:=by
 unfold slB World.cell?;simp only[h]
theorem KeepS.of_same {B:Nat}{X Y:World}(hs:X.heap.size<=Y.heap.size)(hB:Y.heap[B]? =X.heap[B]?)(h:∀(k:Nat)(o:Obj),X.heap[k]? =some o->o.isCells=true->Y.heap[k]? =some o):KeepS B X Y:=
 ⟨hs,fun k o hk hc _ _=>h k o hk hc,.inl (DL hB),fun w g hg=>by rw[DL hB]at hg;exact Nat.lt_of_lt_of_le (w g hg) hs⟩
theorem KeepS.putObj {B:Nat}{W:World}{l:Nat}{o o':Obj}(hB:B≠l)(hl:W.heap[l]? =some o)(hc:o.isCells=false):KeepS B W (W.putObj l o'):=by
 refine KeepS.of_same (by simp) (World.putObj_heap_other hB) fun k u hk hu=>?_
 have:k≠l:=by rintro rfl;rw[hl]at hk;cases hk;rw[hc]at hu;cases hu
 exact(World.putObj_heap_other this).trans hk
def SlOk (B lo:Nat)(V:World):Prop:=∀g,slB V B=some g->lo<=g/\g<V.heap.size
theorem SlOk.keep {B lo:Nat}{X Y:World}(h:SlOk B lo X)(hk:KeepS B X Y)(hlo:lo<=X.heap.size):SlOk B lo Y:=fun g hg=>by
 refine⟨?_,hk.wf (fun g hg=>(h g hg).2) g hg⟩
 rcases hk.sl with h1|⟨g',h1,h2⟩
 · exact(h g (h1▸hg)).1
 · rw[h1]at hg;injection hg with hg;omega
theorem SlOk.below {B lo:Nat}{X Y:World}(h:SlOk B lo X)(hb:Below X.heap.size X Y)(hB:B<X.heap.size):SlOk B lo Y:=fun g hg=>by
 rw[DL (hb.block B hB)]at hg;exact⟨(h g hg).1,Nat.lt_of_lt_of_le (h g hg).2 hb.size⟩
theorem SlOk.set {B lo:Nat}{X:World}(h:SlOk B lo X){a:Addr}(ha:a.block≠B)(v:Value):SlOk B lo (X.setCell a v):=fun g hg=>by
 rw[DL (Below.heap_setCell _ _ _ _ (Ne.symm ha))]at hg;have:=h g hg;simpa using this
theorem SlOk.ne {B lo:Nat}{X:World}(h:SlOk B lo X){g:Nat}(hg:g<lo):slB X B≠some g:=fun e=>by have:=(h g e).1;omega
theorem SlOk.ne2 {B lo:Nat}{X:World}(h:SlOk B lo X){g:Nat}(hg:X.heap.size<=g):slB X B≠some g:=fun e=>by have:=(h g e).2;omega
theorem KeepS.alloc {B:Nat}{X:World}(hB:B<X.heap.size)(o:Obj):KeepS B X (X.alloc o):=
 KeepS.of_same (by simp) (Below.heap_alloc _ _ _ hB) fun k u hk _=>(Below.heap_alloc _ _ _ (Array.getElem?_eq_some_iff.1 hk).1).trans hk
theorem KeepS.refl (B:Nat)(X:World):KeepS B X X:=KeepS.of_same (Nat.le_refl _) rfl fun _ _ h _=>h
theorem JQ {w:World}{a:Addr}{v:Value}(h:w.cell? a=some v):∃o:Obj,w.heap[a.block]? =some o/\o.isCells=true:=by
 unfold World.cell? at h
 split at h
 · rename_i cs t s e;exact⟨_,e,rfl⟩
 · cases h
theorem KeepS.cells {B lo:Nat}{X Y:World}(h:KeepS B X Y)(hs:SlOk B lo X){A:Option Addr}{cs:List Value}(hA:Cells X A cs)(ho:Off B A cs.length)(hl:∀b off,A=some ⟨b,off,none⟩->cs≠[]->b<lo):Cells Y A cs:=by
 rcases hA with hA|⟨b,off,e,hc⟩
 · exact .inl hA
 · rcases ho with h0|h0
   · exact .inl (List.length_eq_zero_iff.1 h0)
   · refine .inr ⟨b,off,e,fun j u hu=>?_⟩;have a0:=hc j u hu;obtain⟨o,ho1,ho2⟩:=JQ a0;have a1:cs≠[]:=by rintro rfl;cases hu
     have:=h.same b o ho1 ho2 (h0 b off e) (hs.ne (hl b off e a1));rw[<-a0];exact World.cell?_of_block (this.trans ho1.symm)
theorem Jd {F:Fence}{n:Nat}{P:Program}(w:World){ops:Array Oper}{rest:List Oper}{o:Oper}{a:Act}{Q:Exit->Act->World->Prop}
 (hg:o.guard=none) (s x:Operand) (t:TypeId) (hop:o.op=Op.call {callee:=Callee.builtin Builtin.append,args:=#[s,x],argTypes:=#[t,t]})
 (base:Nat) (e:TypeId) (i:TypeInfo) (z:Value) (size bytes:Nat) (h1:P.underlying t=some (.slice e)) (h2:P.info? e=some i) (h3:i.zero=some z) (h4:i.size=size) (h5:i.bytes=bytes) (h6:z.cells.size=size) (h7:0<size)
 (v:Value) (k:Nat) (xs:List Value) (hs:a.eval s=v) (hown:w.ownsRow base e size v k xs) (ad:Addr) (m c:Nat) (news:List Value) (hm:0<m) (hx:a.eval x=.slice (some ad) m c) (hn:news.length=m*size)
 (hc:∀j u,news[j]? =some u->w.cell? (ad.add j)=some u) (h1c:∀u∈news,u.oneCell'=true) (b1:k+m<=maxLen) (b2:(k+m)*bytes<=140737488355328) (b3:base<=w.heap.size)
 (hK:∀v' w',w'.ownsRow base e size v' (k+m) (xs++news)->w.grownBy w' v.ownBlock->v'.ownBlock=v.ownBlock\/v'.ownBlock=some w.heap.size->wpListIn F n P ops Q rest (a.put o.dst v') w'):
 wpListIn F n P ops Q (o::rest) a w:=by
 refine wpListIn_plain hg fun K hK'=>?_
 obtain⟨v',w',hrun,r1,r2,_⟩:=run_append_own (P:=P) w base t o.type e i z size bytes h1 h2 h3 h4 h5 h6 h7 v k xs hown ad m c news hn hc h1c b1 b2 b3;have r3:v'.ownBlock=v.ownBlock\/v'.ownBlock=some w.heap.size:=by
  subst h4;subst h5
  have hb:=b1;have a1:=b2
  rcases hown.2 with ⟨rfl,rfl⟩|⟨g,cap,cur,rfl,hbg,hgg,hnc,hcm,hcs,htake⟩
  · have hr:=run_append_nil (P:=P) w t o.type e i z h1 h2 h3 ad m c news hn hc (by omega) (by unfold maxLen at hb;omega) (by simp only[Nat.zero_add]at a1;omega);rw[hrun]at hr;injection hr with e1 e2
    rw[e1];exact .inr rfl
  · by_cases hroom:k+m<=cap
    · have a0:k*i.size+news.length<=cur.size:=by rw[hn,hcs,<-Nat.add_mul];exact Nat.mul_le_mul_right _ hroom
      have hr:=run_append_room (P:=P) w t o.type e i h1 h2 g k cap cur hgg ad m c news hn hc h1c hroom a0;rw[hrun]at hr;injection hr with e1 e2
      rw[e1];exact .inl rfl
    · have hr:=run_append_grow (P:=P) w t o.type e i z h1 h2 h3 ⟨g,0,none⟩ k cap xs hown.1 (hown.cells (g:=g) rfl) ad m c news hn hc (by omega) (by unfold maxLen at hb;omega) (growslice_fits (by omega) a1);rw[hrun]at hr;injection hr with e1 e2
      rw[e1];exact .inr rfl
 unfold Oper.wpIn;refine⟨?_,?_⟩
 · simp[Oper.about,hop,resolve,Target.leads,Sem.run_pure]
 · rw[Oper.semAt_plain F _ _ (by rw[hop];intro c hc';cases hc')];simp[execOp,hop,resolve,invoke,builtin,hs,hx,hrun,Result.andThen];exact hK' _ _ (hK v' w' r1 r2 r3)
theorem SlOk.none {B lo:Nat}{X:World}{t:TypeId}(h:Blk X B t #[.slice none 0 0]):SlOk B lo X:=fun g hg=>by
 unfold slB at hg;rw[h.cell 0]at hg;cases hg
theorem Cells.lt {w:World}{A:Option Addr}{cs:List Value}(h:Cells w A cs):∀b off,A=some ⟨b,off,.none⟩->cs≠[]->b<w.heap.size:=by
 rintro b off rfl hne
 rcases h with h|⟨b',off',e,hc⟩
 · exact absurd h hne
 · injection e with e;injection e with e1 e2;subst e1;subst e2
   cases cs with
   |nil=>exact absurd rfl hne
   |cons u cs=>exact World.block_lt_of_cell? _ _ (hc 0 u rfl)
theorem BE (W:World)(b k:Nat)(v:Value):W.grownBy (W.setCell ⟨b,k,none⟩ v) (some b):=⟨rfl,rfl,rfl,by simp,fun j _ hj=>Below.heap_setCell _ _ _ j (fun e=>hj (by rw[e]))⟩
attribute [local go_sem] Ad Af Ag Ab Ai Ah Oper.semAt_some
def cutCells (l:List Cut):List Value:=l.flatMap fun p=>[.int .i64 p.1,.int .i64 p.2.1,.int .i64 p.2.2]
theorem Kj (l:List Cut):(cutCells l).length=l.length*3:=by
 induction l with
 |nil=>rfl
 |cons x l ih=>simp only[cutCells,List.flatMap_cons,List.length_append,List.length_cons,List.length_nil]at ih ⊢;omega
theorem Ki (l:List Cut)(i:Nat)(h:i<l.length):(cutCells l)[i*3]? =some (.int .i64 l[i].1)/\(cutCells l)[i*3+1]? =some (.int .i64 l[i].2.1)/\(cutCells l)[i*3+2]? =some (.int .i64 l[i].2.2):=by
 induction l generalizing i with
 |nil=>simp at h
 |cons x l ih=>
  have e:cutCells (x::l)=.int .i64 x.1:: .int .i64 x.2.1:: .int .i64 x.2.2::cutCells l:=rfl;cases i with
  |zero=>rw[e];exact⟨rfl,rfl,rfl⟩
  |succ i=>
   have:=ih i (by simpa using h);rw[e,show(i+1)*3=i*3+1+1+1 by omega];simpa using this
theorem Cells.cut {w:World}{A:Option Addr}{l:List Cut}(h:Cells w A (cutCells l)){i:Nat}(hi:i<l.length):
 ∃b off,A=some ⟨b,off,none⟩/\∀j (hj:j<l.length),w.cell? ⟨b,off+j*3,none⟩=some (.int .i64 l[j].1)/\w.cell? ⟨b,off+j*3+1,none⟩=some (.int .i64 l[j].2.1)/\w.cell? ⟨b,off+j*3+2,none⟩=some (.int .i64 l[j].2.2):=by
 rcases h with h|⟨b,off,rfl,h⟩
 · have:=congrArg List.length h;rw[Kj]at this;simp at this;omega
 · refine⟨b,off,rfl,fun j hj=>?_⟩;obtain⟨e1,e2,e3⟩:=Ki l j hj;exact⟨h _ _ e1,by rw[Nat.add_assoc];exact h _ _ e2,by rw[Nat.add_assoc];exact h _ _ e3⟩
end
section
open Go.RowKit Go.Shelf
attribute [local go_sem] Ad Af Ag Ab Ai Ah
theorem IsIm.off11 {W:World}{x:Im}{p q r:Pl}(h:IsIm W x p q r){g:Nat}(ho:ImOff g x p q r)(v0 v1 v2 v3 v4 v5 v6 v7 v8 v9 v10:Value):IsIm (((((((((((W.setCell ⟨g,0,none⟩ v0).setCell ⟨g,1,none⟩ v1).setCell ⟨g,2,none⟩ v2).setCell ⟨g,3,none⟩ v3).setCell ⟨g,4,none⟩ v4).setCell ⟨g,5,none⟩ v5).setCell ⟨g,6,none⟩ v6).setCell ⟨g,7,none⟩ v7).setCell ⟨g,8,none⟩ v8).setCell ⟨g,9,none⟩ v9).setCell ⟨g,10,none⟩ v10) x p q r:=
 ⟨h.d.off11 ho.1 v0 v1 v2 v3 v4 v5 v6 v7 v8 v9 v10,h.m.off11 ho.2 v0 v1 v2 v3 v4 v5 v6 v7 v8 v9 v10⟩
end
section
def dmFind (l:List Dm)(nm:List UInt8):Int:=match l.findIdx? (fun m=>decide (m.name=nm))with|some i=>(i:Int)|none=> -1
theorem F8 {l:List Dm}{nm:List UInt8}(h:∀j (hj:j<l.length),l[j].name≠nm):dmFind l nm= -1:=by
 have:l.findIdx? (fun m=>decide (m.name=nm))=none:=by
  rw[List.findIdx?_eq_none_iff];intro m hm;obtain⟨j,hj,rfl⟩:=List.getElem_of_mem hm;exact decide_eq_false (h j hj)
 rw[dmFind,this]
theorem F9 {l:List Dm}{nm:List UInt8}{i:Nat}(hi:i<l.length)(h:l[i].name=nm)(h2:∀j (hj:j<i),l[j].name≠nm):dmFind l nm=i:=by
 have:l.findIdx? (fun m=>decide (m.name=nm))=some i:=by
  rw[List.findIdx?_eq_some_iff_getElem];exact⟨hi,decide_eq_true h,fun j hj=>by simpa using h2 j hj⟩
 rw[dmFind,this]
theorem KK (l:List Dm)(nm:List UInt8):(dmFind l nm= -1/\∀j (hj:j<l.length),l[j].name≠nm)\/∃i,∃hi:i<l.length,dmFind l nm=i/\l[i].name=nm:=by
 unfold dmFind;cases h:l.findIdx? (fun m=>decide (m.name=nm))with
 |none=>
  left
  rw[List.findIdx?_eq_none_iff]at h;exact⟨rfl,fun j hj=>by simpa using h _ (List.getElem_mem hj)⟩
 |some i=>
  right
  rw[List.findIdx?_eq_some_iff_getElem]at h;obtain⟨hi,h1,_⟩:=h;exact⟨i,hi,rfl,by simpa using h1⟩
theorem Ba (l:List Dm)(nm:List UInt8): -1<=dmFind l nm/\dmFind l nm<l.length:=by
 rcases KK l nm with ⟨h,_⟩|⟨i,hi,h,_⟩<;>rw[h]<;>omega
def dmFresh (nm:List UInt8):Dm:=⟨nm,true,List.replicate 64 false⟩
theorem AX (nm:List UInt8):(dmFresh nm).bits.length=64:=by simp[dmFresh]
namespace Im
noncomputable def bmPut (x:Im) (nm:List UInt8) (m:Dm) (e:Int):Im×Int:=
 if(Pn.maps x.d Pn.none).2≠0 then(x,(Pn.maps x.d Pn.none).2)else if dmFind (Pn.maps x.d Pn.none).1 nm<0 then(x,e)
 else if(Pn.dmSet Pn.none (dmFind (Pn.maps x.d Pn.none).1 nm) m).2≠0 then(x,(Pn.dmSet Pn.none (dmFind (Pn.maps x.d Pn.none).1 nm) m).2)else x.done (Pn.dmSet Pn.none (dmFind (Pn.maps x.d Pn.none).1 nm) m).1
def withMaps (x:Im)(l:List Dm):Im:={x with maps:=l}
noncomputable def bmAdd (x:Im) (nm:List UInt8):Im×Int:=
 if x.br=true then(x,24)else if nameOk nm=false then(x,19)else if 0<=dmFind x.maps nm then(x,20)else if 2<=x.maps.length then(x,17)
 else if(Pn.maps x.d Pn.none).2=0/\0<=dmFind (Pn.maps x.d Pn.none).1 nm then(x,20)
 else if(bmPut x [] (dmFresh nm) 17).2=0 then((bmPut x [] (dmFresh nm) 17).1.withMaps (x.maps++[dmFresh nm]),0)else bmPut x [] (dmFresh nm) 17
noncomputable def bmRemove (x:Im) (nm:List UInt8):Im×Int:=
 if x.br=true then(x,24)else if dmFind x.maps nm<0 then(x,21)
 else if(bmPut x nm Dm.zero 21).2=0 then((bmPut x nm Dm.zero 21).1.withMaps (x.maps.eraseIdx (dmFind x.maps nm).toNat),0)else bmPut x nm Dm.zero 21
def bmClear (x:Im)(nm:List UInt8):Im×Int:=
 if x.br=true then(x,24)else if dmFind x.maps nm<0 then(x,21)else(x.withMaps (x.maps.set (dmFind x.maps nm).toNat (dmFresh nm)),0)
def saveStep (l:List Dm)(X:Pn×Int)(m:Dm):Pn×Int:=
 if X.2≠0 then X else if dmFind l m.name<0 then(X.1,21)else Pn.dmSet X.1 (dmFind l m.name) {m with use:=false}
def saveAll (l:List Dm)(ms:List Dm)(e:Int):Pn×Int:=ms.foldl (saveStep l) (Pn.none,e)
def flushed (x:Im):Im×Int:=if x.d.flush.2≠0 then({x with d:=x.d.flush.1,br:=true},x.d.flush.2)else({x with d:=x.d.flush.1,maps:=[]},0)
noncomputable def bmSave (x:Im):Im×Int:=
 if x.br=true then(x,24)else if(saveAll (Pn.maps x.d Pn.none).1 x.maps (Pn.maps x.d Pn.none).2).2≠0 then(x,(saveAll (Pn.maps x.d Pn.none).1 x.maps (Pn.maps x.d Pn.none).2).2)
 else if(x.done (saveAll (Pn.maps x.d Pn.none).1 x.maps (Pn.maps x.d Pn.none).2).1).2≠0 then x.done (saveAll (Pn.maps x.d Pn.none).1 x.maps (Pn.maps x.d Pn.none).2).1
 else flushed (x.done (saveAll (Pn.maps x.d Pn.none).1 x.maps (Pn.maps x.d Pn.none).2).1).1
def dmLoaded (m:Dm):Dm:=if m.use=true then⟨m.name,true,List.replicate 64 true⟩else {m with use:=true}
def loadStep (X:(Pn×List Dm)×Int)(p:Nat×Dm):(Pn×List Dm)×Int:=
 if X.2≠0 then X else if p.2.name=[]then X else if p.2.use=true then((X.1.1,X.1.2++[dmLoaded p.2]),0)
 else if(Pn.dmSet X.1.1 p.1 (dmFresh p.2.name)).2≠0 then((X.1.1,X.1.2),(Pn.dmSet X.1.1 p.1 (dmFresh p.2.name)).2)else(((Pn.dmSet X.1.1 p.1 (dmFresh p.2.name)).1,X.1.2++[dmLoaded p.2]),0)
def numbered (l:List Dm):List (Nat×Dm):=(List.range l.length).map fun i=>(i,l.getD i Dm.zero)
def loadAll (l:List Dm):(Pn×List Dm)×Int:=(numbered l).foldl loadStep ((Pn.none,[]),0)
noncomputable def bmLoad (x:Im):Im×Int:=
 if x.br=true then(x,24)else if(Pn.maps x.d Pn.none).2≠0 then(x,(Pn.maps x.d Pn.none).2)else if(loadAll (Pn.maps x.d Pn.none).1).2≠0 then(x,(loadAll (Pn.maps x.d Pn.none).1).2)
 else if(x.done (loadAll (Pn.maps x.d Pn.none).1).1.1).2=0 then((x.done (loadAll (Pn.maps x.d Pn.none).1).1.1).1.withMaps (loadAll (Pn.maps x.d Pn.none).1).1.2,0)else x.done (loadAll (Pn.maps x.d Pn.none).1).1.1
def putC (x:Im)(nm:List UInt8)(m:Dm)(e:Int):Im×Int:=
 if(Pn.maps x.d Pn.none).2≠0 then(x,(Pn.maps x.d Pn.none).2)else if dmFind (Pn.maps x.d Pn.none).1 nm<0 then(x,e)
 else if(Pn.dmSet Pn.none (dmFind (Pn.maps x.d Pn.none).1 nm) m).2≠0 then(x,(Pn.dmSet Pn.none (dmFind (Pn.maps x.d Pn.none).1 nm) m).2)else doneC x (Pn.dmSet Pn.none (dmFind (Pn.maps x.d Pn.none).1 nm) m).1
theorem Nk (x:Im)(nm:List UInt8)(m:Dm)(e:Int):bmPut x nm m e=putC x nm m e:=by unfold bmPut putC;rw[Da]
def addC (x:Im)(nm:List UInt8):Im×Int:=
 if x.br=true then(x,24)else if nameOk nm=false then(x,19)else if 0<=dmFind x.maps nm then(x,20)else if 2<=x.maps.length then(x,17)
 else if(Pn.maps x.d Pn.none).2=0/\0<=dmFind (Pn.maps x.d Pn.none).1 nm then(x,20)
 else if(putC x [] (dmFresh nm) 17).2=0 then((putC x [] (dmFresh nm) 17).1.withMaps (x.maps++[dmFresh nm]),0)else putC x [] (dmFresh nm) 17
theorem addC_eq (x:Im)(nm:List UInt8):bmAdd x nm=addC x nm:=by unfold bmAdd addC;rw[Nk]
def saveC (x:Im):Im×Int:=
 if x.br=true then(x,24)else if(saveAll (Pn.maps x.d Pn.none).1 x.maps (Pn.maps x.d Pn.none).2).2≠0 then(x,(saveAll (Pn.maps x.d Pn.none).1 x.maps (Pn.maps x.d Pn.none).2).2)
 else if(doneC x (saveAll (Pn.maps x.d Pn.none).1 x.maps (Pn.maps x.d Pn.none).2).1).2≠0 then doneC x (saveAll (Pn.maps x.d Pn.none).1 x.maps (Pn.maps x.d Pn.none).2).1
 else flushed (doneC x (saveAll (Pn.maps x.d Pn.none).1 x.maps (Pn.maps x.d Pn.none).2).1).1
theorem saveC_eq (x:Im):bmSave x=saveC x:=by unfold bmSave saveC;rw[Da]
def loadC (x:Im):Im×Int:=
 if x.br=true then(x,24)else if(Pn.maps x.d Pn.none).2≠0 then(x,(Pn.maps x.d Pn.none).2)else if(loadAll (Pn.maps x.d Pn.none).1).2≠0 then(x,(loadAll (Pn.maps x.d Pn.none).1).2)
 else if(doneC x (loadAll (Pn.maps x.d Pn.none).1).1.1).2=0 then((doneC x (loadAll (Pn.maps x.d Pn.none).1).1.1).1.withMaps (loadAll (Pn.maps x.d Pn.none).1).1.2,0)else doneC x (loadAll (Pn.maps x.d Pn.none).1).1.1
theorem loadC_eq (x:Im):bmLoad x=loadC x:=by unfold bmLoad loadC;rw[Da]
end Im
def bm1C:Im:=(smI.addC [109]).1
def bm2C:Im:=(bm1C.writeC 3 0 [120]).1
def bm3C:Im:=bm2C.saveC.1
def bm4C:Im:=bm3C.loadC.1
def bm5C:Im:=bm4C.loadC.1
theorem Db:(smI.addC [109]).2=0/\(bm1C.writeC 3 0 [120]).2=0/\bm2C.saveC.2=0/\bm3C.loadC.2=0/\bm4C.loadC.2=0/\bm2C.maps=[⟨[109],true,(List.replicate 64 false).set 3 true⟩]/\bm4C.maps=bm2C.maps/\bm5C.maps=[⟨[109],true,List.replicate 64 true⟩]/\bm1C.d.fit=true/\bm2C.d.fit=true/\bm3C.d.fit=true/\bm4C.d.fit=true/\bm1C.maps.length=1:=by decide+kernel
end
section
open Go.RowKit Go.Shelf
attribute [local go_sem] Ad Af Ag Ab Ai Ah
theorem Gf:∀(l:List Dm),(∀m∈l,m.bits.length=64)->∀j (hj:j<l.length) k v,(dmCells l[j])[k]? =some v->(dmRows l)[j*66+k]? =some v:=fun l=>by
 induction l with
 |nil=>intro _ j hj;simp at hj
 |cons x l ih=>
  intro hl j hj k v hv;have hx:=AA (hl x (by simp));show(dmCells x++dmRows l)[j*66+k]? =some v;cases j with
  |zero=>
   have hk:k<(dmCells x).length:=(List.getElem?_eq_some_iff.1 hv).1;rw[Nat.zero_mul,Nat.zero_add,List.getElem?_append_left hk];exact hv
  |succ j=>
   rw[List.getElem?_append_right (by omega),hx,show(j+1)*66+k-66=j*66+k by omega];exact ih (fun m hm=>hl m (by simp[hm])) j (by simpa using hj) k v hv
theorem IsMs.rows {w:World}{l:List Dm}{r:Pl}(h:IsMs w l r)(h0:0<l.length):∃b off,r.a=some ⟨b,off,none⟩/\b<w.heap.size/\∀j (hj:j<l.length),w.rangeAt b (off+j*dmN) (dmCells l[j]):=by
 rcases h.row with h1|⟨b,off,e,hc⟩
 · have:=congrArg List.length h1;rw[AY h.bits]at this;simp at this;omega
 · have a0:=AA (h.bits _ (List.getElem_mem h0));refine⟨b,off,e,?_,fun j hj k v hv=>?_⟩
   · obtain⟨v,hv⟩:∃v,(dmCells l[0])[0]? =some v:=⟨_,rfl⟩;exact Bb (hc _ v (Gf l h.bits 0 h0 0 v hv))
   · rw[Nat.add_assoc,dmN];exact hc _ _ (Gf l h.bits j hj k v hv)
theorem IsMs.of_own {w:World}{base:Nat}{t:TypeId}{l:List Dm}{A:Option Addr}{c n:Nat}(hn:n=l.length)(h:w.ownsRow base t 66 (.slice A n c) n (dmRows l))(hb:∀m∈l,m.bits.length=64)(hm:∀m∈l,m.name.length<=maxLen):IsMs w l ⟨A,c⟩:=by
 subst hn;obtain⟨A',c',e,h1,h2,h3⟩:=Aw h;injection e with e1 e2 e3
 subst e1 e3;exact⟨Cells.of_own h,h3,h1,h2,hb,hm⟩
theorem KL (D:Dk)(L:Pn)(i:Nat):(Pn.dmGet D L i).1.name.length<=8:=by
 have hz:Dm.zero.name.length<=8:=by decide
 unfold Pn.dmGet
 split
 · exact hz
 split
 · unfold Dm.of
   split
   · exact hz
   · exact I6 _
 · exact hz
theorem Bw (D:Dk)(L:Pn):(Pn.maps D L).1.length<=2/\(∀m∈(Pn.maps D L).1,m.bits.length=64)/\∀m∈(Pn.maps D L).1,m.name.length<=maxLen:=by
 refine⟨Jo 2,fun m hm=>?_,fun m hm=>?_⟩
 · obtain⟨i,_,rfl⟩:=Fm 2 m hm;exact Ga D L i
 · obtain⟨i,_,rfl⟩:=Fm 2 m hm;have:=KL D L i;unfold maxLen;omega
theorem JH (m:Dm)(h64:m.bits.length=64)(hm:m.name.length<=maxLen)(nm:List UInt8)(hnm:nm.length<=maxLen)(Bn:Nat)(w:World)(bn:Blk w Bn 9 #[.string (bs nm)]):
 CR 68 #[dmval m,.pointer (some ⟨Bn,0,none⟩)] w (.bool (decide (m.name=nm))):=by
 unfold maxLen at hm hnm;have hB:=Y0 w;have x:=Blk.new w 42 (dmCells m).toArray;have xk:=Tryz.dm_all m h64 x;have a0:=hB.alloc hB.size (.cells (dmCells m).toArray 42);obtain⟨a2,a1⟩:=Z1 (Yc bn a0);obtain⟨mn,hmn⟩:∃mn,m.name=mn:=⟨_,rfl⟩;have Hq:=hid (show decide (m.name=nm)=(mn==nm) by rw[hmn,Bool.eq_iff_iff];simp);have xc:=(x).cell 0;have a3:_=some (Value.string (bs mn)):=xc.trans (by rw[<-hmn];rfl);clear xc;go_enter Tryz.func68,Tryz.ntmps68;by_cases hq:mn=nm
 · have q1:(mn==nm)=true:=by simpa using hq
   have Hr:=hid (Hq.out.trans q1);go_wp2_with fail
   go_ret
   rw[Hr.out];exact⟨rfl,a0⟩
 · have q1:(mn==nm)=false:=by simpa using hq
   have Hr:=hid (Hq.out.trans q1);go_wp2_with fail
   go_ret
   rw[Hr.out];exact⟨rfl,a0⟩
theorem JF (l:List Dm)(r:Pl)(nm:List UInt8)(hnm:nm.length<=maxLen)(Bn:Nat)(w:World)(hM:IsMs w l r)(bn:Blk w Bn 9 #[.string (bs nm)]):
 CR 67 #[.slice r.a l.length r.c,.func (.func 68) #[] #[.pointer (some ⟨Bn,0,none⟩)]] w (.int .i64 (dmFind l nm)):=by
 have a9:=Nat.le_trans hM.cap hM.max;unfold maxLen at a9;have a6:=hid hM.bits;have a7:=hid hM.name;have Hc:=hid (fun(h:0<l.length)=>hM.rows h);have a5:=fun(W:World)(hb:Below w.heap.size w W)(m:Dm)(h1:m.bits.length=64)(h2:m.name.length<=maxLen)=>JH m h1 h2 nm hnm Bn W (bn.bl hb)
 have aa:=Tryz.dm_agg;have ab:=Tryz.dm_siz;clear hM bn;obtain⟨A3,a3⟩:=r;go_enter Tryz.func67,Tryz.ntmps67;go_wp2_with fail
 go_loopw [8] (fun x W=>∃m:Nat,m<=l.length/\x=.int .i64 m/\Hid (∀j (hj:j<l.length),j<m->l[j].name≠nm)/\Below w.heap.size w W) (fun x _=>l.length-(intOf x).toNat)
 case atStart=>exact⟨0,Nat.zero_le _,rfl,hid (fun j _ h=>by omega),Below.refl _ _⟩
 case round=>
  obtain⟨m,hm,rfl,hno,hb⟩:=hrel;by_cases hlt:m<l.length
  · obtain⟨gb,go,ea,hgb,hcs⟩:=Hc.out (by omega);have a8:A3=some ⟨gb,go,none⟩:=ea;subst a8;have a4:=a6.out _ (List.getElem_mem hlt);have a0:=a5 wr hb l[m] a4 (a7.out _ (List.getElem_mem hlt));have k1:=Tryz.dm_load l[m] a4 (Cr (hcs m hlt) hb);obtain⟨e,he⟩:∃e,l[m]=e:=⟨_,rfl⟩;have a1:=hid (fun(h:e.name=nm)=>show dmFind l nm=(m:Int)from F9 hlt (by rw[he];exact h) fun j hj=>hno.out j (by omega) hj);have a2:=hid (fun(h:e.name≠nm)(j:Nat)(hj:j<l.length)(hj2:j<m+1)=>show l[j].name≠nm by
     rcases Nat.lt_or_eq_of_le (Nat.le_of_lt_succ hj2)with h9|h9
     · exact hno.out j hj h9
     · subst h9;rw[he];exact h)
    rw[he]at a0 k1;clear he a4 hcs a5 hno;by_cases hq:e.name=nm
    · rw[decide_eq_true hq]at a0;have Hy:=hid (a1.out hq);clear a1 a2 hq;go_wp2_with fail
      refine a0.mono ?_;rintro e w2 ⟨rfl,hb2⟩;go_wp2_with fail
      go_ret
      rw[Hy.out];exact⟨rfl,bt hb hb2⟩
    · rw[decide_eq_false hq]at a0;have Hy:=hid (a2.out hq);clear a1 a2 hq;go_wp2_with fail
      refine a0.mono ?_;rintro e w2 ⟨rfl,hb2⟩;go_wp2_with fail
      go_roundw
      case rel=>exact⟨m+1,by omega,by go_num,Hy,bt hb hb2⟩
      case measure=>simp[intOf];omega
  · obtain rfl:m=l.length:=by omega
    have Hy:=hid (show dmFind l nm= -1 from F8 fun j hj=>hno.out j hj hj);clear hno;go_wp2_with fail
    go_ret
    rw[Hy.out];exact⟨rfl,hb⟩
theorem CA (l:List Dm)(r:Pl)(nm:List UInt8)(hnm:nm.length<=maxLen)(w:World)(hM:IsMs w l r):
 CR 27 #[.slice r.a l.length r.c,.string (bs nm)] w (.int .i64 (dmFind l nm)):=by
 have a2:=fun(W:World)(hb:Below w.heap.size w W)(Bn:Nat)(bn:Blk W Bn 9 #[.string (bs nm)])=>JF l r nm hnm Bn W (hM.below hb) bn
 clear hM;obtain⟨A3,a3⟩:=r;have hB:=Y0 w;have y:=Blk.new w 9 #[.string (bs nm)];have a0:=Ya hB y;go_enter Tryz.func27,Tryz.ntmps27;go_wp2_with fail
 refine(a2 _ a0 _ y).mono ?_;rintro e w1 ⟨rfl,hb1⟩;have a1:=bt a0 hb1;go_wp2_with fail
 go_ret
 exact⟨rfl,a1⟩
theorem FB (x:Im)(p q r:Pl)(w:World)(hI:IsIm w x p q r)(nm:List UInt8)(hnm:nm.length<=maxLen):
 CR 21 #[imval x p q r,.string (bs nm)] w (.tuple #[.int .i64 (if x.br=true then 0 else if dmFind x.maps nm<0 then 0 else dmFind x.maps nm),.int .i64 (if x.br=true then 24 else if dmFind x.maps nm<0 then 21 else 0)]):=by
 have a4:=fun(W:World)(hb:Below w.heap.size w W)=>CA x.maps r nm hnm W (hI.m.below hb)
 clear hI;obtain⟨D,g,h,⟨seq,pos⟩,maps,br⟩:=x;simp only at a4 ⊢;obtain⟨k,hk⟩:∃k,dmFind maps nm=k:=⟨_,rfl⟩;rw[hk]at a4 ⊢;clear hk;obtain⟨A1,a1⟩:=p;obtain⟨A2,a2⟩:=q;obtain⟨A3,a3⟩:=r;have hB:=Y0 w;obtain⟨x,xk⟩:=Z11 (Am (Blk.new w 33) D A1 a1 A2 a2 g h seq pos A3 maps.length a3 br);have a0:=Ya hB x;cases br with
 |true=>
  rw[if_pos rfl,if_pos rfl];go_enter Tryz.func21,Tryz.ntmps21;go_wp2_with fail
  refine((a4 _ a0)).mono ?_;rintro e w1 ⟨rfl,hb1⟩;replace hB:=bt a0 hb1;replace x:=x.bl hb1;replace xk:=Aa x;clear a0;go_wp2_with fail
  go_ret2
  exact⟨rfl,hB⟩
 |false=>
  rw[if_neg (show¬(false=true) by simp),if_neg (show¬(false=true) by simp)];by_cases h0:k<0
  · have d0:decide (k<0)=true:=decide_eq_true h0;rw[if_pos h0,if_pos h0];clear h0;go_enter Tryz.func21,Tryz.ntmps21;go_wp2_with fail
    refine((a4 _ a0)).mono ?_;rintro e w1 ⟨rfl,hb1⟩;replace hB:=bt a0 hb1;replace x:=x.bl hb1;replace xk:=Aa x;clear a0;go_wp2_with fail
    go_ret2
    exact⟨rfl,hB⟩
  · have d0:decide (k<0)=false:=decide_eq_false h0;rw[if_neg h0,if_neg h0];clear h0;go_enter Tryz.func21,Tryz.ntmps21;go_wp2_with fail
    refine((a4 _ a0)).mono ?_;rintro e w1 ⟨rfl,hb1⟩;replace hB:=bt a0 hb1;replace x:=x.bl hb1;replace xk:=Aa x;clear a0;go_wp2_with fail
    go_ret2
    exact⟨rfl,hB⟩
theorem Tryz.build_dmf (nm:List UInt8)(w:World):(Instr.build 42 #[(0,.string (bs nm)),(1,.bool true)]).run Tryz.prog w=.ok (dmval (dmFresh nm)) w:=by kernel_rfl
theorem Tryz.run_dmf {ρ:Operand->Value}{o:Oper}(x y:Operand)(ho:o.op=.build 42 #[(0,x),(1,y)])(nm:List UInt8)(hx:ρ x=.string (bs nm))(hy:ρ y=.bool true)(w:World):(execOp ρ o).run Tryz.prog w=.ok (.value (dmval (dmFresh nm))) w:=by
 have h0:(#[(0,x),(1,y)]:Array (Nat×Operand)).map (fun p=>(p.1,ρ p.2))=#[(0,.string (bs nm)),(1,.bool true)]:=by simp[hx,hy]
 unfold execOp;simp only[ho,h0,Sem.run_bind,Tryz.build_dmf,Result.andThen_ok,Sem.run_pure]
theorem D6 (nm:List UInt8)(w:World):CR 23 #[.string (bs nm)] w (dmval (dmFresh nm)):=by
 have a0:=Tryz.dm_agg;have a2:=Tryz.dm_siz;have hM:=AX nm;have a1:=fun(ρ:Operand->Value)(o:Oper)(x y:Operand)(ho:o.op=.build 42 #[(0,x),(1,y)])(hx:ρ x=.string (bs nm))(hy:ρ y=.bool true)(w:World)=>Tryz.run_dmf x y ho nm hx hy w
 have dz:Blk (w.alloc (.cells Tryz.zeroCells42 42)) w.heap.size 42 (dmCells Dm.zero).toArray:=by rw[<-Tryz.dm_zeros];exact Blk.new _ _ _
 generalize dmFresh nm=M at*;have st:=Tryz.dm_put M hM rfl dz;have b8:=AM (Yz (W:=w) (.cells Tryz.zeroCells42 42)) (g:=w.heap.size) (Nat.le_refl _) M;have dd:=AN dz M rfl hM;have yy:=Tryz.dm_all M hM dd;have dl:=AT hM;go_enter Tryz.func23,Tryz.ntmps23;go_wp2_with (refine AP rfl (dmval M) (a1 _ _ _ _ rfl rfl rfl _) ?_)
 refine bodyPost_ret (v:=dmval M) (by simp[results,Tryz.results23,go_sem,yy,a0,a2]) rfl ?_;exact⟨rfl,b8⟩
theorem Eb (l:List Dm)(r:Pl)(w:World)(hM:IsMs w l r)(hl:l.length<=1000000):
 Calls Tryz.prog 22 #[.slice r.a l.length r.c] w fun e w'=>∃v',e=.returned v'/\w'.ownsRow w.heap.size 42 66 v' l.length (dmRows l)/\Below w.heap.size w w':=by
 have a4:∀(w:World)(a:Option Addr)(n c n' c':Nat),(binOp .eql 31 (.slice a n c) (.slice none n' c')).run Tryz.prog w=.ok (.bool a.isNone) w:=fun w a n c n' c'=>Lib.run_eql_slice_nil w _ _ a n c n' c' Tryz.underlying31
 obtain⟨i0,hi,hz0,hz1,hz2⟩:=info_parts Tryz.infoDmap3;have hA:=hM.row;have a1:=hM.bits;have a0:=hM.cap;have hn:=hM.nil;clear hM;obtain⟨A,c⟩:=r;simp only at hA a0 hn ⊢;cases A with
 |none=>
  have a2:l=[]:=List.length_eq_zero_iff.1 (by have:=hn rfl;omega);subst a2;go_enter Tryz.func22,Tryz.ntmps22;go_wp2_with fail
  go_ret
  exact⟨_,rfl,World.ownsRow_nil _ _ _ _,Below.refl _ _⟩
 |some ad=>
  have a3:=AY a1;go_enter Tryz.func22,Tryz.ntmps22;go_wp2_with (at_builtin;refine Bg rfl _ _ 31 rfl w.heap.size 42 i0 (dmval Dm.zero) 66 88 Tryz.underlying31 hi hz0 hz1 hz2 rfl (by decide) _ 0 [] rfl (World.ownsRow_made w #[] 0 (Nat.le_refl _) (Nat.zero_le _) rfl) (some ad) l.length c (dmRows l) rfl (hA.below (Yz _)) a3 (fun h=>by cases h) (GY _) (by unfold maxLen;omega) (by omega) (by simp) ?_;intro v1 w3 hown1 hbl1;rw[Nat.zero_add,List.nil_append]at hown1)
  go_ret
  exact⟨_,rfl,hown1,(Yz _).trans hbl1⟩
end
section
open Go Go.RowKit Go.Shelf
section
variable {P:Program} {md:Region.Mode} {ops:Array Oper} {Q:Exit->Act->World->Prop} {S:World->Prop} {late:Nat->Bool}
theorem DS {i:Nat}{oi:Oper}{v:Value}{d:Option Tmp}{fuel:Nat}{listed:Array Bool}{a:Act}{w:World}(hi:ops[i]? =some oi)(hd:oi.dst=d)
 (hs:Region.noSelect ops=true) (hf:Region.free md ops listed i=true) (hr:(Region.ready md ops listed).contains i=true)
 (hQ:∀c a w,Q (.panic c) (a.put d v) w->Q (.panic c) a w) (hg:Region.wanted oi (yielded ops a.tmps)=true) (hy:∀w,(execOp a.eval oi).run P w=.ok (.value v) w)
 (h:wpLate P md ops Q S late fuel (listed.setIfInBounds i true) (a.put d v) w):wpLate P md ops Q S late (fuel+1) listed a w:=by
 subst hd;exact Fh hi (Region.noSelect_spec hs) hQ fuel listed a w (Region.free_spec hi hf) (by simpa using hr) (.inl ⟨hg,fun w _=>hy w⟩) h
theorem DR {i:Nat}{oi:Oper}{d:Option Tmp}{fuel:Nat}{listed:Array Bool}{a:Act}{w:World}(hi:ops[i]? =some oi)(hd:oi.dst=d)
 (hs:Region.noSelect ops=true) (hf:Region.free md ops listed i=true) (hr:(Region.ready md ops listed).contains i=true)
 (hQ:∀c a w,Q (.panic c) (a.put d undef) w->Q (.panic c) a w) (hg:Region.wanted oi (yielded ops a.tmps)=false)
 (h:wpLate P md ops Q S late fuel (listed.setIfInBounds i true) (a.put d undef) w):wpLate P md ops Q S late (fuel+1) listed a w:=by
 subst hd;exact Fh hi (Region.noSelect_spec hs) hQ fuel listed a w (Region.free_spec hi hf) (by simpa using hr) (.inr ⟨hg,rfl⟩) h
theorem Jf {id:Nat}{K:Act->World->Prop}{a:Act}{w:World}(hm:P.follows .mixedOrders=true)
 (h:wpLate P .any ops (Exit.then K (fun _ _ _=>False)) S late ops.size (Array.replicate ops.size false) a w.drew):(Code.region id ops true).wp P (Exit.then K Q) a w:=
 Go.wp_mono (AV hm h) (by intro e a w h;cases e<;>first|exact h|exact h.elim)
end
end
end Go.Proofs.YtmiilfnchfdfcaaGreatDoor
