/- Be: Bitm9, Bitm10, Law17p, Opens4, Law01a, Img11, Law17a, Good15, Good17, Bitm11, BitmR1. -/
import Derived.Test.YtmiilfnchfdfcaaGreatDoorBeBitm8
set_option maxRecDepth 100000
set_option maxHeartbeats 40000000
set_option linter.unusedVariables false
namespace Go.Proofs.YtmiilfnchfdfcaaGreatDoor
section
open Go.RowKit Go.Shelf
attribute [local go_sem] Ad Af Ag Ab Ai Ah Oper.semAt_some
theorem IsMs.kept {X Y:World}{row:Option Nat}{l:List Dm}{r:Pl}(h:IsMs X l r)(hg:X.grownBy Y row)(hr:∀r,row=some r->∃o:Obj,X.heap[r]? =some o/\o.isCells=false):IsMs Y l r:={h with row:=h.row.kept hg hr}
theorem Dw {W W':World}{L:Pn}{P Q:Pl}{row:Option Nat}(h:IsPn W L P Q)(hg:W.grownBy W' row)(ho:∀g,row=some g->PnOff g L P Q):IsPn W' L P Q:=by
 cases row with
 |none=>exact h.kept hg (fun r e=>by cases e)
 |some g=>exact h.grown hg (ho g rfl)
theorem JG (x:Im)(p q r:Pl)(w:World)(hI:IsIm w x p q r)(ok:x.Ok)(hbr:x.br=false)(he0:(Pn.maps x.d Pn.none).2=0):
 CX 16 #[imval x p q r] w (RetIm w.heap.size x p q r x.bmLoad):=by
 have n1:1<=6:=by omega
 have ck:=fun(W:World)(hb:Below w.heap.size w W)=>CN x.d Pn.none p q ⟨none,0⟩ ⟨none,0⟩ W (hI.d.below hb) (AI _) ok.d Pn.none_fit
 have b8:=Bw x.d Pn.none;have ce:=hid (fun g (hg:w.heap.size<=g)=>hI.apart hg);have HC:=hid (show x.bmLoad=if(Im.loadAll (Pn.maps x.d Pn.none).1).2≠0 then(x,(Im.loadAll (Pn.maps x.d Pn.none).1).2)
  else if(x.done (Im.loadAll (Pn.maps x.d Pn.none).1).1.1).2=0 then((x.done (Im.loadAll (Pn.maps x.d Pn.none).1).1.1).1.withMaps (Im.loadAll (Pn.maps x.d Pn.none).1).1.2,0)else x.done (Im.loadAll (Pn.maps x.d Pn.none).1).1.1 by
  unfold Im.bmLoad;rw[if_neg (by rw[hbr];simp),if_neg (by rw[he0];simp)])
 generalize Pn.maps x.d Pn.none=MM at*;obtain⟨l,em⟩:=MM;simp only at ck b8 HC he0;subst he0;have cW:=hid (fun(W:World)(L:Pn)(p' q':Pl)(hb:Below w.heap.size w W)(i:IsPn W L p' q')(hf:L.Fit)=>Ec x L p q r p' q' W (hI.below hb) i ok hf);obtain⟨hd,hm⟩:=hI;have cx:=hd;have cC:=hm;clear ok;obtain⟨D,g,h,⟨seq,pos⟩,maps,br⟩:=x;simp only at hd hm cx cC ck ce HC hbr;subst hbr;obtain⟨A1,a1⟩:=p;obtain⟨A2,a2⟩:=q;obtain⟨A3,a3⟩:=r;have dX:=Tryz.dm_agg;have e1:=Tryz.dm_siz;have zc:=Tryz.dm_zeros;obtain⟨i0,hi,hz0,hz1,hz2⟩:=info_parts Tryz.infoDmap3;have df:=ce.out (w.heap.size+1) (by omega);have dR:=df.1;have dS:=df.2;refine(callsIn_wide (n:=6)).1 (callsIn_of_wp_marks Tryz.func16 rfl trivial (wpIn_wide.2 ?_) rfl);simp only[Tryz.ntmps16,Nat.reduceAdd,Nat.reduceSub,Yn];have hB:=Y0 w;obtain⟨x,xk⟩:=Z11 (Am (Blk.new w 33) D A1 a1 A2 a2 g h seq pos A3 maps.length a3 false);have aq:=Ya hB x;have bI:=hd.below (Yb aq);have bN:=hm.below (Yb aq);have r:=apz (Yd aq 33);simp only[Ys]at r;have ak:=Ya aq r;have bJ:=bI.below (Yb ak);have bO:=bN.below (Yb ak);have dl:=Yc x ak;have er:=Yd ak 36 #[.int .i64 0];simp only[Ys]at er;have ag:=Ya ak er;have bK:=bJ.below (Yb ag);have aV:=bO.below (Yb ag);obtain⟨c7,cb⟩:=Z11 (Yc dl ag);have c0:=Yc r ag;go_wp2_with fail
 refine((ck _ ag)).mono ?_;rintro e w1 ⟨⟨v,rfl,hv⟩,hb1⟩;replace hB:=bt ag hb1;replace hd:=bK.below hb1;replace hm:=aV.below hb1;replace x:=c7.bl hb1;replace xk:=Aa x;replace r:=c0.bl hb1;replace er:=er.bl hb1;clear aq bI bN ak bJ bO dl ag bK aV cb c7 c0;have cF:=(x).lt;have cD:=(r).lt;have b7:=(er).lt;obtain⟨AL,cl,rfl,_,_,_⟩:=Aw hv;have iL:=IsMs.of_own rfl hv b8.2.1 b8.2.2;clear hv ck;have hC:=Y0 w1;obtain⟨eb,ebk⟩:=Z1 (Blk.new w1 36 #[.int .i64 0]);have a9:=Ya hB eb;have aS:=hd.below (Yb a9);have aW:=hm.below (Yb a9);have c8:=Yc x a9;have c3:=Yc r a9;have aP:=Yc er a9;have ar:=Ya hC eb;have pb:=Yd ar 63 #[.slice none 0 0,.slice none 0 0];simp only[Ys]at pb;have bY:=blk2 pb;have aa:=Ya a9 pb;have aT:=aS.below (Yb aa);have aX:=aW.below (Yb aa);have c9:=Yc c8 aa;have c4:=Yc c3 aa;have aQ:=Yc aP aa;have aj:=Ya ar pb;have aM:=Yc eb aj;have mb:=Yd aj 31 #[.slice none 0 0];simp only[Ys]at mb;have ab:=Ya aa mb;have aU:=aT.below (Yb ab);have aY:=aX.below (Yb ab);have ca:=Yc c9 ab;have c6:=Yc c4 ab;have aR:=Yc aQ ab;have ad:=Ya aj mb;have aN:=Yc aM ad;have aZ:=Yc pb ad;go_wp2_with (go_at_call 42;refine(callsIn_wide.1 (Qu 5 l ⟨AL,cl⟩ _)).mono ?_;rintro e w3 ⟨rfl,rfl⟩)
 have bp:=Yd ad 31 #[.slice AL l.length cl];simp only[Ys]at bp;have a6:=Ya ab bp;have aw:=aU.below (Yb a6);have ax:=aY.below (Yb a6);obtain⟨bo,aG⟩:=Z11 (Yc ca a6);have bn:=Yc c6 a6;have ao:=Yc aR a6;have ac:=Ya ad bp;obtain⟨am,ae⟩:=Z1 (Yc aN ac);obtain⟨aF,ah⟩:=Z2 (Yc aZ ac);have aB:=Yc mb ac;generalize ((((w1.alloc (.cells #[.int .i64 0] 36)).alloc (.cells #[.slice none 0 0,.slice none 0 0] 63)).alloc (.cells #[.slice none 0 0] 31)).alloc (.cells #[.slice AL l.length cl] 31))=V at a6 aw ax bo aG bn ao ac am ae aF ah aB bp ⊢;clear a9 aS aW c8 c3 aP ar aa aT aX c9 c4 aQ aj aM ab aU aY ca c6 aR ad aN aZ hB hd hm x r er hC eb pb mb xk ebk bY;have hB:=a6;have hd:=aw;have hm:=ax;have x:=bo;have xk:=aG;have r:=bn;have er:=ao;have hC:=ac;have eb:=am;have ebk:=ae;have pb:=aF;have bY:=ah;have mb:=aB;clear a6 aw ax bo aG bn ao ac am ae aF ah aB;have al:∀g∈[w1.heap.size+1+1+1],g<V.heap.size/\w1.heap.size+1+1<g:=fun g hg=>by
  simp only[List.mem_cons,List.not_mem_nil,or_false]at hg;have:=bp.lt;omega
 have vl:w1.heap.size+1+1+1<V.heap.size:=bp.lt;have ct:=hB;have HZ:=hid (show∀p∈thereL l,p.2.bits.length=64/\p.2.name.length<=maxLen from fun p hp=>by
  obtain⟨hj,e,_⟩:=IZ hp;rw[e];exact⟨b8.2.1 _ (List.getElem_mem hj),b8.2.2 _ (List.getElem_mem hj)⟩)
 have ds:=hid (show∀p∈thereL l,p.1<2/\p.2.name≠[]from fun p hp=>by
  obtain⟨hj,e,hn⟩:=IZ hp;exact⟨by have:=b8.1;omega,hn⟩)
 have dt:=hid (Nat.le_trans (Qv l) b8.1);have dL:=iL;have dB:=hC;have HD:=hid (fun(W:World)(hb:Below w.heap.size w W)=>And.intro (cx.below hb) (cC.below hb));clear xk ebk bY hd hm iL cx cC;refine(wpIn_wide (n:=6)).1 ?_;refine ES (cn:=0) rfl n1 (gf:=84) (lb:=#[.pointer (some ⟨w1.heap.size+1+1+1,0,none⟩)]) rfl trivial (enters_of Tryz.func84 (by kernel_rfl) rfl)
  (Qw 5 (by omega) l ⟨AL,cl⟩ w1.heap.size _ V hC.size (fun W hb=>dL.below (dB.trans hb)) bp)
  KeepB.trans (fun W l o o' q1 q2 q3 q4=>KeepB.putObj o' (by omega) (fun g hg=>by have:=al g hg;omega)) (Below.refl _ _) (fun _=>rfl)
  (fun pre W=>(∃P Q v,LdSt W V.heap.size w1.heap.size 63 36 31 42 (ldN (thereL l) pre).1 P Q v)/\Hid ((ldN (thereL l) pre).2=0)/\KeepB w1.heap.size [w1.heap.size+1+1+1] V W/\V.heap.size<=W.heap.size)
  (fun c pre W=>c=.ret/\Hid ((ldN (thereL l) pre).2≠0)/\Blk W (w.heap.size+1) 33 #[.string (bs D.data),.slice A1 D.cache.length a1,.int .i64 D.fuse,.bool D.off,.slice A2 D.bad.length a2,.int .i64 g,.int .i64 h,.int .u64 seq,.int .i64 pos,.slice A3 maps.length a3,.bool false]/\Blk W (w.heap.size+1+1) 36 #[.int .i64 (ldN (thereL l) pre).2]/\Below w.heap.size w W)
  ?hI ?hIx ?h0
  (fun y a' W=>∃(gm:Nat)(Pa:Option Addr)(m1 c1:Nat)(Qa:Option Addr)(m2 c2:Nat)(v:Value),V.heap.size<=gm/\Blk W gm 42 (dmCells (thereL l)[y.val].2).toArray/\Blk W (w1.heap.size+1) 63 #[.slice Pa m1 c1,.slice Qa m2 c2]/\Blk W (w1.heap.size+1+1) 31 #[v]/\Off gm Pa m1/\Off gm Qa m2/\v.ownBlock≠some gm/\a'={tmps:=#[imval ⟨D,g,h,⟨seq,pos⟩,maps,false⟩ ⟨A1,a1⟩ ⟨A2,a2⟩ ⟨A3,a3⟩,.pointer (some ⟨w.heap.size,0,none⟩),.pointer (some ⟨w.heap.size+1,0,none⟩),.pointer (some ⟨w.heap.size+1+1,0,none⟩),.slice AL l.length cl,.pointer (some ⟨w1.heap.size,0,none⟩),.pointer (some ⟨w1.heap.size+1,0,none⟩),.pointer (some ⟨w1.heap.size+1+1,0,none⟩),.int .i64 ((thereL l)[y.val].1:Nat),.pointer (some ⟨gm,0,none⟩),undef,undef,.pointer (some ⟨w.heap.size,10,none⟩),.bool false,undef,.tuple #[.slice AL l.length cl,.int .i64 0],.pointer (some ⟨w.heap.size,0,none⟩),.agg #[.string (bs D.data),.slice A1 D.cache.length a1,.int .i64 D.fuse,.bool D.off,.slice A2 D.bad.length a2],.agg #[.slice none 0 0,.slice none 0 0],.tuple #[.slice AL l.length cl,.int .i64 0],.slice AL l.length cl,.int .i64 0,.int .i64 0,.bool false,undef,undef,.slice AL l.length cl,.func (.func 84) #[] #[.pointer (some ⟨w1.heap.size+1+1+1,0,none⟩)],.int .i64 ((thereL l)[y.val].1:Nat),dmval (thereL l)[y.val].2,undef,undef,undef,undef,undef,undef,undef,undef,undef,undef,undef,undef,undef,undef,undef,undef,undef,undef,undef,undef,undef,undef,undef,undef,undef,undef,undef,undef,undef,undef,undef,undef,undef,undef,undef,undef,undef,undef,undef],defers:=[]})
  (fun y a' s X Y row hs hy hr=>by obtain⟨gm,Pa,m1,c1,Qa,m2,c2,v,h1,h2,h3,h4,h5,h6,h7,h8⟩:=hs;exact⟨gm,Pa,m1,c1,Qa,m2,c2,v,h1,(Own.from (AE _ _ (fun _:Unit=>_)) _) () X Y row h2 hy hr,(Own.from (AE _ _ (fun _:Unit=>_)) _) () X Y row h3 hy hr,(Own.from (AE _ _ (fun _:Unit=>_)) _) () X Y row h4 hy hr,h5,h6,h7,h8⟩)
  ?assign ?body ?done ?stop
 case hI=>
  rintro pre X Y row ⟨⟨P,Q,v,h1⟩,h2,h3,h4⟩ hy hr;exact⟨⟨P,Q,v,LdSt.own' _ _ _ _ _ _ _ _ _ _ _ () X Y row h1 hy hr⟩,h2,Me w1.heap.size _ hC.size (fun g hg=>(al g hg).1) rfl () X Y row h3 hy hr,Nat.le_trans h4 hy.size⟩
 case hIx=>
  rintro c pre X Y row ⟨h0,h1,h2,h3,h4⟩ hy hr;exact⟨h0,h1,(Own.from (AE _ _ (fun _:Unit=>_)) _) () X Y row h2 hy hr,(Own.from (AE _ _ (fun _:Unit=>_)) _) () X Y row h3 hy hr,ownFrom_below (β:=Unit) (Nat.le_refl _) hB.size () X Y row h4 hy hr⟩
 case h0=>
  exact⟨⟨⟨none,0⟩,⟨none,0⟩,.slice none 0 0,⟨pb,eb,mb,World.ownsRow_nil _ _ _ _,AI _,fun g _=>⟨.inl rfl,.inl rfl⟩⟩⟩,hid rfl,KeepB.refl _ _ _,Nat.le_refl _⟩
 case assign=>
  rintro lp pre y W K ⟨⟨P,Q,v,st⟩,h0,hk,hs⟩ hK;have ap:=(HZ.out _ (List.getElem_mem y.isLt)).1
  dsimp only[thEnc]
  generalize (thereL l)[y.val].2=M at ap hK ⊢;generalize (thereL l)[y.val].1=N at hK ⊢;have vM:=AT ap;have cX:=st.pn.apart (Nat.le_refl W.heap.size);have du:=hid (show v.ownBlock≠some W.heap.size from fun e=>by have:=(st.own.lt _ e).2;omega);have hW:=Y0 W;have mx:=Blk.new W 42 (dmCells Dm.zero).toArray;have mk:=Tryz.dm_all Dm.zero rfl mx;have cu:=hW.alloc hW.size (.cells (dmCells Dm.zero).toArray 42);have s0:=Tryz.dm_put (a:=Dm.zero) M ap rfl mx;have cv:=AM cu (g:=W.heap.size) (by omega) M;have cN:=AN mx M rfl ap;have HW:=hid cv;have dr:=hid cN;replace hK:=hid hK
  gi_wp2_with fail
  have bq:=HW.out;have cR:=st.below bq;refine hK.out _ _ (Cf bq) (StaysC.zero bq.size) (KeepB.later bq (by have:=hC.size;omega) (fun g hg=>by have:=al g hg;omega)) ⟨⟨P,Q,v,cR⟩,h0,hk.trans (KeepB.later bq (by have:=hC.size;omega) (fun g hg=>by have:=al g hg;omega)),Nat.le_trans hs bq.size⟩ ⟨W.heap.size,P.a,_,P.c,Q.a,_,Q.c,v,hs,dr.out,cR.p,cR.m,cX.1,cX.2,du.out,rfl⟩
 case body=>
  rintro lp pre y a' W ⟨⟨P,Q,v,st⟩,h0,hk,hs⟩ ⟨gm,Pa,m1,c1,Qa,m2,c2,v',hg,hbm,hp',hm',ho1,ho2,hv',rfl⟩ hpl hVz;have d3:=Fy st.p hp';simp only[Array.mk.injEq,List.cons.injEq,Value.slice.injEq,and_true]at d3;obtain⟨⟨rfl,rfl,rfl⟩,⟨rfl,rfl,rfl⟩⟩:=d3;have d4:=Fy st.m hm';simp only[Array.mk.injEq,List.cons.injEq,and_true]at d4;subst d4;have hZ:=HZ.out _ (List.getElem_mem y.isLt);have db:=ds.out _ (List.getElem_mem y.isLt);have Hn:=hid (Mk (thereL l) pre y);have aI:=GL (thereL l) HZ.out pre;have dI:pre.length<2:=Nat.lt_of_lt_of_le hpl dt.out;generalize ldN (thereL l) pre=XX at*;obtain⟨⟨Lp,ms⟩,xe⟩:=XX;have cE:xe=0:=h0.out;subst cE;clear h0 hp' hm';simp only at st ho1 ho2 aI;generalize (thereL l)[y.val]=NM at*;obtain⟨N,M⟩:=NM;simp only at hbm hZ db ⊢;obtain⟨ap,hnl⟩:=hZ;obtain⟨hN,hnn⟩:=db;have bb:PnOff gm Lp P Q:=⟨ho1,ho2⟩;have Hs:Im.loadStep ((Lp,ms),0) (N,M)=if M.use=true then((Lp,ms++[Im.dmLoaded M]),0)else if(Pn.dmSet Lp N (dmFresh M.name)).2≠0 then((Lp,ms),(Pn.dmSet Lp N (dmFresh M.name)).2)else(((Pn.dmSet Lp N (dmFresh M.name)).1,ms++[Im.dmLoaded M]),0):=by
   unfold Im.loadStep;rw[if_neg (by simp),if_neg hnn]
  replace Hn:=hid (Hn.out.trans Hs);clear Hs hnn ho1 ho2;have av:=Eg ap;have dY:=hbm.lt;have bk:=Tryz.dm_all M ap hbm;have vM:=AT ap;obtain⟨us,hus⟩:∃us,M.use=us:=⟨_,rfl⟩;have ch:=bk;rw[hus]at ch;clear bk;cases us with
  |true=>
   have Hr:=hid (Hn.out.trans (if_pos hus));have cV:=hid hbm;have hW:=hid (And.intro ap hus);clear Hn
   gi_wp2_with fail
   gi_loopw [32] (fun k T=>∃n:Nat,n<=64/\k=.int .i64 n/\Blk T gm 42 (dmCells (setTo M n)).toArray/\Hid (W.grownBy T (some gm))) (fun k _=>64-(intOf k).toNat)
   case atStart=>exact⟨0,Nat.zero_le _,rfl,by rw[IG];exact cV.out,hid (De _ _)⟩
   case round=>
    clear ch;obtain⟨n,hn,rfl,bT,hgT⟩:=hrel;by_cases hlt:n<64
    · have bH:=IE hW.out.1 (Nat.le_of_lt hlt);have kb:=bT.bit n (by omega);have fb:=bT.fz;have Hnx:=hid (show Blk (wr.setCell ⟨gm,2+n,none⟩ (.bool true)) gm 42 (dmCells (setTo M (n+1))).toArray by
       have h:=CU (n:=M.name) (u:=M.use) (l:=(setTo M n).bits) bT n true;rw[IF (by have:=hW.out.1;omega)]at h;exact h)
      have Hg2:=hid (Bh hgT.out (2+n) (.bool true));clear bT
      gi_wp2_with fail
      go_roundw
      case rel=>exact⟨n+1,by omega,by go_num,Hnx.out,Hg2⟩
      case measure=>simp[intOf];omega
    · obtain rfl:n=64:=by omega
      rw[ID hW.out.1 hW.out.2]at bT;have cS:=st.grown hgT.out (by omega) bb hv';have bj:=bb;have co:=(Mf hgT.out cV.out).from V.heap.size;have cI:=Ew hgT.out (B:=w1.heap.size) (b:=w1.heap.size+1+1+1) (by omega) (by omega) (by omega) (by omega);have zT:=co.size;obtain⟨M2,hM2'⟩:∃M2,Im.dmLoaded M=M2:=⟨_,rfl⟩;rw[hM2']at bT Hr av;have b5:=av;have af:=av;have bG:({M2 with use:=true}:Dm)=M2:=by rw[<-hM2'];unfold Im.dmLoaded;rw[if_pos hW.out.2]
      have b1:=BM bT true;rw[bG]at b1;have dx:=Tryz.dm_all _ b5 bT;have dw:=bT.fz;have a7:=cS.grown (BE wr gm 1 (.bool true)) (by omega) bj hv';have az:=co.trans ((KeepsOthers.setCell wr ⟨gm,1,none⟩ (.bool true)).from V.heap.size);have bi:=cI.trans (Ew (BE wr gm 1 (.bool true)) (B:=w1.heap.size) (b:=w1.heap.size+1+1+1) (by omega) (by omega) (by omega) (by omega));obtain⟨T1,hT1⟩:∃T1,wr.setCell ⟨gm,1,none⟩ (.bool true)=T1:=⟨_,rfl⟩;rw[hT1]at b1 a7 az bi;have dN:=blk1 a7.m;have dv:=Tryz.dm_all M2 af b1;have MC:=AA af;have bc:V.heap.size<=T1.heap.size:=Nat.le_trans hs az.size;have cB:ms.length<=pre.length:=aI.len;have aE:T1.ownsRow V.heap.size 42 66 v ms.length (dmRows ms):=a7.own;clear bG
      gi_wp2_with (first|(refine Je rfl rfl _ (Tryz.run_bsd _ rfl M2 af rfl _) ?_)|(gi_at_builtin;refine Jd _ rfl _ _ 31 rfl V.heap.size 42 i0 (dmval Dm.zero) 66 88 Tryz.underlying31 hi hz0 hz1 hz2 rfl (by decide) _ _ _ rfl (aE.alloc _) ⟨T1.heap.size,0,none⟩ 1 1 (dmCells M2) (by decide) rfl MC (World.news_of_block (Blk.new T1 42 (dmCells M2).toArray)) (AZ M2) (by unfold maxLen;omega) (by omega) (by simp;omega) ?_;intro vn w5 hown' hgrow hat;obtain⟨g',cap',rfl⟩:=ownsRow_succ hown';obtain⟨q1,q2,q3,q4,q5,q6⟩:=Fp a7.m (by decide) aE bc hown' hgrow;have dM:=blk1 q1;have dA:=q1.frozen 0))
      rw[Bk]at q3;have cG:=Dw (a7.pn.below (Yz (.cells (dmCells M2).toArray 42))) hgrow (fun g e=>a7.off g (.inr e));have bh:=cG.off (a:=⟨w1.heap.size+2,0,none⟩) (a7.off (w1.heap.size+2) (.inl (by omega))) (.slice (some ⟨g',0,none⟩) (ms.length+1) cap');have ba:∀g,(g<=w1.heap.size+3\/(Value.slice (some ⟨g',0,none⟩) (ms.length+1) cap').ownBlock=some g)->PnOff g Lp P Q:=fun g h=>by
       rcases h with h|h
       · exact a7.off g (.inl h)
       · rcases hat with e|e
         · exact a7.off g (.inr (e.symm.trans h))
         · rw[e]at h;injection h with h
           exact a7.pn.apart (by rw[<-h];simp)
      refine⟨az.trans (q4.from _),⟨StaysC.zero (Nat.le_trans az.size q4.size),bi.trans ⟨q5 w1.heap.size (by omega) (by omega),fun g hg=>q6 g (al g hg).1 (by have:=al g hg;omega)⟩⟩,⟨P,Q,.slice (some ⟨g',0,none⟩) (ms.length+1) cap',?_⟩,?_,hk.trans (bi.trans ⟨q5 w1.heap.size (by omega) (by omega),fun g hg=>q6 g (al g hg).1 (by have:=al g hg;omega)⟩),Nat.le_trans hs (Nat.le_trans az.size q4.size)⟩
      · rw[Hr.out];exact⟨a7.p.at_ (q6 _ (by omega) (by omega)),a7.e.at_ (q6 _ (by omega) (by omega)),q2,by rw[List.length_append];exact q3,bh,ba⟩
      · exact hid (by rw[Hr.out])
  |false=>
   have hu:¬(M.use=true):=by rw[hus];simp
   replace Hn:=hid (Hn.out.trans (if_neg hu));have cz:=fun(W:World)=>D6 M.name W
   have bL:Lp.Fit:=aI.fit;have cf:=hid (fun(T:World)(hb:Below W.heap.size W T)=>EX Lp P Q T (st.pn.below hb) (by have:=bL.2.1;omega) bL.1 (N:Int) (dmFresh M.name) (AX M.name) hnl (by unfold okInt;omega));obtain⟨nn,hnn⟩:∃nn,M.name=nn:=⟨_,rfl⟩;have dq:=hid (show({M with use:=true}:Dm)=Im.dmLoaded M by unfold Im.dmLoaded;rw[if_neg hu]);rw[hnn]at cz cf Hn ch;generalize dmFresh nn=Fr at*;have bM:=Pn.dmSet_fit bL (N:Int) Fr;generalize Pn.dmSet Lp (N:Int) Fr=SS at*;obtain⟨L2,e2⟩:=SS;simp only at cf Hn bM;have xW:=x.below (hk.below) cF;have rW:=r.below (hk.below) cD;have d5:=er.below (hk.below) b7
   gi_wp2_with fail
   have KX:=fun(T:World)(hT:Below W.heap.size W T)=>And.intro (blk2 (st.p.below hT st.p.lt)) (Tryz.dm_all M ap (hbm.bl hT))
   rw[hnn]at KX;refine Fg mixed (by kernel_rfl) (by rintro⟨a,w',h⟩;exact h) (CS (S:=fun T=>Below W.heap.size W T) (late:=fun i=>i==9||i==10) _ _ _ _ ?_);show wpLate _ _ _ _ _ _ _ _ _ W.drew;have s0:Below W.heap.size W W.drew:=(Below.refl _ _).drew;generalize W.drew=U0 at s0 ⊢;simp only[Nat.reduceAdd,Yn];refine Yu 0 (some 40) (.agg #[.slice P.a Lp.targets.length P.c,.slice Q.a Lp.data.length Q.c]) rfl (by kernel_rfl) (fun _ _ _ h=>h) (fun T hT=>by have h:=KX T hT;go_simp) s0 ?_;simp only[Yf];refine Yt 1 41 (.int .i64 (N:Int)) rfl (by kernel_rfl) (fun _ _ _ h=>h) (fun W=>by first|rfl|go_simp) ?_;simp only[Yf];refine Yt 2 42 (.pointer (some ⟨gm,0,none⟩)) rfl (by kernel_rfl) (fun _ _ _ h=>h) (fun W=>by first|rfl|go_simp) ?_;simp only[Yf];refine Yu 3 (some 43) (.string (bs nn)) rfl (by kernel_rfl) (fun _ _ _ h=>h) (fun T hT=>by have h:=KX T hT;go_simp) s0 ?_;simp only[Yf];refine Ak (i:=4) (by kernel_rfl) rfl rfl (fun K' hK=>?_);refine oper_enter' (f:=23) (args:=#[.string (bs nn)]) (w':=U0) (by go_simp) ((cz U0).mono ?_);rintro e U1 ⟨rfl,hb0⟩;refine⟨_,rfl,?_⟩;show K' (Act.put _ (some 44) _) _;have s1:=bt s0 hb0;refine hK _ _ (fun _ _=>s1) ?_;simp only[Yf];refine Ak (i:=5) (by kernel_rfl) rfl rfl (fun K' hK=>?_);refine oper_enter' (f:=38) (args:=#[.agg #[.slice P.a Lp.targets.length P.c,.slice Q.a Lp.data.length Q.c],.int .i64 (N:Int),dmval Fr]) (w':=U1) (by go_simp) ((cf.out U1 s1).mono ?_);rintro e U2 ⟨⟨P2,Q2,rfl,i2,o2⟩,hb1⟩;refine⟨_,rfl,?_⟩;show K' (Act.put _ (some 45) _) _;have s2:=bt s1 hb1;refine hK _ _ (fun _ _=>s2) ?_;simp only[Yf];refine Yt 6 39 (.tuple #[.agg #[.slice P2.a L2.targets.length P2.c,.slice Q2.a L2.data.length Q2.c],.int .i64 e2]) rfl (by kernel_rfl) (fun _ _ _ h=>h) (fun W=>by first|rfl|go_simp) ?_;simp only[Yf];refine Yt 7 46 (.agg #[.slice P2.a L2.targets.length P2.c,.slice Q2.a L2.data.length Q2.c]) rfl (by kernel_rfl) (fun _ _ _ h=>h) (fun W=>by first|rfl|go_simp) ?_;simp only[Yf];refine Yt 8 47 (.int .i64 e2) rfl (by kernel_rfl) (fun _ _ _ h=>h) (fun W=>by first|rfl|go_simp) ?_;simp only[Yf];have st2:=st.below s2;have z0:=st2.p;have dU:=z0.fz;have z1:=z0.set 0 (.slice P2.a L2.targets.length P2.c);simp only[List.setIfInBounds_toArray,List.set_cons_zero]at z1;have dW:=blk2 z1;have dV:=z1.fz;have z2:=ap2 (Aj z0) L2 P2.a P2.c Q2.a Q2.c;have oo:∀g,(g<=w1.heap.size+3\/v.ownBlock=some g)->PnOff g L2 P2 Q2:=fun g h=>by
    have h1:=s1.size;refine o2 g ?_ (st.off g h)
    rcases h with h|h
    · omega
    · have:=(st.own.lt g h).2;omega
   have de:=o2 gm (by have:=s1.size;omega) bb;have e9:=st2.e.other (a:=⟨w1.heap.size+1,0,none⟩) (by show¬w1.heap.size=w1.heap.size+1;omega) (.slice P2.a L2.targets.length P2.c);obtain⟨e9,cZ,cY⟩:=Z1f (e9.other (a:=⟨w1.heap.size+1,1,none⟩) (by show¬w1.heap.size=w1.heap.size+1;omega) (.slice Q2.a L2.data.length Q2.c));refine Ak (i:=9) (by kernel_rfl) rfl rfl (fun K' hK=>?_);refine Ay (w':=((U2.setCell ⟨w1.heap.size+1,0,none⟩ (.slice P2.a L2.targets.length P2.c)).setCell ⟨w1.heap.size+1,1,none⟩ (.slice Q2.a L2.data.length Q2.c))) (by go_simp) ?_;show K' (Act.put _ none _) _;refine hK _ _ (fun h=>absurd h (by decide)) ?_
   try simp only[Yf]
   have cg:=ap2 (Ae (B:=w1.heap.size) (g:=w1.heap.size+1) (s2.mono (by omega):Below w1.heap.size W U2) (by omega)) L2 P2.a P2.c Q2.a Q2.c;have i9:=(ap2 (i2.off2 (g:=w1.heap.size+1) (oo (w1.heap.size+1) (.inl (by omega)))) L2 P2.a P2.c Q2.a Q2.c);have m9:=(st2.m.other (a:=⟨w1.heap.size+1,0,none⟩) (by show¬w1.heap.size+2=w1.heap.size+1;omega) (.slice P2.a L2.targets.length P2.c)).other (a:=⟨w1.heap.size+1,1,none⟩) (by show¬w1.heap.size+2=w1.heap.size+1;omega) (.slice Q2.a L2.data.length Q2.c);have cp:=((hbm.bl s2).other (a:=⟨w1.heap.size+1,0,none⟩) (by show¬gm=w1.heap.size+1;omega) (.slice P2.a L2.targets.length P2.c)).other (a:=⟨w1.heap.size+1,1,none⟩) (by show¬gm=w1.heap.size+1;omega) (.slice Q2.a L2.data.length Q2.c);have nb:∀o u,v.ownBlock≠some (Addr.block ⟨w1.heap.size+1,o,u⟩):=fun o u e=>by have:=(st.own.lt _ e).1;simp at this;omega
   have bm:=(st2.own.kept (BE U2 (w1.heap.size+1) 0 (.slice P2.a L2.targets.length P2.c)) (.inr (fun e=>nb 0 none e))).kept (BE _ (w1.heap.size+1) 1 (.slice Q2.a L2.data.length Q2.c)) (.inr (fun e=>nb 1 none e));have bu:KeepsFrom V.heap.size W ((U2.setCell ⟨w1.heap.size+1,0,none⟩ (.slice P2.a L2.targets.length P2.c)).setCell ⟨w1.heap.size+1,1,none⟩ (.slice Q2.a L2.data.length Q2.c)):=(Cf s2).trans (((KeepsOthers.setCell _ _ _).trans (KeepsOthers.setCell _ _ _)).from _);have cH:KeepB w1.heap.size [w1.heap.size+1+1+1] W ((U2.setCell ⟨w1.heap.size+1,0,none⟩ (.slice P2.a L2.targets.length P2.c)).setCell ⟨w1.heap.size+1,1,none⟩ (.slice Q2.a L2.data.length Q2.c)):=⟨cg,fun k hk9=>by
    obtain rfl:k=w1.heap.size+1+1+1:=by simpa using hk9
    exact(Below.heap_setCell _ _ _ _ (by show¬w1.heap.size+1+1+1=w1.heap.size+1;omega)).trans ((Below.heap_setCell _ _ _ _ (by show¬w1.heap.size+1+1+1=w1.heap.size+1;omega)).trans (s2.block _ (by omega)))⟩
   generalize ((U2.setCell ⟨w1.heap.size+1,0,none⟩ (.slice P2.a L2.targets.length P2.c)).setCell ⟨w1.heap.size+1,1,none⟩ (.slice Q2.a L2.data.length Q2.c))=U3 at z2 e9 cZ cY cg i9 m9 cp bm bu cH ⊢;refine Ak (i:=10) (by kernel_rfl) rfl rfl (fun K' hK=>?_);refine Ay (w':=U3.setCell ⟨w1.heap.size,0,none⟩ (.int .i64 e2)) (by go_simp) ?_;show K' (Act.put _ none _) _;refine hK _ _ (fun h=>absurd h (by decide)) ?_
   try simp only[Yf]
   refine AD (by kernel_rfl) ?_ _;have E4:=e9.set 0 (.int .i64 e2);simp only[List.setIfInBounds_toArray,List.set_cons_zero]at E4;have z4:=z2.other (a:=⟨w1.heap.size,0,none⟩) (by show¬w1.heap.size+1=w1.heap.size;omega) (.int .i64 e2);have m4:=m9.other (a:=⟨w1.heap.size,0,none⟩) (by show¬w1.heap.size+2=w1.heap.size;omega) (.int .i64 e2);have ci:=cp.other (a:=⟨w1.heap.size,0,none⟩) (by show¬gm=w1.heap.size;omega) (.int .i64 e2);have i4:=i9.off (a:=⟨w1.heap.size,0,none⟩) (oo w1.heap.size (.inl (by omega))) (.int .i64 e2);have aJ:=bm.kept (BE U3 w1.heap.size 0 (.int .i64 e2)) (.inr (fun e=>by have:=(st.own.lt _ e).1;omega));have bQ:=bu.trans ((KeepsOthers.setCell U3 ⟨w1.heap.size,0,none⟩ (.int .i64 e2)).from V.heap.size);have b2:=cg.setCell (p:=⟨w1.heap.size,0,none⟩) (Nat.le_refl _) (.int .i64 e2);have cm:KeepB w1.heap.size [w1.heap.size+1+1+1] W (U3.setCell ⟨w1.heap.size,0,none⟩ (.int .i64 e2)):=⟨b2,fun k hk9=>(Below.heap_setCell _ _ _ _ (by have:=al k hk9;simp;omega)).trans (cH.at_ k hk9)⟩;generalize U3.setCell ⟨w1.heap.size,0,none⟩ (.int .i64 e2)=U at E4 z4 m4 ci i4 aJ bQ b2 cm ⊢;have zU:=bQ.size;clear z0 dU z1 dW dV z2 e9 cZ cY cg i9 m9 cp bm bu cH st2 KX s0 s1 s2 i2 o2 hb0 hb1 ch cf cz;by_cases he:e2=0
   · subst he;have Hr:=hid (Hn.out.trans (if_neg (by simp)));clear Hn hu;have cS:LdSt U V.heap.size w1.heap.size 63 36 31 42 (L2,ms) P2 Q2 v:=⟨z4,E4,m4,aJ,i4,oo⟩;have bT:=ci;have bj:=de;have co:=bQ;have cI:=cm;have zT:=zU;have b5:=ap;have dy:=blk1 E4;obtain⟨M2,hM2'⟩:∃M2,Im.dmLoaded M=M2:=⟨_,rfl⟩;rw[hM2']at Hr av;have af:=av;have bG:=dq.out.trans hM2';clear hM2' z4 E4 m4 aJ i4 ci bQ cm b2;have b1:=BM bT true;rw[bG]at b1;have dx:=Tryz.dm_all _ b5 bT;have dw:=bT.fz;have a7:=cS.grown (BE U gm 1 (.bool true)) (by omega) bj hv';have az:=co.trans ((KeepsOthers.setCell U ⟨gm,1,none⟩ (.bool true)).from V.heap.size);have bi:=cI.trans (Ew (BE U gm 1 (.bool true)) (B:=w1.heap.size) (b:=w1.heap.size+1+1+1) (by omega) (by omega) (by omega) (by omega));obtain⟨T1,hT1⟩:∃T1,U.setCell ⟨gm,1,none⟩ (.bool true)=T1:=⟨_,rfl⟩;rw[hT1]at b1 a7 az bi;have dN:=blk1 a7.m;have dv:=Tryz.dm_all M2 af b1;have MC:=AA af;have bc:V.heap.size<=T1.heap.size:=Nat.le_trans hs az.size;have cB:ms.length<=pre.length:=aI.len;have aE:T1.ownsRow V.heap.size 42 66 v ms.length (dmRows ms):=a7.own;clear bG
     gi_wp2_with (first|(refine Je rfl rfl _ (Tryz.run_bsd _ rfl M2 af rfl _) ?_)|(gi_at_builtin;refine Jd _ rfl _ _ 31 rfl V.heap.size 42 i0 (dmval Dm.zero) 66 88 Tryz.underlying31 hi hz0 hz1 hz2 rfl (by decide) _ _ _ rfl (aE.alloc _) ⟨T1.heap.size,0,none⟩ 1 1 (dmCells M2) (by decide) rfl MC (World.news_of_block (Blk.new T1 42 (dmCells M2).toArray)) (AZ M2) (by unfold maxLen;omega) (by omega) (by simp;omega) ?_;intro vn w5 hown' hgrow hat;obtain⟨g',cap',rfl⟩:=ownsRow_succ hown';obtain⟨q1,q2,q3,q4,q5,q6⟩:=Fp a7.m (by decide) aE bc hown' hgrow;have dM:=blk1 q1;have dA:=q1.frozen 0))
     rw[Bk]at q3;have cG:=Dw (a7.pn.below (Yz (.cells (dmCells M2).toArray 42))) hgrow (fun g e=>a7.off g (.inr e));have bh:=cG.off (a:=⟨w1.heap.size+2,0,none⟩) (a7.off (w1.heap.size+2) (.inl (by omega))) (.slice (some ⟨g',0,none⟩) (ms.length+1) cap');have ba:∀g,(g<=w1.heap.size+3\/(Value.slice (some ⟨g',0,none⟩) (ms.length+1) cap').ownBlock=some g)->PnOff g L2 P2 Q2:=fun g h=>by
      rcases h with h|h
      · exact a7.off g (.inl h)
      · rcases hat with e|e
        · exact a7.off g (.inr (e.symm.trans h))
        · rw[e]at h;injection h with h
          exact a7.pn.apart (by rw[<-h];simp)
     refine⟨az.trans (q4.from _),⟨StaysC.zero (Nat.le_trans az.size q4.size),bi.trans ⟨q5 w1.heap.size (by omega) (by omega),fun g hg=>q6 g (al g hg).1 (by have:=al g hg;omega)⟩⟩,⟨P2,Q2,.slice (some ⟨g',0,none⟩) (ms.length+1) cap',?_⟩,?_,hk.trans (bi.trans ⟨q5 w1.heap.size (by omega) (by omega),fun g hg=>q6 g (al g hg).1 (by have:=al g hg;omega)⟩),Nat.le_trans hs (Nat.le_trans az.size q4.size)⟩
     · rw[Hr.out];exact⟨a7.p.at_ (q6 _ (by omega) (by omega)),a7.e.at_ (q6 _ (by omega) (by omega)),q2,by rw[List.length_append];exact q3,bh,ba⟩
     · exact hid (by rw[Hr.out])
   · have n2:(e2 !=0)=true:=bne_iff_ne.2 he;have Hr:=hid (Hn.out.trans (if_pos he));have He:=hid he;clear Hn hu he;have xU:=xW.below b2 cF;have rU:=rW.below b2 cD;have dz:=d5.below b2 b7;have dy:=blk1 E4;have b6:=((ct.trans (hk.below.mono (by omega))).trans (b2.mono (by omega)):Below w.heap.size w U);clear z4 m4 aJ i4 ci cm oo de xW rW d5
     gi_wp2_with fail
     have aL:=fun(T:World)(hT:Blk T w.heap.size 33 #[.string (bs D.data),.slice A1 D.cache.length a1,.int .i64 D.fuse,.bool D.off,.slice A2 D.bad.length a2,.int .i64 g,.int .i64 h,.int .u64 seq,.int .i64 pos,.slice A3 maps.length a3,.bool false]/\Blk T w1.heap.size 36 #[.int .i64 e2])=>And.intro (Aa hT.1) (blk1 hT.2)
     refine Fg mixed (by kernel_rfl) (by rintro⟨a,w',h⟩;exact h) (CS (S:=fun T=>Blk T w.heap.size 33 #[.string (bs D.data),.slice A1 D.cache.length a1,.int .i64 D.fuse,.bool D.off,.slice A2 D.bad.length a2,.int .i64 g,.int .i64 h,.int .u64 seq,.int .i64 pos,.slice A3 maps.length a3,.bool false]/\Blk T w1.heap.size 36 #[.int .i64 e2]) (late:=fun _=>false) _ _ _ _ ?_);show wpLate _ _ _ _ _ _ _ _ _ U.drew;have s0:Blk U.drew w.heap.size _ _/\Blk U.drew w1.heap.size _ _:=⟨xU,E4⟩;have r0:Blk U.drew (w.heap.size+1) _ _:=rU;have aO:Blk U.drew (w.heap.size+1+1) _ _:=dz;have aK:=b6.trans ((Y0 U).drew.mono (by have:=b6.size;omega));have dd:KeepsFrom V.heap.size W U.drew:=bQ.trans (Cf (Y0 U).drew);generalize U.drew=U0 at s0 r0 aO aK dd ⊢;simp only[Nat.reduceAdd,Yn];refine Yu 0 (some 50) (.agg #[.string (bs D.data),.slice A1 D.cache.length a1,.int .i64 D.fuse,.bool D.off,.slice A2 D.bad.length a2,.int .i64 g,.int .i64 h,.int .u64 seq,.int .i64 pos,.slice A3 maps.length a3,.bool false]) rfl (by kernel_rfl) (fun _ _ _ h=>h) (fun T hT=>by have h:=aL T hT;go_simp) s0 ?_;simp only[Yf];refine Yu 1 (some 51) (.int .i64 e2) rfl (by kernel_rfl) (fun _ _ _ h=>h) (fun T hT=>by have h:=aL T hT;go_simp) s0 ?_;simp only[Yf];refine Ak (i:=2) (by kernel_rfl) rfl rfl (fun K' hK=>?_);have Yy:=ap11 (BN r0) D A1 a1 A2 a2 g h seq pos A3 maps.length a3 false;refine Yq Yy (by have H:=Yk11 r0 Yy;go_simp) ?_;show K' (Act.put _ none _) _;have r9:=Yy;have x9:=ap11 (A4 s0.1 (g:=w.heap.size+1) (by omega)) D A1 a1 A2 a2 g h seq pos A3 maps.length a3 false;have e9:=ap11 (A4 s0.2 (g:=w.heap.size+1) (by omega)) D A1 a1 A2 a2 g h seq pos A3 maps.length a3 false;have ai:=ap11 (A4 aO (g:=w.heap.size+1) (by omega)) D A1 a1 A2 a2 g h seq pos A3 maps.length a3 false;have B9:=Ym11 aK Yy (by omega);have bu:KeepsFrom V.heap.size W ((((((((((((U0.setCell ⟨w.heap.size+1,0,none⟩ (.string (bs D.data))).setCell ⟨w.heap.size+1,1,none⟩ (.slice A1 D.cache.length a1)).setCell ⟨w.heap.size+1,2,none⟩ (.int .i64 D.fuse)).setCell ⟨w.heap.size+1,3,none⟩ (.bool D.off)).setCell ⟨w.heap.size+1,4,none⟩ (.slice A2 D.bad.length a2)).setCell ⟨w.heap.size+1,5,none⟩ (.int .i64 g)).setCell ⟨w.heap.size+1,6,none⟩ (.int .i64 h)).setCell ⟨w.heap.size+1,7,none⟩ (.int .u64 seq)).setCell ⟨w.heap.size+1,8,none⟩ (.int .i64 pos)).setCell ⟨w.heap.size+1,9,none⟩ (.slice A3 maps.length a3)).setCell ⟨w.heap.size+1,10,none⟩ (.bool false))):=ap11 (Bl (P:=fun T=>KeepsFrom V.heap.size W T) (fun T o v h=>h.trans ((KeepsOthers.setCell T ⟨w.heap.size+1,o,none⟩ v).from _)) dd) D A1 a1 A2 a2 g h seq pos A3 maps.length a3 false;refine hK _ _ (fun _ _=>⟨x9,e9⟩) ?_
     try simp only[Yf]
     generalize (((((((((((U0.setCell ⟨w.heap.size+1,0,none⟩ (.string (bs D.data))).setCell ⟨w.heap.size+1,1,none⟩ (.slice A1 D.cache.length a1)).setCell ⟨w.heap.size+1,2,none⟩ (.int .i64 D.fuse)).setCell ⟨w.heap.size+1,3,none⟩ (.bool D.off)).setCell ⟨w.heap.size+1,4,none⟩ (.slice A2 D.bad.length a2)).setCell ⟨w.heap.size+1,5,none⟩ (.int .i64 g)).setCell ⟨w.heap.size+1,6,none⟩ (.int .i64 h)).setCell ⟨w.heap.size+1,7,none⟩ (.int .u64 seq)).setCell ⟨w.heap.size+1,8,none⟩ (.int .i64 pos)).setCell ⟨w.heap.size+1,9,none⟩ (.slice A3 maps.length a3)).setCell ⟨w.heap.size+1,10,none⟩ (.bool false))=U9 at r9 x9 e9 ai B9 bu ⊢;have bB:=blk1 ai;have bA:=ai.fz;refine Ak (i:=3) (by kernel_rfl) rfl rfl (fun K' hK=>?_);refine Ay (w':=U9.setCell ⟨w.heap.size+1+1,0,none⟩ (.int .i64 e2)) (by go_simp) ?_;show K' (Act.put _ none _) _;have x8:=x9.other (a:=⟨w.heap.size+1+1,0,none⟩) (by show¬w.heap.size=w.heap.size+1+1;omega) (.int .i64 e2);have e8:=e9.other (a:=⟨w.heap.size+1+1,0,none⟩) (by show¬w1.heap.size=w.heap.size+1+1;omega) (.int .i64 e2);refine hK _ _ (fun _ _=>⟨x8,e8⟩) ?_
     try simp only[Yf]
     refine AD (by kernel_rfl) ?_ _;have aH:=ai.set 0 (.int .i64 e2);simp only[List.setIfInBounds_toArray,List.set_cons_zero]at aH
     gi_wp2_with fail
     exact⟨bu.trans ((KeepsOthers.setCell _ _ _).from _),rfl,hid (by rw[Hr.out];exact He.out),r9.other (a:=⟨w.heap.size+1+1,0,none⟩) (by show¬w.heap.size+1=w.heap.size+1+1;omega) _,by rw[Hr.out];exact aH,B9.setCell (p:=⟨w.heap.size+1+1,0,none⟩) (by show w.heap.size<=w.heap.size+1+1;omega) _⟩
 case done=>
  rintro Dd ys U hDd hS ⟨⟨P,Q,v,st⟩,h0,hk,hs⟩ hK;have Hl:Im.loadAll l=ldN (thereL l) ys:=by
   unfold ldN;rw[hS];exact GP l
  have aI:=GL (thereL l) HZ.out ys;generalize ldN (thereL l) ys=XX at*;obtain⟨⟨Lp,ms⟩,xe⟩:=XX;have cE:xe=0:=h0.out;subst cE;simp only at st aI;rw[Hl]at HC;simp only at HC;replace HC:=hid (HC.out.trans (if_neg (by simp)));clear h0 hS Hl;have bL:Lp.Fit:=aI.fit;have bH:=aI.bits;have cw:=aI.name;have cy:=fun(W:World)(P Q:Pl)(hb:Below w.heap.size w W)(j:IsPn W Lp P Q)=>cW.out W Lp P Q hb j bL
  clear cW aI;generalize Im.done ⟨D,g,h,⟨seq,pos⟩,maps,false⟩ Lp=DN at*;obtain⟨⟨F,g9,h9,⟨s9,o9⟩,m9,b9⟩,ed⟩:=DN;simp only at cy HC;have b6:Below w.heap.size w U:=ct.trans (hk.below.mono (by omega));have x2:=x.below hk.below cF;have r2:=r.below hk.below cD;have cs:=er.below hk.below b7;obtain⟨A5,c5,rfl,_,_,_⟩:=Aw st.own;have mI:=IsMs.of_own rfl st.own bH cw;have aA:∀g,g<V.heap.size->MsOff g ms ⟨A5,c5⟩:=fun g h=>.inr (AF st.own h)
  have bw:=st.e;have bW:=st.p;have cK:=st.m;have dc:=st.pn;have dH:=aA (w.heap.size+1) (by omega);have dG:=aA (w.heap.size+1+1) (by omega);have ho1:=aA w1.heap.size (by omega);have dF:=hid aA;clear st aA x r er ct;have xk:=Aa x2;have ebk:=blk1 bw;have bY:=blk2 bW;go_wp2_with fail
  refine((cy _ _ _ b6 dc)).mono ?_;rintro e w4 ⟨⟨⟨P5,e5⟩,⟨Q5,f5⟩,⟨R5,g5⟩,rfl,i5,o5⟩,hb4⟩;replace b6:=bt b6 hb4;replace mI:=mI.below hb4;replace x2:=x2.bl hb4;replace xk:=Aa x2;replace r2:=r2.bl hb4;replace cs:=cs.bl hb4;replace bw:=bw.bl hb4;replace ebk:=blk1 bw;replace bW:=bW.bl hb4;replace bY:=blk2 bW;replace cK:=cK.bl hb4;have d6:=(hb4.block Dd (Array.getElem?_eq_some_iff.1 hK).1).trans hK;have dC:Dd<w4.heap.size:=(Array.getElem?_eq_some_iff.1 d6).1;have di:=o5 (w.heap.size+1) (by omega) ⟨dR,dS⟩;have dh:=o5 (w.heap.size+1+1) (by omega) (ce.out _ (by omega));have dg:=o5 w1.heap.size (by omega) (ce.out _ (by omega));have dP:=dg.1;have dQ:=dg.2;have O5:=hid (fun g' (h1:g'<w.heap.size) h2=>o5 g' (by omega) h2);have oY:=i5.apart (Nat.le_refl w4.heap.size);have dZ:=oY.1;have e0:=(mI).apart (Nat.le_refl w4.heap.size);have dO:=oY.2;have dJ:=i5.d;have dK:=i5.m;clear o5 cy dc;have y:=Am (Blk.new w4 33) F P5 e5 Q5 f5 g9 h9 s9 o9 R5 m9.length g5 b9;have a4:=Ya b6 y;have cJ:=mI.below (Yb a4);have cT:=Yc x2 a4;have cQ:=Yc r2 a4;have bz:=Yc cs a4;obtain⟨bx,d1,cr⟩:=Z1f (Yc bw a4);have bX:=Yc bW a4;have bV:=Yc cK a4;have bP:=dJ.below (Yb a4);have bf:=dK.below (Yb a4);have a0:=(a4).setCell (p:=⟨w1.heap.size,0,none⟩) (by show _<=(w1.heap.size:Nat);omega) (.int .i64 ed);have bS:=cJ.o1 a0 (by assumption);obtain⟨dk,dn⟩:=Z11 (Yx cT a0 (by omega));obtain⟨b0,dj⟩:=Z11 (Yx cQ a0 (by omega));obtain⟨an,d2⟩:=Z1 (Yx bz a0 (by omega));have a8:=(bx).set 0 (.int .i64 ed);simp only[Ye]at a8;have cq:=blk1 a8;have cj:=a8.fz;obtain⟨cO,cP⟩:=Z2 (Yx bX a0 (by omega));obtain⟨cL,cM⟩:=Z1 (Yx bV a0 (by omega));have ay:=bP.o1 a0 (by assumption);have bg:=bf.o1 a0 (by assumption);obtain⟨cc,dp,cU⟩:=Z11f (Yx y a0 (by omega));have dD:(w4.alloc (.cells #[.string (bs F.data),.slice P5 F.cache.length e5,.int .i64 F.fuse,.bool F.off,.slice Q5 F.bad.length f5,.int .i64 g9,.int .i64 h9,.int .u64 s9,.int .i64 o9,.slice R5 m9.length g5,.bool b9] 33)).heap[Dd]? =_:=(Below.heap_alloc _ _ _ dC).trans d6;have da:=(Below.heap_setCell (w4.alloc (.cells #[.string (bs F.data),.slice P5 F.cache.length e5,.int .i64 F.fuse,.bool F.off,.slice Q5 F.bad.length f5,.int .i64 g9,.int .i64 h9,.int .u64 s9,.int .i64 o9,.slice R5 m9.length g5,.bool b9] 33)) ⟨w1.heap.size,0,none⟩ (.int .i64 ed) Dd (by show¬Dd=w1.heap.size;omega)).trans dD;by_cases he:ed=0
  rotate_left
  · have n2:(ed==0)=false:=beq_eq_false_iff_ne.2 he;have Hr:=hid (HC.out.trans (if_neg he));clear HC he;go_upto_region 25 with fail
    have yT:=cc;have bv:=a8;have rT:=b0;have bC:=an;have BT:=a0;have dT:=ay;have mT:=bg;have bF:=da;generalize (w4.alloc (.cells #[.string (bs F.data),.slice P5 F.cache.length e5,.int .i64 F.fuse,.bool F.off,.slice Q5 F.bad.length f5,.int .i64 g9,.int .i64 h9,.int .u64 s9,.int .i64 o9,.slice R5 m9.length g5,.bool b9] 33)).setCell ⟨w1.heap.size,0,none⟩ (.int .i64 ed)=T at yT bv rT bC BT dT mT bF ⊢;obtain⟨gy,hgy⟩:∃gy,w4.heap.size=gy:=⟨_,rfl⟩;rw[hgy]at yT ⊢;have cA:w1.heap.size<gy:=by omega
    have aD:=di;have aC:=dh;have aL:=fun(T9:World)(hT:Blk T9 gy 33 #[.string (bs F.data),.slice P5 F.cache.length e5,.int .i64 F.fuse,.bool F.off,.slice Q5 F.bad.length f5,.int .i64 g9,.int .i64 h9,.int .u64 s9,.int .i64 o9,.slice R5 m9.length g5,.bool b9]/\Blk T9 w1.heap.size 36 #[.int .i64 ed])=>And.intro (Aa hT.1) (blk1 hT.2)
    have s0:Blk T.drew gy _ _/\Blk T.drew w1.heap.size _ _:=⟨yT,bv⟩;have r0:Blk T.drew (w.heap.size+1) _ _:=rT;have aO:Blk T.drew (w.heap.size+1+1) _ _:=bC;have aK:=BT.trans ((Y0 T).drew.mono (by have:=BT.size;omega));have d0:=dT.below (Y0 T).drew;have m0:=mT.below (Y0 T).drew;have bD:T.drew.heap[Dd]? =_:=bF;refine Jf (S:=fun T9=>Blk T9 gy 33 #[.string (bs F.data),.slice P5 F.cache.length e5,.int .i64 F.fuse,.bool F.off,.slice Q5 F.bad.length f5,.int .i64 g9,.int .i64 h9,.int .u64 s9,.int .i64 o9,.slice R5 m9.length g5,.bool b9]/\Blk T9 w1.heap.size 36 #[.int .i64 ed]) (late:=fun _=>false) (by kernel_rfl) ?_;generalize T.drew=U0 at s0 r0 aO aK d0 m0 bD ⊢;simp only[Nat.reduceAdd,Yn];refine Yu 0 (some 67) (.agg #[.string (bs F.data),.slice P5 F.cache.length e5,.int .i64 F.fuse,.bool F.off,.slice Q5 F.bad.length f5,.int .i64 g9,.int .i64 h9,.int .u64 s9,.int .i64 o9,.slice R5 m9.length g5,.bool b9]) rfl (by kernel_rfl) (fun _ _ _ h=>h) (fun T9 hT=>by have h:=aL T9 hT;go_simp) s0 ?_;simp only[Yf];refine Yu 1 (some 68) (.int .i64 ed) rfl (by kernel_rfl) (fun _ _ _ h=>h) (fun T9 hT=>by have h:=aL T9 hT;go_simp) s0 ?_;simp only[Yf];refine Ak (i:=2) (by kernel_rfl) rfl rfl (fun K' hK9=>?_);have Yy:=ap11 (BN r0) F P5 e5 Q5 f5 g9 h9 s9 o9 R5 m9.length g5 b9;refine Yq Yy (by have H:=Yk11 r0 Yy;go_simp) ?_;show K' (Act.put _ none _) _;have r9:=Yy;have x9:=ap11 (A4 s0.1 (g:=w.heap.size+1) (by omega)) F P5 e5 Q5 f5 g9 h9 s9 o9 R5 m9.length g5 b9;have e9:=ap11 (A4 s0.2 (g:=w.heap.size+1) (by omega)) F P5 e5 Q5 f5 g9 h9 s9 o9 R5 m9.length g5 b9;have ai:=ap11 (A4 aO (g:=w.heap.size+1) (by omega)) F P5 e5 Q5 f5 g9 h9 s9 o9 R5 m9.length g5 b9;have B9:=Ym11 aK Yy (by omega);have d9:=ap11 (d0.off11 (g:=w.heap.size+1) aD.1) F P5 e5 Q5 f5 g9 h9 s9 o9 R5 m9.length g5 b9;have bR:=ap11 (m0.off11 (g:=w.heap.size+1) aD.2) F P5 e5 Q5 f5 g9 h9 s9 o9 R5 m9.length g5 b9;have bE:((((((((((((U0.setCell ⟨w.heap.size+1,0,none⟩ (.string (bs F.data))).setCell ⟨w.heap.size+1,1,none⟩ (.slice P5 F.cache.length e5)).setCell ⟨w.heap.size+1,2,none⟩ (.int .i64 F.fuse)).setCell ⟨w.heap.size+1,3,none⟩ (.bool F.off)).setCell ⟨w.heap.size+1,4,none⟩ (.slice Q5 F.bad.length f5)).setCell ⟨w.heap.size+1,5,none⟩ (.int .i64 g9)).setCell ⟨w.heap.size+1,6,none⟩ (.int .i64 h9)).setCell ⟨w.heap.size+1,7,none⟩ (.int .u64 s9)).setCell ⟨w.heap.size+1,8,none⟩ (.int .i64 o9)).setCell ⟨w.heap.size+1,9,none⟩ (.slice R5 m9.length g5)).setCell ⟨w.heap.size+1,10,none⟩ (.bool b9))).heap[Dd]? =_:=ap11 (Bl (P:=fun T9=>T9.heap[Dd]? =some (.deferred (some []))) (fun T9 o v h=>(Below.heap_setCell T9 ⟨w.heap.size+1,o,none⟩ v Dd (by show¬Dd=w.heap.size+1;omega)).trans h) bD) F P5 e5 Q5 f5 g9 h9 s9 o9 R5 m9.length g5 b9;refine hK9 _ _ (fun _ _=>⟨x9,e9⟩) ?_
    try simp only[Yf]
    generalize (((((((((((U0.setCell ⟨w.heap.size+1,0,none⟩ (.string (bs F.data))).setCell ⟨w.heap.size+1,1,none⟩ (.slice P5 F.cache.length e5)).setCell ⟨w.heap.size+1,2,none⟩ (.int .i64 F.fuse)).setCell ⟨w.heap.size+1,3,none⟩ (.bool F.off)).setCell ⟨w.heap.size+1,4,none⟩ (.slice Q5 F.bad.length f5)).setCell ⟨w.heap.size+1,5,none⟩ (.int .i64 g9)).setCell ⟨w.heap.size+1,6,none⟩ (.int .i64 h9)).setCell ⟨w.heap.size+1,7,none⟩ (.int .u64 s9)).setCell ⟨w.heap.size+1,8,none⟩ (.int .i64 o9)).setCell ⟨w.heap.size+1,9,none⟩ (.slice R5 m9.length g5)).setCell ⟨w.heap.size+1,10,none⟩ (.bool b9))=U9 at r9 x9 e9 ai B9 d9 bR bE ⊢;have bB:=blk1 ai;have bA:=ai.fz;refine Ak (i:=3) (by kernel_rfl) rfl rfl (fun K' hK9=>?_);refine Ay (w':=U9.setCell ⟨w.heap.size+1+1,0,none⟩ (.int .i64 ed)) (by go_simp) ?_;show K' (Act.put _ none _) _;have x8:=x9.other (a:=⟨w.heap.size+1+1,0,none⟩) (by show¬gy=w.heap.size+1+1;omega) (.int .i64 ed);have e8:=e9.other (a:=⟨w.heap.size+1+1,0,none⟩) (by show¬w1.heap.size=w.heap.size+1+1;omega) (.int .i64 ed);have r8:=r9.other (a:=⟨w.heap.size+1+1,0,none⟩) (by show¬w.heap.size+1=w.heap.size+1+1;omega) (.int .i64 ed);have aH:=ai.set 0 (.int .i64 ed);simp only[List.setIfInBounds_toArray,List.set_cons_zero]at aH;have B8:=B9.setCell (p:=⟨w.heap.size+1+1,0,none⟩) (by show w.heap.size<=w.heap.size+1+1;omega) (.int .i64 ed);have d8:=d9.o1 B8 aC.1;have m8:=bR.o1 B8 aC.2;have au:=(Below.heap_setCell U9 ⟨w.heap.size+1+1,0,none⟩ (.int .i64 ed) Dd (by show¬Dd=w.heap.size+1+1;omega)).trans bE;refine hK9 _ _ (fun _ _=>⟨x8,e8⟩) ?_
    try simp only[Yf]
    refine AD (by kernel_rfl) ?_ _;generalize U9.setCell ⟨w.heap.size+1+1,0,none⟩ (.int .i64 ed)=U8 at x8 e8 r8 aH B8 d8 m8 au ⊢;go_wp2_with fail
    have q0:=fun o=>Aa (r8.at_ (World.putObj_heap_other (r:=Dd) (o:=o) (by omega)))
    have q1:=fun o=>blk1 (aH.at_ (World.putObj_heap_other (r:=Dd) (o:=o) (by omega)))
    refine⟨by simp,.inl ⟨_,_,rfl,run_takeDeferred au,?_⟩⟩;refine⟨.tuple #[imval ⟨F,g9,h9,⟨s9,o9⟩,m9,b9⟩ ⟨P5,e5⟩ ⟨Q5,f5⟩ ⟨R5,g5⟩,.int .i64 ed],by simp[results,Tryz.results16,go_sem,q0,q1],?_⟩;rw[Hr.out];have B7:=B8.trans (belowK_b (w:=w) (Nat.le_refl _) _ Dd _ (.deferred none) (by omega) au rfl rfl);have d7:=d8.kept (grownBy_putObj' _ Dd (.deferred none)) (fun r e=>by cases e;exact⟨_,au,rfl⟩);have m7:=m8.kept (grownBy_putObj' _ Dd (.deferred none)) (fun r e=>by cases e;exact⟨_,au,rfl⟩);exact⟨⟨⟨P5,e5⟩,⟨Q5,f5⟩,⟨R5,g5⟩,rfl,⟨d7,m7⟩,O5.out⟩,B7⟩
  subst he;have Hr:=hid (HC.out.trans (if_pos rfl));clear HC;have a5:=(a0).setCell (p:=⟨w4.heap.size,9,none⟩) (by show _<=(w4.heap.size:Nat);omega) (.slice A5 ms.length c5);have bU:=bS.o1 a5 (by assumption);have bZ:=Yx b0 a5 (by omega);have b4:=Yx an a5 (by omega);have b3:=Yx a8 a5 (by omega);have bd:=ay.o1 a5 (by assumption);have cd:=(cc).set 9 (.slice A5 ms.length c5);simp only[Ye]at cd;have dE:=(Below.heap_setCell _ ⟨w4.heap.size,9,none⟩ (.slice A5 ms.length c5) Dd (by show¬Dd=w4.heap.size;omega)).trans da;go_upto_region 25 with fail
  have yT:=cd;have bv:=b3;have rT:=bZ;have bC:=b4;have BT:=a5;have dT:=bd;have mT:=bU;have bF:=dE;generalize ((w4.alloc (.cells #[.string (bs F.data),.slice P5 F.cache.length e5,.int .i64 F.fuse,.bool F.off,.slice Q5 F.bad.length f5,.int .i64 g9,.int .i64 h9,.int .u64 s9,.int .i64 o9,.slice R5 m9.length g5,.bool b9] 33)).setCell ⟨w1.heap.size,0,none⟩ (.int .i64 0)).setCell ⟨w4.heap.size,9,none⟩ (.slice A5 ms.length c5)=T at yT bv rT bC BT dT mT bF ⊢;obtain⟨gy,hgy⟩:∃gy,w4.heap.size=gy:=⟨_,rfl⟩;rw[hgy]at yT ⊢;have cA:w1.heap.size<gy:=by omega
  have aD:=And.intro di.1 dH;have aC:=And.intro dh.1 dG;simp only[Im.withMaps]at Hr;have aL:=fun(T9:World)(hT:Blk T9 gy 33 #[.string (bs F.data),.slice P5 F.cache.length e5,.int .i64 F.fuse,.bool F.off,.slice Q5 F.bad.length f5,.int .i64 g9,.int .i64 h9,.int .u64 s9,.int .i64 o9,.slice A5 ms.length c5,.bool b9]/\Blk T9 w1.heap.size 36 #[.int .i64 0])=>And.intro (Aa hT.1) (blk1 hT.2)
  have s0:Blk T.drew gy _ _/\Blk T.drew w1.heap.size _ _:=⟨yT,bv⟩;have r0:Blk T.drew (w.heap.size+1) _ _:=rT;have aO:Blk T.drew (w.heap.size+1+1) _ _:=bC;have aK:=BT.trans ((Y0 T).drew.mono (by have:=BT.size;omega));have d0:=dT.below (Y0 T).drew;have m0:=mT.below (Y0 T).drew;have bD:T.drew.heap[Dd]? =_:=bF;refine Jf (S:=fun T9=>Blk T9 gy 33 #[.string (bs F.data),.slice P5 F.cache.length e5,.int .i64 F.fuse,.bool F.off,.slice Q5 F.bad.length f5,.int .i64 g9,.int .i64 h9,.int .u64 s9,.int .i64 o9,.slice A5 ms.length c5,.bool b9]/\Blk T9 w1.heap.size 36 #[.int .i64 0]) (late:=fun _=>false) (by kernel_rfl) ?_;generalize T.drew=U0 at s0 r0 aO aK d0 m0 bD ⊢;simp only[Nat.reduceAdd,Yn];refine Yu 0 (some 67) (.agg #[.string (bs F.data),.slice P5 F.cache.length e5,.int .i64 F.fuse,.bool F.off,.slice Q5 F.bad.length f5,.int .i64 g9,.int .i64 h9,.int .u64 s9,.int .i64 o9,.slice A5 ms.length c5,.bool b9]) rfl (by kernel_rfl) (fun _ _ _ h=>h) (fun T9 hT=>by have h:=aL T9 hT;go_simp) s0 ?_;simp only[Yf];refine Yu 1 (some 68) (.int .i64 0) rfl (by kernel_rfl) (fun _ _ _ h=>h) (fun T9 hT=>by have h:=aL T9 hT;go_simp) s0 ?_;simp only[Yf];refine Ak (i:=2) (by kernel_rfl) rfl rfl (fun K' hK9=>?_);have Yy:=ap11 (BN r0) F P5 e5 Q5 f5 g9 h9 s9 o9 A5 ms.length c5 b9;refine Yq Yy (by have H:=Yk11 r0 Yy;go_simp) ?_;show K' (Act.put _ none _) _;have r9:=Yy;have x9:=ap11 (A4 s0.1 (g:=w.heap.size+1) (by omega)) F P5 e5 Q5 f5 g9 h9 s9 o9 A5 ms.length c5 b9;have e9:=ap11 (A4 s0.2 (g:=w.heap.size+1) (by omega)) F P5 e5 Q5 f5 g9 h9 s9 o9 A5 ms.length c5 b9;have ai:=ap11 (A4 aO (g:=w.heap.size+1) (by omega)) F P5 e5 Q5 f5 g9 h9 s9 o9 A5 ms.length c5 b9;have B9:=Ym11 aK Yy (by omega);have d9:=ap11 (d0.off11 (g:=w.heap.size+1) aD.1) F P5 e5 Q5 f5 g9 h9 s9 o9 A5 ms.length c5 b9;have bR:=ap11 (m0.off11 (g:=w.heap.size+1) aD.2) F P5 e5 Q5 f5 g9 h9 s9 o9 A5 ms.length c5 b9;have bE:((((((((((((U0.setCell ⟨w.heap.size+1,0,none⟩ (.string (bs F.data))).setCell ⟨w.heap.size+1,1,none⟩ (.slice P5 F.cache.length e5)).setCell ⟨w.heap.size+1,2,none⟩ (.int .i64 F.fuse)).setCell ⟨w.heap.size+1,3,none⟩ (.bool F.off)).setCell ⟨w.heap.size+1,4,none⟩ (.slice Q5 F.bad.length f5)).setCell ⟨w.heap.size+1,5,none⟩ (.int .i64 g9)).setCell ⟨w.heap.size+1,6,none⟩ (.int .i64 h9)).setCell ⟨w.heap.size+1,7,none⟩ (.int .u64 s9)).setCell ⟨w.heap.size+1,8,none⟩ (.int .i64 o9)).setCell ⟨w.heap.size+1,9,none⟩ (.slice A5 ms.length c5)).setCell ⟨w.heap.size+1,10,none⟩ (.bool b9))).heap[Dd]? =_:=ap11 (Bl (P:=fun T9=>T9.heap[Dd]? =some (.deferred (some []))) (fun T9 o v h=>(Below.heap_setCell T9 ⟨w.heap.size+1,o,none⟩ v Dd (by show¬Dd=w.heap.size+1;omega)).trans h) bD) F P5 e5 Q5 f5 g9 h9 s9 o9 A5 ms.length c5 b9;refine hK9 _ _ (fun _ _=>⟨x9,e9⟩) ?_
  try simp only[Yf]
  generalize (((((((((((U0.setCell ⟨w.heap.size+1,0,none⟩ (.string (bs F.data))).setCell ⟨w.heap.size+1,1,none⟩ (.slice P5 F.cache.length e5)).setCell ⟨w.heap.size+1,2,none⟩ (.int .i64 F.fuse)).setCell ⟨w.heap.size+1,3,none⟩ (.bool F.off)).setCell ⟨w.heap.size+1,4,none⟩ (.slice Q5 F.bad.length f5)).setCell ⟨w.heap.size+1,5,none⟩ (.int .i64 g9)).setCell ⟨w.heap.size+1,6,none⟩ (.int .i64 h9)).setCell ⟨w.heap.size+1,7,none⟩ (.int .u64 s9)).setCell ⟨w.heap.size+1,8,none⟩ (.int .i64 o9)).setCell ⟨w.heap.size+1,9,none⟩ (.slice A5 ms.length c5)).setCell ⟨w.heap.size+1,10,none⟩ (.bool b9))=U9 at r9 x9 e9 ai B9 d9 bR bE ⊢;have bB:=blk1 ai;have bA:=ai.fz;refine Ak (i:=3) (by kernel_rfl) rfl rfl (fun K' hK9=>?_);refine Ay (w':=U9.setCell ⟨w.heap.size+1+1,0,none⟩ (.int .i64 0)) (by go_simp) ?_;show K' (Act.put _ none _) _;have x8:=x9.other (a:=⟨w.heap.size+1+1,0,none⟩) (by show¬gy=w.heap.size+1+1;omega) (.int .i64 0);have e8:=e9.other (a:=⟨w.heap.size+1+1,0,none⟩) (by show¬w1.heap.size=w.heap.size+1+1;omega) (.int .i64 0);have r8:=r9.other (a:=⟨w.heap.size+1+1,0,none⟩) (by show¬w.heap.size+1=w.heap.size+1+1;omega) (.int .i64 0);have aH:=ai.set 0 (.int .i64 0);simp only[List.setIfInBounds_toArray,List.set_cons_zero]at aH;have B8:=B9.setCell (p:=⟨w.heap.size+1+1,0,none⟩) (by show w.heap.size<=w.heap.size+1+1;omega) (.int .i64 0);have d8:=d9.o1 B8 aC.1;have m8:=bR.o1 B8 aC.2;have au:=(Below.heap_setCell U9 ⟨w.heap.size+1+1,0,none⟩ (.int .i64 0) Dd (by show¬Dd=w.heap.size+1+1;omega)).trans bE;refine hK9 _ _ (fun _ _=>⟨x8,e8⟩) ?_
  try simp only[Yf]
  refine AD (by kernel_rfl) ?_ _;generalize U9.setCell ⟨w.heap.size+1+1,0,none⟩ (.int .i64 0)=U8 at x8 e8 r8 aH B8 d8 m8 au ⊢;go_wp2_with fail
  have q0:=fun o=>Aa (r8.at_ (World.putObj_heap_other (r:=Dd) (o:=o) (by omega)))
  have q1:=fun o=>blk1 (aH.at_ (World.putObj_heap_other (r:=Dd) (o:=o) (by omega)))
  refine⟨by simp,.inl ⟨_,_,rfl,run_takeDeferred au,?_⟩⟩;refine⟨.tuple #[imval ⟨F,g9,h9,⟨s9,o9⟩,ms,b9⟩ ⟨P5,e5⟩ ⟨Q5,f5⟩ ⟨A5,c5⟩,.int .i64 0],by simp[results,Tryz.results16,go_sem,q0,q1],?_⟩;rw[Hr.out];have B7:=B8.trans (belowK_b (w:=w) (Nat.le_refl _) _ Dd _ (.deferred none) (by omega) au rfl rfl);have d7:=d8.kept (grownBy_putObj' _ Dd (.deferred none)) (fun r e=>by cases e;exact⟨_,au,rfl⟩);have m7:=m8.kept (grownBy_putObj' _ Dd (.deferred none)) (fun r e=>by cases e;exact⟨_,au,rfl⟩);exact⟨⟨⟨P5,e5⟩,⟨Q5,f5⟩,⟨A5,c5⟩,rfl,⟨d7,m7⟩,fun g' h1 h2=>⟨(O5.out g' h1 h2).1,dF.out g' (by omega)⟩⟩,B7⟩
 case stop=>
  rintro Dd c pre U hDd ⟨r9,hr9⟩ ⟨rfl,h1,hR,hE,hb⟩ hK;have Hl:Im.loadAll l=ldN (thereL l) pre:=(GP l).trans (Ml (thereL l) pre hr9 h1.out);have h2:=h1.out;rw[<-Hl]at h2 hE;have Hr:=hid (HC.out.trans (if_pos h2));clear HC h1 h2 hr9 Hl;generalize (Im.loadAll l).2=ev at*;refine wpIn_wide.2 ?_;go_wp2_with fail
  have q0:=fun o=>Aa (hR.at_ (World.putObj_heap_other (r:=Dd) (o:=o) (by omega)))
  have q1:=fun o=>blk1 (hE.at_ (World.putObj_heap_other (r:=Dd) (o:=o) (by omega)))
  refine⟨by simp,.inl ⟨_,_,rfl,run_takeDeferred hK,?_⟩⟩;refine⟨.tuple #[imval ⟨D,g,h,⟨seq,pos⟩,maps,false⟩ ⟨A1,a1⟩ ⟨A2,a2⟩ ⟨A3,a3⟩,.int .i64 ev],by simp[results,Tryz.results16,go_sem,q0,q1],?_⟩;rw[Hr.out];have B7:=hb.trans (belowK_b (w:=w) (Nat.le_refl _) _ Dd _ (.deferred none) (by omega) hK rfl rfl);obtain⟨d7,m7⟩:=HD.out _ B7;exact⟨⟨⟨A1,a1⟩,⟨A2,a2⟩,⟨A3,a3⟩,rfl,⟨d7,m7⟩,fun _ _ h=>h⟩,B7⟩
end
section
open Go.RowKit Go.Shelf
attribute [local go_sem] Ad Af Ag Ab Ai Ah
theorem D7 (x:Im)(p q r:Pl)(w:World)(hI:IsIm w x p q r)(ok:x.Ok):
 CX 16 #[imval x p q r] w (RetIm w.heap.size x p q r x.bmLoad):=by
 by_cases hin:x.br=false/\(Pn.maps x.d Pn.none).2=0
 · exact JG x p q r w hI ok hin.1 hin.2
 have ap:=fun(W:World)(hb:Below w.heap.size w W)=>CN x.d Pn.none p q ⟨none,0⟩ ⟨none,0⟩ W (hI.d.below hb) (AI _) ok.d Pn.none_fit
 have ar:=hid (fun g (hg:w.heap.size<=g)=>hI.apart hg);have HC:=hid (show x.br=true->x.bmLoad=(x,24)from fun h=>if_pos h);have an:=hid (show x.br=false->(Pn.maps x.d Pn.none).2≠0->x.bmLoad=(x,(Pn.maps x.d Pn.none).2)from fun h h2=>(if_neg (by rw[h];simp)).trans (if_pos h2));generalize Pn.maps x.d Pn.none=MM at*;obtain⟨l,em⟩:=MM;simp only at ap hin an;obtain⟨hd,hm⟩:=hI;clear ok;obtain⟨D,g,h,⟨seq,pos⟩,maps,br⟩:=x;simp only at hd hm ap ar HC an hin;obtain⟨A1,a1⟩:=p;obtain⟨A2,a2⟩:=q;obtain⟨A3,a3⟩:=r;have aw:=ar.out (w.heap.size+1) (by omega);have av:=ar.out (w.heap.size+1+1) (by omega);cases br with
 |true=>
  have Hr:=hid (HC.out rfl);clear HC an ap hin aw av;have hB:=Y0 w;have x:=Am (Blk.new w 33) D A1 a1 A2 a2 g h seq pos A3 maps.length a3 true;have a6:=Ya hB x;have ad:=hd.below (Yb a6);have ag:=hm.below (Yb a6);have r:=Am (Yd a6 33) D A1 a1 A2 a2 g h seq pos A3 maps.length a3 true;simp only[Ys]at r;have a5:=Ya a6 r;have ae:=ad.below (Yb a5);have ah:=ag.below (Yb a5);have aq:=Yc x a5;have er:=Yd a5 36 #[.int .i64 24];simp only[Ys]at er;have ek:=blk1 er;have a0:=Ya a5 er;have af:=ae.below (Yb a0);have a7:=ah.below (Yb a0);obtain⟨al,ai⟩:=Z11 (Yc aq a0);obtain⟨aj,ac⟩:=Z11 (Yc r a0);have yy:=ac;have ee:=ek;have bw:=a0;have dw:=af;have mw:=a7;go_enter Tryz.func16,Tryz.ntmps16;go_wp2_with fail
  rw[Hr.out];exact retIm dw mw (fun _ _ h=>h) bw (by simp[results,Tryz.results16,go_sem,yy,ee]) rfl
 |false=>
  have he:em≠0:=fun e=>hin ⟨rfl,e⟩
  have n1:(em !=0)=true:=bne_iff_ne.2 he;have Hr:=hid (an.out rfl he);clear HC an hin he;have hB:=Y0 w;have x:=Am (Blk.new w 33) D A1 a1 A2 a2 g h seq pos A3 maps.length a3 false;have a6:=Ya hB x;have ad:=hd.below (Yb a6);have ag:=hm.below (Yb a6);have r:=apz (Yd a6 33);simp only[Ys]at r;have a5:=Ya a6 r;have ae:=ad.below (Yb a5);have ah:=ag.below (Yb a5);have aq:=Yc x a5;have er:=Yd a5 36 #[.int .i64 0];simp only[Ys]at er;have ek:=blk1 er;have a0:=Ya a5 er;have af:=ae.below (Yb a0);have a7:=ah.below (Yb a0);obtain⟨al,ai⟩:=Z11 (Yc aq a0);obtain⟨aj,ac⟩:=Z11 (Yc r a0);go_enter Tryz.func16,Tryz.ntmps16;go_wp2_with fail
  refine((ap _ a0)).mono ?_;rintro e w1 ⟨⟨v,rfl,hv⟩,hb1⟩;replace hB:=bt a0 hb1;replace hd:=af.below hb1;replace hm:=a7.below hb1;replace x:=al.bl hb1;replace r:=aj.bl hb1;replace er:=er.bl hb1;replace ek:=blk1 er;clear a6 ad ag a5 ae ah aq a0 af a7 ai al ac aj;have aD:=er.lt;clear hv;obtain⟨eb,aA⟩:=Z1 (Blk.new w1 36 #[.int .i64 em]);have a4:=Ya hB eb;have aa:=hd.below (Yb a4);have ab:=hm.below (Yb a4);have am:=Yc x a4;have ak:=Yc r a4;obtain⟨a9,a8⟩:=Z1 (Yc er a4);go_wp2_with fail
  generalize (w1.alloc (.cells #[.int .i64 em] 36))=T at a4 aa ab am ak a9 a8 eb aA ⊢;clear hB hd hm x r er ek;have hB:=a4;have hd:=aa;have hm:=ab;have x:=am;have r:=ak;have er:=a9;have ek:=a8;clear a4 aa ab am ak a9 a8;have ay:=fun(T9:World)(hT:Blk T9 w.heap.size 33 #[.string (bs D.data),.slice A1 D.cache.length a1,.int .i64 D.fuse,.bool D.off,.slice A2 D.bad.length a2,.int .i64 g,.int .i64 h,.int .u64 seq,.int .i64 pos,.slice A3 maps.length a3,.bool false]/\Blk T9 w1.heap.size 36 #[.int .i64 em])=>And.intro (Aa hT.1) (blk1 hT.2)
  have s0:Blk T.drew w.heap.size _ _/\Blk T.drew w1.heap.size _ _:=⟨x,eb⟩;have r0:Blk T.drew (w.heap.size+1) _ _:=r;have az:Blk T.drew (w.heap.size+1+1) _ _:=er;have ax:=hB.trans ((Y0 T).drew.mono (by have:=hB.size;omega));have d0:=hd.below (Y0 T).drew;have m0:=hm.below (Y0 T).drew;refine AV (S:=fun T9=>Blk T9 w.heap.size 33 #[.string (bs D.data),.slice A1 D.cache.length a1,.int .i64 D.fuse,.bool D.off,.slice A2 D.bad.length a2,.int .i64 g,.int .i64 h,.int .u64 seq,.int .i64 pos,.slice A3 maps.length a3,.bool false]/\Blk T9 w1.heap.size 36 #[.int .i64 em]) (late:=fun _=>false) (by kernel_rfl) ?_;generalize T.drew=U0 at s0 r0 az ax d0 m0 ⊢;simp only[Nat.reduceAdd,Yn];refine Yu 0 (some 24) (.agg #[.string (bs D.data),.slice A1 D.cache.length a1,.int .i64 D.fuse,.bool D.off,.slice A2 D.bad.length a2,.int .i64 g,.int .i64 h,.int .u64 seq,.int .i64 pos,.slice A3 maps.length a3,.bool false]) rfl (by kernel_rfl) (fun _ _ _ h=>h) (fun T9 hT=>by have h:=ay T9 hT;go_simp) s0 ?_;simp only[Yf];refine Yu 1 (some 25) (.int .i64 em) rfl (by kernel_rfl) (fun _ _ _ h=>h) (fun T9 hT=>by have h:=ay T9 hT;go_simp) s0 ?_;simp only[Yf];refine Ak (i:=2) (by kernel_rfl) rfl rfl (fun K' hK9=>?_);have Yy:=ap11 (BN r0) D A1 a1 A2 a2 g h seq pos A3 maps.length a3 false;refine Yq Yy (by have H:=Yk11 r0 Yy;go_simp) ?_;show K' (Act.put _ none _) _;have r9:=Yy;have x9:=ap11 (A4 s0.1 (g:=w.heap.size+1) (by omega)) D A1 a1 A2 a2 g h seq pos A3 maps.length a3 false;have e9:=ap11 (A4 s0.2 (g:=w.heap.size+1) (by omega)) D A1 a1 A2 a2 g h seq pos A3 maps.length a3 false;have ao:=ap11 (A4 az (g:=w.heap.size+1) (by omega)) D A1 a1 A2 a2 g h seq pos A3 maps.length a3 false;have B9:=Ym11 ax Yy (by omega);have d9:=ap11 (d0.off11 (g:=w.heap.size+1) aw.1) D A1 a1 A2 a2 g h seq pos A3 maps.length a3 false;have m9:=ap11 (m0.off11 (g:=w.heap.size+1) aw.2) D A1 a1 A2 a2 g h seq pos A3 maps.length a3 false;refine hK9 _ _ (fun _ _=>⟨x9,e9⟩) ?_
  try simp only[Yf]
  generalize (((((((((((U0.setCell ⟨w.heap.size+1,0,none⟩ (.string (bs D.data))).setCell ⟨w.heap.size+1,1,none⟩ (.slice A1 D.cache.length a1)).setCell ⟨w.heap.size+1,2,none⟩ (.int .i64 D.fuse)).setCell ⟨w.heap.size+1,3,none⟩ (.bool D.off)).setCell ⟨w.heap.size+1,4,none⟩ (.slice A2 D.bad.length a2)).setCell ⟨w.heap.size+1,5,none⟩ (.int .i64 g)).setCell ⟨w.heap.size+1,6,none⟩ (.int .i64 h)).setCell ⟨w.heap.size+1,7,none⟩ (.int .u64 seq)).setCell ⟨w.heap.size+1,8,none⟩ (.int .i64 pos)).setCell ⟨w.heap.size+1,9,none⟩ (.slice A3 maps.length a3)).setCell ⟨w.heap.size+1,10,none⟩ (.bool false))=U9 at r9 x9 e9 ao B9 d9 m9 ⊢;have aC:=blk1 ao;have aB:=ao.fz;refine Ak (i:=3) (by kernel_rfl) rfl rfl (fun K' hK9=>?_);refine Ay (w':=U9.setCell ⟨w.heap.size+1+1,0,none⟩ (.int .i64 em)) (by go_simp) ?_;show K' (Act.put _ none _) _;have x8:=x9.other (a:=⟨w.heap.size+1+1,0,none⟩) (by show¬w.heap.size=w.heap.size+1+1;omega) (.int .i64 em);have e8:=e9.other (a:=⟨w.heap.size+1+1,0,none⟩) (by show¬w1.heap.size=w.heap.size+1+1;omega) (.int .i64 em);have r8:=r9.other (a:=⟨w.heap.size+1+1,0,none⟩) (by show¬w.heap.size+1=w.heap.size+1+1;omega) (.int .i64 em);have au:=ao.set 0 (.int .i64 em);simp only[List.setIfInBounds_toArray,List.set_cons_zero]at au;have B8:=B9.setCell (p:=⟨w.heap.size+1+1,0,none⟩) (by show w.heap.size<=w.heap.size+1+1;omega) (.int .i64 em);have d8:=d9.o1 B8 av.1;have m8:=m9.o1 B8 av.2;refine hK9 _ _ (fun _ _=>⟨x8,e8⟩) ?_
  try simp only[Yf]
  refine AD (by kernel_rfl) ?_ _;generalize U9.setCell ⟨w.heap.size+1+1,0,none⟩ (.int .i64 em)=U8 at x8 e8 r8 au B8 d8 m8 ⊢;go_wp2_with fail
  have q0:=Aa r8;have q1:=blk1 au;rw[Hr.out];exact retIm d8 m8 (fun _ _ h=>h) B8 (by simp[results,Tryz.results16,go_sem,q0,q1]) rfl
end
section
namespace Im
def okC (x:Im):Bool:=x.d.fit&&(decide (0<x.g)&&(decide (x.g<=64)&&(decide (8<=x.h)&&(decide (x.h<=256)&&(decide (x.j.seq<18446744073709551615)&&(decide (-9223372036854775808<=x.j.pos)&&(decide (x.j.pos<=9223372036854775807)&&(decide (x.maps.length<=2)&&x.maps.all fun m=>decide (m.bits.length=64)))))))))
theorem okC_ok {x:Im}(h:x.okC=true):x.Ok:=by
 simp only[okC,Bool.and_eq_true,decide_eq_true_eq,List.all_eq_true]at h;obtain⟨h1,h2,h3,h4,h5,h6,h7,h8,h9,h10⟩:=h;exact⟨h1,⟨h2,h3⟩,⟨h4,h5⟩,h6,⟨h7,h8⟩,h9,h10⟩
end Im
theorem MI:bm1C.okC=true/\bm2C.okC=true/\bm3C.okC=true/\bm4C.okC=true:=by decide+kernel
theorem CI {X:Im×Int}{y:Im}{e:Int}(h:y=X.1)(h2:X.2=e):X=(y,e):=by subst h h2;rfl
theorem ev17:smI.bmAdd [109]=(bm1C,0)/\bm1C.write 3 0 [120]=(bm2C,0)/\bm2C.bmSave=(bm3C,0)/\bm3C.bmLoad=(bm4C,0)/\bm4C.bmLoad=(bm5C,0):=by
 obtain⟨h1,h2,h3,h4,h5,_⟩:=Db;rw[Im.addC_eq,Im.writeC_eq,Im.saveC_eq,Im.loadC_eq,Im.loadC_eq];exact⟨CI bm1C.eq_def h1,CI bm2C.eq_def h2,CI bm3C.eq_def h3,CI bm4C.eq_def h4,CI bm5C.eq_def h5⟩
end
section
open Go.RowKit Go.Shelf Go.WideShapes Go.ChangeShapes Go.Deep Go.Joins
section
variable {H:Type} {enc:TypeId×Value->H} {P:Program} {w:World} {base:Nat} {spare:Nat->Bool} {held:Bool}
theorem MK {t e:TypeId}{f0 f1 f2:Field}{l:List Value}{x:DataW H×List MemPlace}{fuel:Nat}
 (hs:P.underlying t=some (.struct #[f0,f1,f2])) (ho0:f0.offset=0/\P.cellsOf f0.type=1) (ho1:f1.offset=1/\P.cellsOf f1.type=1) (ho2:f2.offset=2/\P.cellsOf f2.type=64) (hC:P.cellsOf t=66)
 (u0:P.underlying f0.type=some .string) (u1:P.underlying f1.type=some .bool) (u2:P.underlying f2.type=some (.array 64 e)) (ue:P.underlying e=some .bool) (ce:P.cellsOf e=1)
 (hsz:l.length=66) (hf:DataW.trod enc P w base spare held fuel t l=some x):∃m:Dm,l=dmCells m/\m.name.length<=maxLen/\m.bits.length=64:=by
 match l,hsz with
 |x0::x1::r,hr=>
  have a1:r.length=64:=by simpa using hr
  clear hr;obtain⟨xs,n,_,hx,_,hlen,hg⟩:=DataW.trod_struct hs hf
  match xs,hlen with
  |[y0,y1,y2],_=>
   have t0:DataW.trod enc P w base spare held n f0.type [x0]=some y0:=by simpa[ho0.1,ho0.2]using hg 0 f0 rfl
   have t1:DataW.trod enc P w base spare held n f1.type [x1]=some y1:=by simpa[ho1.1,ho1.2]using hg 1 f1 rfl
   have t2:DataW.trod enc P w base spare held n f2.type r=some y2:=by
    have:=hg 2 f2 rfl;simp only[ho2.1,ho2.2]at this;rw[show((x0::x1::r).drop 2).take 64=r by rw[show(x0::x1::r).drop 2=r from rfl,List.take_of_length_le (by omega)]]at this;simpa using this
   obtain⟨s,hs0,_,hws⟩:=DataW.trod_string u0 t0;obtain⟨b,hb,_⟩:=DataW.trod_bool u1 t1;injection hs0 with hs0
   injection hb with hb
   subst hs0 hb;obtain⟨zs,m,_,_,_,hzl,hel⟩:=DataW.trod_array u2 t2;have a0:∀i,i<64->∃b:Bool,r[i]? =some (.bool b):=fun i hi=>by
    have:=hel i hi;rw[ce,Nat.mul_one]at this;obtain⟨z,hz⟩:∃z,zs[i]? =some z:=⟨_,List.getElem?_eq_getElem (by omega)⟩;rw[hz]at this;have e1:(r.drop i).take 1=[r[i]'(by omega)]:=by
     rw[List.drop_eq_getElem_cons (by omega)];rfl
    rw[e1]at this;obtain⟨b,hb,_⟩:=DataW.trod_bool ue this;injection hb with hb
    exact⟨b,by rw[List.getElem?_eq_getElem (by omega),hb]⟩
   obtain⟨q,rfl⟩:∃q:List Bool,r=q.map .bool:=by
    clear hel hx hg t2 hsz hf;have H:∀(n:Nat)(r:List Value),r.length=n->(∀i,i<n->∃b:Bool,r[i]? =some (.bool b))->∃q:List Bool,r=q.map .bool:=fun n=>by
     induction n with
     |zero=>intro r hr _;exact⟨[],by rw[List.length_eq_zero_iff.1 hr];rfl⟩
     |succ n ih=>
      intro r hr h
      match r,hr with
      |x::r,hr=>
       obtain⟨b,hb⟩:=h 0 (by omega);obtain⟨q,rfl⟩:=ih r (by simpa using hr) fun i hi=>h (i+1) (by omega)
       refine⟨b::q,?_⟩;have:x=.bool b:=by simpa using hb
       rw[this];rfl
    exact H 64 r a1 a0
   obtain⟨l,rfl⟩:=CW s;exact⟨⟨l,b,q⟩,rfl,by rw[Ab]at hws;exact hws,by simpa using a1⟩
theorem KP:∀(l:List Dm),(∀m∈l,m.bits.length=64)->∀(j:Nat)(u:Value),(dmRows l)[j]? =some u->∃i,∃hi:i<l.length,∃k,k<66/\j=i*66+k/\(dmCells l[i])[k]? =some u:=by
 intro l
 induction l with
 |nil=>intro _ j u h;simp[dmRows]at h
 |cons x l ih=>
  intro h64 j u h;have hx:=AA (h64 x (by simp));have h:(dmCells x++dmRows l)[j]? =some u:=h;by_cases hj:j<66
  · rw[List.getElem?_append_left (by omega)]at h;exact⟨0,by simp,j,hj,by omega,h⟩
  · rw[List.getElem?_append_right (by omega),hx]at h;obtain⟨i,hi,k,hk,e,hu⟩:=ih (fun m hm=>h64 m (by simp[hm])) (j-66) u h;exact⟨i+1,by simpa using hi,k,hk,by omega,by simpa using hu⟩
theorem ML {t e eb:TypeId}{f0 f1 f2:Field}{fuel:Nat}{v:Value}{x:DataW H×List MemPlace}(ht:P.underlying t=some (.slice e))
 (hs:P.underlying e=some (.struct #[f0,f1,f2])) (ho0:f0.offset=0/\P.cellsOf f0.type=1) (ho1:f1.offset=1/\P.cellsOf f1.type=1) (ho2:f2.offset=2/\P.cellsOf f2.type=64) (hC:P.cellsOf e=66)
 (u0:P.underlying f0.type=some .string) (u1:P.underlying f1.type=some .bool) (u2:P.underlying f2.type=some (.array 64 eb)) (ue:P.underlying eb=some .bool) (ce:P.cellsOf eb=1)
 (h:DataW.trod enc P w base spare held fuel t [v]=some x):∃(l:List Dm)(r:Pl),v=.slice r.a l.length r.c/\IsMs w l r:=by
 rcases open_slice ht h with ⟨h0,_⟩|⟨a,len,cap,m,n,D,Pl,hcs,_,hl,hm,hmm,_,hi⟩
 · injection h0 with h0
   exact⟨[],⟨none,0⟩,h0,Dh w⟩
 · injection hcs with hcs
   have a0:len<=m:=by rw[hmm];split<;>omega
   obtain⟨l,hl',hR⟩:=Dj (α:=Dm) (n:=len) (R:=fun i x=>(∀k u,(dmCells x)[k]? =some u->w.cell? (a.add (i*66+k))=some u)/\x.name.length<=maxLen/\x.bits.length=64) fun i h=>by
    obtain⟨cs',hc,ht'⟩:=hi i (by omega);rw[hC]at hc;obtain⟨_,hcl,hat⟩:=World.cells?_some hc;obtain⟨x,rfl,h1,h2⟩:=MK hs ho0 ho1 ho2 hC u0 u1 u2 ue ce hcl ht';refine⟨x,fun k u hu=>?_,h1,h2⟩;have hk:=(List.getElem?_eq_some_iff.1 hu).1;rw[<-Go.Deep.add_add,hat k (by omega),hu]
   subst hl';have h64:∀x∈l,x.bits.length=64:=fun x hx=>by obtain⟨j,hj,rfl⟩:=List.getElem_of_mem hx;exact(hR j hj).2.2
   refine⟨l,⟨some a,cap⟩,hcs,Ea fun j u hu=>?_,(by intro h;cases h),hl,hm,h64,fun x hx=>by obtain⟨j,hj,rfl⟩:=List.getElem_of_mem hx;exact(hR j hj).2.1⟩;obtain⟨i,hi,k,hk,rfl,hu'⟩:=KP l h64 j u hu;exact(hR i hi).1 k u hu'
structure IsIm0 (w:World) (D:Dk) (g h:Int) (j:Jr) (maps:List Dm) (p q r:Pl):Prop where
 d:IsDk0 w D p q
 m:IsMs w maps r
 data:D.data.length<=140737488355328
 bad:D.bad.length<=17592186044416
 g:okInt g
 h:okInt h
 seq:j.seq<18446744073709551616
 pos:okInt j.pos
theorem IsIm0.below {w w':World}{D:Dk}{g h:Int}{j:Jr}{maps:List Dm}{p q r:Pl}(hI:IsIm0 w D g h j maps p q r)(hb:Below w.heap.size w w'):IsIm0 w' D g h j maps p q r:={hI with d:=hI.d.below hb,m:=hI.m.below hb}
abbrev Cd (D:Dk)(g h:Int)(j:Jr)(maps:List Dm)(br:Bool)(p q r:Pl):Value:=
 .agg #[.string (bs D.data),.slice p.a D.cache.length p.c,.int .i64 D.fuse,.bool D.off,.slice q.a D.bad.length q.c,.int .i64 g,.int .i64 h,.int .u64 j.seq,.int .i64 j.pos,.slice r.a maps.length r.c,.bool br]
theorem MN {t tp ti te eb:TypeId}{F0 F1 F2 F3 F4 f0 f1 f2 f3 f4 g0 g1 a0 a1 j0 j1 m0 m1 m2:Field}{v:Value}{d:DataW H}{pp:List MemPlace}{r:Reach}{b0:Nat}
 (hs:P.underlying t=some (.struct #[F0,F1,F2,F3,F4])) (hC:P.cellsOf t=11)
 (o0:F0.offset=0/\P.cellsOf F0.type=5) (o1:F1.offset=5/\P.cellsOf F1.type=2) (o2:F2.offset=7/\P.cellsOf F2.type=2) (o3:F3.offset=9/\P.cellsOf F3.type=1) (o4:F4.offset=10/\P.cellsOf F4.type=1)
 (hd:P.underlying F0.type=some (.struct #[f0,f1,f2,f3,f4])) (hone:oneCellFields P #[f0,f1,f2,f3,f4]=true)
 (u0:P.underlying f0.type=some .string) (u1:P.underlying f1.type=some (.slice tp)) (u2:P.underlying f2.type=some (.int .i64)) (u3:P.underlying f3.type=some .bool) (u4:P.underlying f4.type=some (.slice ti))
 (k1:P.underlying tp=some (.struct #[g0,g1])) (hone':oneCellFields P #[g0,g1]=true) (hC':P.cellsOf tp=2) (g0i:P.underlying g0.type=some (.int .i64)) (g1s:P.underlying g1.type=some .string)
 (k4:P.underlying ti=some (.int .i64)) (hC4:P.cellsOf ti=1) (hB4:P.bytesOf ti=8)
 (hg:P.underlying F1.type=some (.struct #[a0,a1])) (hone2:oneCellFields P #[a0,a1]=true) (a0i:P.underlying a0.type=some (.int .i64)) (a1i:P.underlying a1.type=some (.int .i64))
 (hj:P.underlying F2.type=some (.struct #[j0,j1])) (hone3:oneCellFields P #[j0,j1]=true) (j0i:P.underlying j0.type=some (.int .u64)) (j1i:P.underlying j1.type=some (.int .i64))
 (hm:P.underlying F3.type=some (.slice te)) (he:P.underlying te=some (.struct #[m0,m1,m2])) (q0:m0.offset=0/\P.cellsOf m0.type=1) (q1:m1.offset=1/\P.cellsOf m1.type=1) (q2:m2.offset=2/\P.cellsOf m2.type=64) (hCe:P.cellsOf te=66)
 (v0:P.underlying m0.type=some .string) (v1:P.underlying m1.type=some .bool) (v2:P.underlying m2.type=some (.array 64 eb)) (vb:P.underlying eb=some .bool) (cb:P.cellsOf eb=1)
 (hb:P.underlying F4.type=some .bool)
 (hv:Value.okWide P w r b0 t v) (h:DataW.Trod enc P w base spare held t v d pp) (hw:(d.weights P t).all (·<=reachBytes)=true):
 ∃(D:Dk)(g h:Int)(j:Jr)(maps:List Dm)(br:Bool)(p q r:Pl),v=Cd D g h j maps br p q r/\IsIm0 w D g h j maps p q r:=by
 obtain⟨cs,rfl,hsz⟩:=okWide_struct hs hv;obtain⟨l⟩:=cs
 match l,hsz.trans hC with
 |[x0,x1,x2,x3,x4,x5,x6,x7,x8,x9,x10],_=>
  obtain⟨fuel,hf⟩:=h;obtain⟨xs,n,_,hx,_,hlen,hgt⟩:=DataW.trod_struct hs hf
  match xs,hlen with
  |[y0,y1,y2,y3,y4],_=>
   have t0:DataW.trod enc P w base spare held n F0.type [x0,x1,x2,x3,x4]=some y0:=by simpa[Value.cells,o0.1,o0.2]using hgt 0 F0 rfl
   have t1:DataW.trod enc P w base spare held n F1.type [x5,x6]=some y1:=by simpa[Value.cells,o1.1,o1.2]using hgt 1 F1 rfl
   have t2:DataW.trod enc P w base spare held n F2.type [x7,x8]=some y2:=by simpa[Value.cells,o2.1,o2.2]using hgt 2 F2 rfl
   have t3:DataW.trod enc P w base spare held n F3.type [x9]=some y3:=by simpa[Value.cells,o3.1,o3.2]using hgt 3 F3 rfl
   have t4:DataW.trod enc P w base spare held n F4.type [x10]=some y4:=by simpa[Value.cells,o4.1,o4.2]using hgt 4 F4 rfl
   have a6:d=.agg [y0.1,y1.1,y2.1,y3.1,y4.1]:=by injection hx
   rw[a6]at hw;simp only[DataW.weights,hs,List.map_cons,List.map_nil,DataW.weightsEach,List.all_append,Bool.and_eq_true]at hw;have a2:=hw.1;clear hw hx hgt hf;obtain⟨zs,m,_,hz,_,hlen',hg'⟩:=DataW.trod_struct hd t0;obtain⟨p0,e0⟩:=hone_of hone 0 f0 rfl;obtain⟨p1,e1⟩:=hone_of hone 1 f1 rfl;obtain⟨p2,e2⟩:=hone_of hone 2 f2 rfl;obtain⟨p3,e3⟩:=hone_of hone 3 f3 rfl;obtain⟨p4,e4⟩:=hone_of hone 4 f4 rfl
   match zs,hlen' with
   |[z0,z1,z2,z3,z4],_=>
    have s0:DataW.trod enc P w base spare held m f0.type [x0]=some z0:=by simpa[p0,e0]using hg' 0 f0 rfl
    have s1:DataW.trod enc P w base spare held m f1.type [x1]=some z1:=by simpa[p1,e1]using hg' 1 f1 rfl
    have s2:DataW.trod enc P w base spare held m f2.type [x2]=some z2:=by simpa[p2,e2]using hg' 2 f2 rfl
    have s3:DataW.trod enc P w base spare held m f3.type [x3]=some z3:=by simpa[p3,e3]using hg' 3 f3 rfl
    have s4:DataW.trod enc P w base spare held m f4.type [x4]=some z4:=by simpa[p4,e4]using hg' 4 f4 rfl
    have a7:y0.1=.agg [z0.1,z1.1,z2.1,z3.1,z4.1]:=by rw[hz];rfl
    rw[a7]at a2;simp only[DataW.weights,hd,List.map_cons,List.map_nil,DataW.weightsEach,List.all_append,Bool.and_eq_true]at a2;obtain⟨s,hs0,hzs,hws⟩:=DataW.trod_string u0 s0;obtain⟨A,c,l,rfl,hc,hn,hl,hml,hxl⟩:=MQ (fs:=#[g0,g1]) u1 k1 hone' hC' rfl g0i g1s s1;obtain⟨k,hk,_,hw2⟩:=DataW.trod_int u2 s2;obtain⟨b,hbo,_⟩:=DataW.trod_bool u3 s3;obtain⟨A',c',l',rfl,hc',hn',hl',hm',hx'⟩:=MO u4 k4 hC4 s4;injection hs0 with hs0
    injection hk with hk
    injection hbo with hbo
    subst hs0;subst hk;subst hbo
    have a3:=a2.1;rw[hzs]at a3;simp only[DataW.weights,List.all_cons,List.all_nil,Bool.and_true,decide_eq_true_eq]at a3;have a4:=Pz u4 s4 a2.2.2.2.2.1;rw[hB4]at a4;obtain⟨sl,rfl⟩:=CW s;rw[Ab]at hws;obtain⟨gs,mg,_,_,_,hleng,hgg⟩:=DataW.trod_struct hg t1;obtain⟨pg0,eg0⟩:=hone_of hone2 0 a0 rfl;obtain⟨pg1,eg1⟩:=hone_of hone2 1 a1 rfl;obtain⟨js,mj,_,_,_,hlenj,hgj⟩:=DataW.trod_struct hj t2;obtain⟨pj0,ej0⟩:=hone_of hone3 0 j0 rfl;obtain⟨pj1,ej1⟩:=hone_of hone3 1 j1 rfl
    match gs,hleng,js,hlenj with
    |[w0,w1],_,[i0,i1],_=>
     have r0:DataW.trod enc P w base spare held mg a0.type [x5]=some w0:=by simpa[pg0,eg0]using hgg 0 a0 rfl
     have r1:DataW.trod enc P w base spare held mg a1.type [x6]=some w1:=by simpa[pg1,eg1]using hgg 1 a1 rfl
     have r2:DataW.trod enc P w base spare held mj j0.type [x7]=some i0:=by simpa[pj0,ej0]using hgj 0 j0 rfl
     have r3:DataW.trod enc P w base spare held mj j1.type [x8]=some i1:=by simpa[pj1,ej1]using hgj 1 j1 rfl
     obtain⟨G,hG,_,wG⟩:=DataW.trod_int a0i r0;obtain⟨N,hN,_,wN⟩:=DataW.trod_int a1i r1;obtain⟨S,hS,_,wS⟩:=DataW.trod_int j0i r2;obtain⟨O,hO,_,wO⟩:=DataW.trod_int j1i r3;obtain⟨B,hB,_⟩:=DataW.trod_bool hb t4;injection hG with hG
     injection hN with hN
     injection hS with hS
     injection hO with hO
     injection hB with hB
     subst hG;subst hN;subst hS;subst hO;subst hB
     have a5:0<=S/\S<18446744073709551616:=by simp[Lit.wf,IntKind.min,IntKind.max,IntKind.bits,IntKind.signed]at wS;omega
     obtain⟨S,rfl⟩:=Int.eq_ofNat_of_zero_le a5.1;obtain⟨maps,rr,rfl,hM⟩:=ML hm he q0 q1 q2 hCe v0 v1 v2 vb cb t3;refine⟨⟨sl,l,k,b,l'⟩,G,N,⟨S,O⟩,maps,B,⟨A,c⟩,⟨A',c'⟩,rr,rfl,⟨⟨hc,hc',hn,hn',hl,hl',hml,hm',hws,Ck hw2,fun x h=>(hxl x h).2,fun x h=>(hxl x h).1,hx'⟩,hM,?_,?_,Ck wG,Ck wN,by show S<_;omega,Ck wO⟩⟩
     · have h9:(bs sl).size<=reachBytes:=by simpa using a3
       have:sl.length<=reachBytes:=by rwa [Ab]at h9
       unfold reachBytes at this;show sl.length<=_;omega
     · unfold reachBytes at a4;show l'.length<=_;omega
end
end
section
open Go.RowKit Go.Shelf
attribute [local go_sem] Ad Af Ag Ab Ai Ah
theorem NV (D:Dk)(p q:Pl)(w:World)(hD:IsDk w D p q)(hc:D.cache.length<=4398046511104):
 CR 44 #[dval D p q] w (.bool D.fit):=by
 by_cases h:D.sz<1\/1024<D.sz\/D.data.length%64≠0\/4096<D.cache.length
 · exact NW D p q hD.data hc h w
 · exact NX D p q w hD (by omega) (by omega) (by omega) (by omega)
theorem KQ:∀(l:List Dm),(∀m∈l,m.bits.length=64)->∀(j:Nat)(hj:j<l.length)(k:Nat)(v:Value),(dmCells l[j])[k]? =some v->(dmRows l)[j*66+k]? =some v:=fun l=>by
 induction l with
 |nil=>intro _ j hj;simp at hj
 |cons x l ih=>
  intro hl j hj k v hv;have hx:=AA (hl x (by simp));show(dmCells x++dmRows l)[j*66+k]? =some v;cases j with
  |zero=>
   have hk:k<(dmCells x).length:=(List.getElem?_eq_some_iff.1 hv).1;rw[Nat.zero_mul,Nat.zero_add,List.getElem?_append_left hk];exact hv
  |succ j=>
   rw[List.getElem?_append_right (by omega),hx,show(j+1)*66+k-66=j*66+k by omega];exact ih (fun m hm=>hl m (by simp[hm])) j (by simpa using hj) k v hv
theorem IsMs.cells {w:World}{l:List Dm}{r:Pl}(h:IsMs w l r)(h0:0<l.length):∃b off,r.a=some ⟨b,off,none⟩/\b<w.heap.size/\∀j (hj:j<l.length),w.cell? ⟨b,off+j*66,none⟩=some (.string (bs l[j].name))/\w.cell? ⟨b,off+j*66+1,none⟩=some (.bool l[j].use)/\
 ∀k (hk:k<l[j].bits.length),w.cell? ⟨b,off+j*66+(2+k),none⟩=some (.bool l[j].bits[k]):=by
 rcases h.row with h1|⟨b,off,e,hc⟩
 · have:=congrArg List.length h1;rw[AY h.bits]at this;simp at this;omega
 · have hk:=KQ l h.bits;refine⟨b,off,e,?_,fun j hj=>⟨?_,?_,fun k hk'=>?_⟩⟩
   · exact World.block_lt_of_cell? _ _ (hc _ _ (hk 0 h0 0 _ rfl))
   · have:=hc _ _ (hk j hj 0 _ rfl);simpa using this
   · have:=hc _ _ (hk j hj 1 _ rfl)
     rwa [<-Nat.add_assoc]at this
   · have:=hc _ _ (hk j hj (2+k) _ (F7 _ k hk'))
     rwa [<-Nat.add_assoc]at this
def okAt (l:List Dm)(i:Nat):Bool:=nameOk (l.getD i Dm.zero).name&&((l.getD i Dm.zero).use&&(decide (i=0)||decide ((l.getD 0 Dm.zero).name≠(l.getD i Dm.zero).name)))
theorem GV (l:List Dm):Im.nameds l=true↔∀i,i<l.length->okAt l i=true:=by
 cases l with
 |nil=>simp[Im.nameds]
 |cons m r=>
  simp only[Im.nameds,Bool.and_eq_true,List.all_eq_true,decide_eq_true_eq];constructor
  · rintro⟨h1,h2,h3⟩ i hi;cases i with
    |zero=>simp[okAt,h1,h2]
    |succ i=>
     have a0:i<r.length:=by simpa using hi
     have:=h3 r[i] (List.getElem_mem a0);simp[okAt,List.getD,a0,this]
  · intro h;have h0:=h 0 (by simp);simp[okAt]at h0;refine⟨h0.1,h0.2,fun o ho=>?_⟩;obtain⟨i,hi,rfl⟩:=List.getElem_of_mem ho;have:=h (i+1) (by simpa using hi);simpa[okAt,List.getD,hi]using this
theorem Gt (l:List Dm){i:Nat}(h:i<l.length):l.getD i Dm.zero=l[i]:=by simp[List.getD,h]
def fitI (D:Dk)(g h:Int)(j:Jr)(maps:List Dm):Bool:=geomOk g h&&(D.fit&&(decide ((D.sz:Int)=96+2*h)&&(jrFit j&&Im.nameds maps)))
theorem NG (D:Dk)(g h:Int)(j:Jr)(maps:List Dm)(br:Bool)(p q r:Pl)(w:World)(hI:IsIm0 w D g h j maps p q r)(hc:D.cache.length<=300)(hl:maps.length<=2):
 CR 18 #[Cd D g h j maps br p q r] w (.bool (fitI D g h j maps)):=by
 have hD:=hI.d.full (by omega) hI.bad hI.data;have c1:=fun(W:World)=>EP g h W
 have c2:=fun(W:World)(hb:Below w.heap.size w W)=>NV D p q W (hD.below hb) (by omega)
 have c3:=fun(W:World)=>BQ D p q hI.data W
 have c4:=fun(W:World)=>Om g h W
 have c5:=fun(W:World)=>OD j hI.seq hI.pos W
 have Hf:=hid (show fitI D g h j maps=(geomOk g h&&(D.fit&&(decide ((D.sz:Int)=96+2*h)&&(jrFit j&&Im.nameds maps))))from rfl);have hM:=hI.m;clear hD hI;obtain⟨sq,pos⟩:=j;obtain⟨A1,a1⟩:=p;obtain⟨A2,a2⟩:=q;obtain⟨A3,a3⟩:=r;have hB:=Y0 w;obtain⟨x,xk⟩:=Z11 (Am (Blk.new w 33) D A1 a1 A2 a2 g h sq pos A3 maps.length a3 br);have a7:=Ya hB x;go_enter Tryz.func18,Tryz.ntmps18;go_wp2_with fail
 generalize (w.alloc (.cells #[.string (bs D.data),.slice A1 D.cache.length a1,.int .i64 D.fuse,.bool D.off,.slice A2 D.bad.length a2,.int .i64 g,.int .i64 h,.int .u64 sq,.int .i64 pos,.slice A3 maps.length a3,.bool br] 33))=V at a7 x xk ⊢;clear hB;have hB:=a7;clear a7;have X:=El x;have e1:=fun e:Ext V=>c1 e.world
 have e2:=fun e:Ext V=>c2 e.world (bt hB e.below)
 have e3:=fun e:Ext V=>c3 e.world
 have e4:=fun e:Ext V=>c4 e.world
 have e5:=fun e:Ext V=>c5 e.world
 clear c1 c2 c3 c4 c5;cases h1:geomOk g h with
 |false=>
  have Hr:=hid (show fitI D g h ⟨sq,pos⟩ maps=false by rw[Hf.out,h1];rfl);rw[h1]at e1;refine Az mixed (by kernel_rfl) ?_
  repeat (go_big_quiet_step ((first|(go_at_call 43;with_reducible exact An (e1 _)))))
  refine wpQuiet_nil ?_;rintro W ⟨pq_,hpq_⟩;have hW:=pq_.below;rw[<-hpq_]at hW;clear hpq_ pq_;go_wp2_with fail
  go_ret
  rw[Hr.out];exact⟨rfl,bt hB hW⟩
 |true=>
 rw[h1]at e1 e4;rw[if_pos rfl]at e4;cases h2:D.fit with
 |false=>
  have Hr:=hid (show fitI D g h ⟨sq,pos⟩ maps=false by rw[Hf.out,h1,h2];rfl);rw[h2]at e2;refine Az mixed (by kernel_rfl) ?_
  repeat (go_big_quiet_step ((first|(go_at_call 43;with_reducible exact An (e1 _))|(go_at_call 44;with_reducible exact An (e2 _)))))
  refine wpQuiet_nil ?_;rintro W ⟨pq_,hpq_⟩;have hW:=pq_.below;rw[<-hpq_]at hW;clear hpq_ pq_;go_wp2_with fail
  go_ret
  rw[Hr.out];exact⟨rfl,bt hB hW⟩
 |true=>
 rw[h2]at e2;by_cases h3:(D.sz:Int)=96+2*h
 rotate_left
 · have Hr:=hid (show fitI D g h ⟨sq,pos⟩ maps=false by rw[Hf.out,h1,h2,decide_eq_false h3];rfl);have n3:(((D.sz:Nat):Int) !=96+2*h)=true:=by simpa using h3
   refine Az mixed (by kernel_rfl) ?_
   repeat (go_big_quiet_step ((first|(go_at_call 43;with_reducible exact An (e1 _))|(go_at_call 44;with_reducible exact An (e2 _))|(go_at_call 45;with_reducible exact An (e3 _))|(go_at_call 46;with_reducible exact An (e4 _)))))
   refine wpQuiet_nil ?_;rintro W ⟨pq_,hpq_⟩;have hW:=pq_.below;rw[<-hpq_]at hW;clear hpq_ pq_;go_wp2_with fail
   go_ret
   rw[Hr.out];exact⟨rfl,bt hB hW⟩
 have n3:(((D.sz:Nat):Int) !=96+2*h)=false:=by simpa using h3
 cases h5:jrFit ⟨sq,pos⟩with
 |false=>
  have Hr:=hid (show fitI D g h ⟨sq,pos⟩ maps=false by rw[Hf.out,h1,h2,decide_eq_true h3,h5];rfl);rw[h5]at e5;replace h3:=hid h3;refine Az mixed (by kernel_rfl) ?_
  repeat (go_big_quiet_step ((first|(go_at_call 43;with_reducible exact An (e1 _))|(go_at_call 44;with_reducible exact An (e2 _))|(go_at_call 45;with_reducible exact An (e3 _))|(go_at_call 46;with_reducible exact An (e4 _))|(go_at_call 47;with_reducible exact An (e5 _)))))
  refine wpQuiet_nil ?_;rintro W ⟨pq_,hpq_⟩;have hW:=pq_.below;rw[<-hpq_]at hW;clear hpq_ pq_;go_wp2_with fail
  go_ret
  rw[Hr.out];exact⟨rfl,bt hB hW⟩
 |true=>
 have Hr:=hid (show fitI D g h ⟨sq,pos⟩ maps=Im.nameds maps by rw[Hf.out,h1,h2,decide_eq_true h3,h5];rfl);rw[h5]at e5;replace h3:=hid h3;refine Az mixed (by kernel_rfl) ?_
 repeat (go_big_quiet_step ((first|(go_at_call 43;with_reducible exact An (e1 _))|(go_at_call 44;with_reducible exact An (e2 _))|(go_at_call 45;with_reducible exact An (e3 _))|(go_at_call 46;with_reducible exact An (e4 _))|(go_at_call 47;with_reducible exact An (e5 _)))))
 refine wpQuiet_nil ?_;rintro W ⟨pq_,hpq_⟩;have hW:=pq_.below;rw[<-hpq_]at hW;clear hpq_ pq_;go_wp2_with fail
 have xW:=x.bl hW;have a9:=hid (bt hB hW);have aa:=hM.below (bt hB hW);have a5:=hid (fun(h0:0<maps.length)=>aa.cells h0);have ac:=hid aa.name;clear e1 e2 e3 e4 e5 X x xk hB hW hM aa;go_loopw [3] (fun y U=>∃m:Nat,m<=maps.length/\y=.int .i64 m/\Hid (∀i,i<m->okAt maps i=true)/\Below W.heap.size W U) (fun y _=>maps.length-(intOf y).toNat)
 case atStart=>exact⟨0,Nat.zero_le _,rfl,hid (fun i hi=>by omega),Below.refl _ _⟩
 case round=>
  obtain⟨m,hm,rfl,hok,hb⟩:=hrel;obtain⟨xr,xk⟩:=Z11 (xW.bl hb);by_cases hlt:m<maps.length
  · obtain⟨gb,go,ea,hgb,hcs⟩:=a5.out (by omega);have ad:A3=some ⟨gb,go,none⟩:=ea;subst ad;have k1:=(hcs m hlt).1;have k2:=(hcs m hlt).2.1;have k3:=(hcs 0 (by omega)).1;simp only[Nat.zero_mul,Nat.add_zero]at k3;have ab:=ac.out _ (List.getElem_mem hlt);have a0:=hid (show okAt maps m=(nameOk maps[m].name&&(maps[m].use&&(decide (m=0)||decide (maps[0].name≠maps[m].name)))) by unfold okAt;rw[Gt _ hlt,Gt maps (i:=0) (by omega)]);have a8:=hid (fun(h:okAt maps m=false)=>show Im.nameds maps=false by
     cases hn:Im.nameds maps with
     |false=>rfl
     |true=>have:=(GV maps).1 hn m hlt;rw[h]at this;cases this)
    have a4:=hid (fun(h:okAt maps m=true)(i:Nat)(hi:i<m+1)=>show okAt maps i=true by
     rcases Nat.lt_or_eq_of_le (Nat.le_of_lt_succ hi)with h9|h9
     · exact hok.out i h9
     · rw[h9];exact h)
    generalize maps[m].name=nm at k1 ab a0;generalize maps[m].use=us at k2 a0;generalize maps[0].name=n0 at k3 a0;have K1:=fun e:Ext wr=>e.cell (Av hb k1)
    have K2:=fun e:Ext wr=>e.cell (Av hb k2)
    have K3:=fun e:Ext wr=>e.cell (Av hb k3)
    have c6:=fun e:Ext wr=>show Calls Tryz.prog 30 #[.string (bs nm)] e.world (fun e' w'=>e'=.returned (.bool (nameOk nm))/\Below e.world.heap.size e.world w')from(DG nm ab e.world).mono (fun _ _ h=>⟨h.1,by rw[<-h.2];exact Below.refl _ _⟩)
    have X:=El xr;clear k1 k2 k3 hcs hok;cases q1:nameOk nm with
    |false=>
     have a6:=hid (Hr.out.trans (a8.out (by rw[a0.out,q1];rfl)));rw[q1]at c6;clear q1;go_wp2_with fail
     refine Az mixed (by kernel_rfl) ?_
     repeat (go_big_quiet_step ((go_at_call 30;with_reducible exact An (c6 _))))
     refine wpQuiet_nil ?_;rintro U ⟨pq_,hpq_⟩;have hU:=pq_.below;rw[<-hpq_]at hU;clear hpq_ pq_;go_wp2_with fail
     go_ret
     rw[a6.out];exact⟨rfl,bt a9.out (bt hb hU)⟩
    |true=>
    rw[q1]at c6;cases us with
    |false=>
     have a6:=hid (Hr.out.trans (a8.out (by rw[a0.out,q1];rfl)));clear q1;go_wp2_with fail
     refine Az mixed (by kernel_rfl) ?_
     repeat (go_big_quiet_step ((go_at_call 30;with_reducible exact An (c6 _))))
     refine wpQuiet_nil ?_;rintro U ⟨pq_,hpq_⟩;have hU:=pq_.below;rw[<-hpq_]at hU;clear hpq_ pq_;go_wp2_with fail
     go_ret
     rw[a6.out];exact⟨rfl,bt a9.out (bt hb hU)⟩
    |true=>
    have ae:(0:Int)<=(m:Int):=by omega
    by_cases h0:m=0
    · subst h0;have Hy:=hid (a4.out (by rw[a0.out,q1];simp));clear q1 a0 a8 a4 K3;simp only[Nat.zero_mul,Nat.add_zero]at K1 K2;go_wp2_with fail
      refine Az mixed (by kernel_rfl) ?_
      repeat (go_big_quiet_step ((go_at_call 30;with_reducible exact An (c6 _))))
      refine wpQuiet_nil ?_;rintro U ⟨pq_,hpq_⟩;have hU:=pq_.below;rw[<-hpq_]at hU;clear hpq_ pq_;go_wp2_with fail
      go_roundw
      case rel=>exact⟨0+1,by omega,by go_num,Hy,bt hb hU⟩
      case measure=>simp[intOf];omega
    · have m1:decide ((0:Int)<(m:Int))=true:=by simp;omega
      have m2:(0:Int)<(m:Int):=by omega
      have m3:0<m:=by omega
      have l1:0<maps.length:=by omega
      by_cases hq:n0=nm
      · subst hq;have a6:=hid (Hr.out.trans (a8.out (by rw[a0.out,q1];simp[h0])));have s1:(n0==n0)=true:=by simp
        clear q1 a0 a8 a4 h0;go_wp2_with fail
        refine Az mixed (by kernel_rfl) ?_
        repeat (go_big_quiet_step ((go_at_call 30;with_reducible exact An (c6 _))))
        refine wpQuiet_nil ?_;rintro U ⟨pq_,hpq_⟩;have hU:=pq_.below;rw[<-hpq_]at hU;clear hpq_ pq_;go_wp2_with fail
        go_ret
        rw[a6.out];exact⟨rfl,bt a9.out (bt hb hU)⟩
      · have Hy:=hid (a4.out (by rw[a0.out,q1];simp[hq]));have s1:(n0==nm)=false:=beq_eq_false_iff_ne.2 hq;clear q1 a0 a8 a4 h0 hq;go_wp2_with fail
        refine Az mixed (by kernel_rfl) ?_
        repeat (go_big_quiet_step ((go_at_call 30;with_reducible exact An (c6 _))))
        refine wpQuiet_nil ?_;rintro U ⟨pq_,hpq_⟩;have hU:=pq_.below;rw[<-hpq_]at hU;clear hpq_ pq_;go_wp2_with fail
        go_roundw
        case rel=>exact⟨m+1,by omega,by go_num,Hy,bt hb hU⟩
        case measure=>simp[intOf];omega
  · obtain rfl:m=maps.length:=by omega
    have a6:=hid (Hr.out.trans ((GV maps).2 hok.out));clear hok;go_wp2_with fail
    go_ret
    rw[a6.out];exact⟨rfl,bt a9.out hb⟩
theorem Fq (w:World):CR 6 #[] w (.bool true):=by
 obtain⟨e1,e2,e3,e4,e5⟩:=ev17;obtain⟨k1,k2,k3,k4⟩:=MI;have m2:=Db.2.2.2.2.2.1;have m4:=Db.2.2.2.2.2.2.1;have m5:=Db.2.2.2.2.2.2.2.1;rw[m2]at m4;have aI:=fun(W:World)=>NK W
 have az:=fun(W:World)(p q r:Pl)(hI:IsIm W smI p q r)=>FA smI p q r W hI PE [109] (by unfold maxLen;decide)
 rw[e1]at az;have aD:=fun(W:World)(p q r:Pl)(hI:IsIm W bm1C p q r)=>NL bm1C p q r W hI (Im.okC_ok k1) 3 0 [120] (by constructor<;>omega) (by constructor<;>omega) (by decide)
 rw[e2]at aD;have aC:=fun(W:World)(p q r:Pl)(hI:IsIm W bm2C p q r)=>FD bm2C p q r W hI (Im.okC_ok k2)
 rw[e3]at aC;have aA:=fun(W:World)(p q r:Pl)(hI:IsIm W bm3C p q r)=>D7 bm3C p q r W hI (Im.okC_ok k3)
 rw[e4]at aA;have aB:=fun(W:World)(p q r:Pl)(hI:IsIm W bm4C p q r)=>D7 bm4C p q r W hI (Im.okC_ok k4)
 rw[e5]at aB;clear e1 e2 e3 e4 e5 k1 k2 k3 k4;generalize smI=I0 at*;generalize bm1C=I1 at*;generalize bm2C=I2 at*;generalize bm3C=I3 at*;generalize bm4C=I4 at*;generalize bm5C=I5 at*;have a5:(⟨[109],true,(List.replicate 64 false).set 3 true⟩:Dm).bits.length=64:=by simp
 have ax:(⟨[109],true,(List.replicate 64 false).set 3 true⟩:Dm).bits[3]'(by rw[a5];omega)=true:=by simp
 have aw:(⟨[109],true,(List.replicate 64 false).set 3 true⟩:Dm).bits[2]'(by rw[a5];omega)=false:=by simp
 have ay:(⟨[109],true,(List.replicate 64 false).set 3 true⟩:Dm).name.length<=maxLen:=by unfold maxLen;decide
 have au:(⟨[109],true,List.replicate 64 true⟩:Dm).bits.length=64:=by simp
 have av:(⟨[109],true,List.replicate 64 true⟩:Dm).bits[2]'(by rw[au];omega)=true:=by simp
 generalize (⟨[109],true,(List.replicate 64 false).set 3 true⟩:Dm)=M at*;generalize (⟨[109],true,List.replicate 64 true⟩:Dm)=M5 at*;obtain⟨D0,g0,h0,⟨s0,o0⟩,m0,b0⟩:=I0;obtain⟨D1,g1,h1,⟨s1,o1⟩,m1,b1⟩:=I1;obtain⟨D2,g2,h2,⟨s2,o2⟩,m2',b2⟩:=I2;obtain⟨D3,g3,h3,⟨s3,o3⟩,m3,b3⟩:=I3;obtain⟨D4,g4,h4,⟨s4,o4⟩,m4',b4⟩:=I4;obtain⟨D5,g5,h5,⟨s5,o5⟩,m5',b5⟩:=I5;simp only at m2 m4 m5;subst m2 m4 m5;have aQ:=Tryz.dm_agg;have aT:=Tryz.dm_siz;have hB:=Y0 w;go_enter Tryz.func6,Tryz.ntmps6;go_wp2_with fail
 refine((aI _)).mono ?_;rintro e w1 ⟨⟨⟨A1,a1⟩,⟨A2,a2⟩,⟨A3,a3⟩,rfl,i1⟩,hb1⟩;replace hB:=bt hB hb1;go_wp2_with fail
 refine((az _ _ _ _ i1)).mono ?_;rintro e w2 ⟨⟨⟨xA,xa⟩,⟨xB,xb⟩,⟨xC,xc⟩,rfl,i2,oo2⟩,hb2⟩;replace hB:=bt hB hb2;replace i1:=i1.below hb2;clear oo2;obtain⟨x,xk,xkf⟩:=Z11f (Am (Blk.new w2 33) D1 xA xa xB xb g1 h1 s1 o1 xC m1.length xc b1);have ah:=Ya hB x;have ai:=i2.below (Yb ah);have lx:=(x).lt;have ox:=i2.apart (Nat.le_refl w2.heap.size);go_wp2_with fail
 refine((aD _ _ _ _ ai)).mono ?_;rintro e w3 ⟨⟨⟨vA,va⟩,⟨vB,vb⟩,⟨vC,vc⟩,rfl,i3,oo3⟩,hb3⟩;replace hB:=bt ah hb3;replace i2:=ai.below hb3;replace x:=x.bl hb3;replace xk:=Aa x;replace xkf:=x.fz;clear ah ai;have aS:=oo3 w2.heap.size lx ox;have aR:w.heap.size<=w2.heap.size:=(bt hb1 hb2).size;clear oo3;have af:=Al hB (g:=w2.heap.size) (by omega) (.string (bs D2.data)) (.slice vA D2.cache.length va) (.int .i64 D2.fuse) (.bool D2.off) (.slice vB D2.bad.length vb) (.int .i64 g2) (.int .i64 h2) (.int .u64 s2) (.int .i64 o2) (.slice vC [M].length vc) (.bool b2);have aE:=Yh x af;have aj:=i3.oc af (by assumption);go_wp2_with fail
 refine((aC _ _ _ _ aj)).mono ?_;rintro e w4 ⟨⟨⟨sA,sa⟩,⟨sB,sb⟩,⟨sC,sc⟩,rfl,i4,oo4⟩,hb4⟩;replace hB:=bt af hb4;replace x:=aE.bl hb4;replace xk:=Aa x;replace xkf:=x.fz;replace i3:=aj.below hb4;clear af aE aj;clear oo4;obtain⟨s,sk⟩:=Z11 (Am (Blk.new w4 33) D3 sA sa sB sb g3 h3 s3 o3 sC m3.length sc b3);have a7:=Ya hB s;have aF:=Yc x a7;have ao:=i3.below (Yb a7);have ak:=i4.below (Yb a7);go_wp2_with fail
 refine((aA _ _ _ _ ak)).mono ?_;rintro e w5 ⟨⟨⟨yA,ya⟩,⟨yB,yb⟩,⟨yC,yc⟩,rfl,i5,oo5⟩,hb5⟩;replace hB:=bt a7 hb5;replace x:=aF.bl hb5;replace xk:=Aa x;replace xkf:=x.fz;replace i3:=ao.below hb5;replace i4:=ak.below hb5;replace s:=s.bl hb5;replace sk:=Aa s;clear a7 aF ao ak;clear oo5;obtain⟨y,yk⟩:=Z11 (Blk.new w5 33 #[.string (bs D4.data),.slice yA D4.cache.length ya,.int .i64 D4.fuse,.bool D4.off,.slice yB D4.bad.length yb,.int .i64 g4,.int .i64 h4,.int .u64 s4,.int .i64 o4,.slice yC [M].length yc,.bool b4]);have a4:=Ya hB y;have aq:=Yc x a4;have ag:=i3.below (Yb a4);have ap:=Yc s a4;have a9:=i5.below (Yb a4);go_wp2_with fail
 refine((aB _ _ _ _ a9)).mono ?_;rintro e w6 ⟨⟨⟨zA,za⟩,⟨zB,zb⟩,⟨zC,zc⟩,rfl,i6,oo6⟩,hb6⟩;replace hB:=bt a4 hb6;replace x:=aq.bl hb6;replace xk:=Aa x;replace xkf:=x.fz;replace i3:=ag.below hb6;replace s:=ap.bl hb6;replace sk:=Aa s;replace i5:=a9.below hb6;replace y:=y.bl hb6;replace yk:=Aa y;clear a4 aq ag ap a9;clear oo6;obtain⟨z,zk⟩:=Z11 (Blk.new w6 33 #[.string (bs D5.data),.slice zA D5.cache.length za,.int .i64 D5.fuse,.bool D5.off,.slice zB D5.bad.length zb,.int .i64 g5,.int .i64 h5,.int .u64 s5,.int .i64 o5,.slice zC [M5].length zc,.bool b5]);have a0:=Ya hB z;obtain⟨am,ad,a6⟩:=Z11f (Yc x a0);have a8:=i3.below (Yb a0);obtain⟨al,ac⟩:=Z11 (Yc s a0);have aa:=i5.below (Yb a0);obtain⟨an,ae⟩:=Z11 (Yc y a0);have ab:=i6.below (Yb a0);go_wp2_with fail
 generalize (w6.alloc (.cells #[.string (bs D5.data),.slice zA D5.cache.length za,.int .i64 D5.fuse,.bool D5.off,.slice zB D5.bad.length zb,.int .i64 g5,.int .i64 h5,.int .u64 s5,.int .i64 o5,.slice zC [M5].length zc,.bool b5] 33))=T at a0 am ad a6 a8 al ac aa an ae ab z zk ⊢;clear hB x i3 s i5 y i6 xk sk yk xkf;have hB:=a0;have x:=am;have xk:=ad;have xkf:=a6;have i3:=a8;have s:=al;have sk:=ac;have i5:=aa;have y:=an;have yk:=ae;have i6:=ab;clear a0 am ad a6 a8 al ac aa an ae ab;obtain⟨gx,fx,ex,_,cx⟩:=(i3).m.cells (by simp);obtain⟨gy,fy,ey,_,cy⟩:=(i5).m.rows (by simp);obtain⟨gz,fz,ez,_,cz⟩:=(i6).m.cells (by simp);obtain⟨gx',fx',ex',_,cx'⟩:=(i3).m.rows (by simp);have ar:vC=some ⟨gx,fx,none⟩:=ex;have aG:yC=some ⟨gy,fy,none⟩:=ey;have aH:zC=some ⟨gz,fz,none⟩:=ez;subst ar aG aH;injection ex' with ex'
 injection ex' with ex1 ar
 subst ex1 ar;have aK:=(cx 0 (by simp)).2.2 3 (by show 3<M.bits.length;omega);have aJ:=(cx 0 (by simp)).2.2 2 (by show 2<M.bits.length;omega);have aP:=(cz 0 (by simp)).2.2 2 (by show 2<M5.bits.length;omega);simp only[List.getElem_cons_zero,ax,aw,av,Nat.zero_mul,Nat.add_zero,<-Nat.add_assoc]at aK aJ aP;have aM:=Tryz.dm_load M a5 (cx' 0 (by simp));have aO:=Tryz.dm_load M a5 (cy 0 (by simp));have aL:=fun n=>Tryz.dm_load M a5 (Cr (cx' 0 (by simp)) (BX (Below.refl _ _) n))
 have aN:=fun n=>Tryz.dm_load M a5 (Cr (cy 0 (by simp)) (BX (Below.refl _ _) n))
 simp only[Nat.zero_mul,Nat.add_zero]at aM aO aL aN;clear cx cy cz cx' ex ey ez;simp only[List.append_eq,List.cons_append,List.nil_append];refine wp_region_quiet_lit (by kernel_rfl) (by kernel_rfl) ?_
 repeat (go_big_quiet_step (fail))
 go_big_quiet_want
 refine Hu (.bool true) (fun W=>Tryz.run_dm _ _ _ rfl M M rfl rfl ay a5 ay a5 true (decide_eq_true rfl) W) ?_;simp only[Yf]
 go_big_quiet_on
 repeat (go_big_quiet_step (fail))
 refine wpQuiet_nil ?_;intro _ hw';obtain⟨nq,hw''⟩:=hw';subst hw'';go_wp2_with fail
 go_ret
 exact⟨rfl,BX hB nq⟩
def goodI (D:Dk)(g h:Int)(j:Jr)(maps:List Dm):Bool:=decide (D.cache.length<=300)&&(decide (maps.length<=2)&&fitI D g h j maps)
theorem LE {D:Dk}{g h:Int}{j:Jr}{maps:List Dm}:goodI D g h j maps=true↔D.cache.length<=300/\maps.length<=2/\geomOk g h=true/\D.fit=true/\(D.sz:Int)=96+2*h/\jrFit j=true/\Im.nameds maps=true:=by
 simp[goodI,fitI]
theorem LF {w:World}{D:Dk}{g h:Int}{j:Jr}{maps:List Dm}{p q r:Pl}(br:Bool)(hI:IsIm0 w D g h j maps p q r)(hg:goodI D g h j maps=true):
 ∃hh:Nat,h=hh/\IsIm w ⟨D,g,hh,j,maps,br⟩ p q r/\(⟨D,g,hh,j,maps,br⟩:Im).Ok:=by
 obtain⟨h1,h2,h3,h4,h5,h6,h7⟩:=LE.1 hg;have hk:=Em.1 h3;obtain⟨hh,rfl⟩:=Int.eq_ofNat_of_zero_le (show 0<=h by omega);refine⟨hh,rfl,⟨hI.d.full (by omega) hI.bad hI.data,hI.m⟩,h4,by show 0<g/\g<=64;omega,by show 8<=hh/\hh<=256;omega,?_,hI.pos,h2,hI.m.bits⟩;have:=hI.seq;simp[jrFit]at h6;show j.seq<_;omega
theorem Gu (D:Dk)(g h:Int)(j:Jr)(maps:List Dm)(br:Bool)(p q r:Pl)(w:World)(hI:IsIm0 w D g h j maps p q r):
 CR 5 #[Cd D g h j maps br p q r] w (.bool (goodI D g h j maps)):=by
 have a4:=fun(W:World)(hb:Below w.heap.size w W)(h1:D.cache.length<=300)(h2:maps.length<=2)=>NG D g h j maps br p q r W (hI.below hb) h1 h2
 have a5:=Nat.le_trans hI.d.pc hI.d.pm;have a6:=Nat.le_trans hI.m.cap hI.m.max;unfold maxLen at a5 a6;have Hg:=hid (show goodI D g h j maps=(decide (D.cache.length<=300)&&(decide (maps.length<=2)&&fitI D g h j maps))from rfl);clear hI;obtain⟨sq,pos⟩:=j;obtain⟨A1,a1⟩:=p;obtain⟨A2,a2⟩:=q;obtain⟨A3,a3⟩:=r;have hB:=Y0 w;obtain⟨x,xk⟩:=Z11 (Am (Blk.new w 33) D A1 a1 A2 a2 g h sq pos A3 maps.length a3 br);have a0:=Ya hB x;by_cases h1:D.cache.length<=300
 · have g1:(D.cache.length:Int)<=300:=by omega
   by_cases h2:maps.length<=2
   · have g2:(maps.length:Int)<=2:=by omega
     have Hr:=hid (show goodI D g h ⟨sq,pos⟩ maps=fitI D g h ⟨sq,pos⟩ maps by rw[Hg.out,decide_eq_true h1,decide_eq_true h2];rfl);have hf:=fun(W:World)(hb:Below w.heap.size w W)=>a4 W hb h1 h2
     clear a4 h1 h2;go_enter Tryz.func5,Tryz.ntmps5;go_wp2_with fail
     refine((hf _ a0)).mono ?_;rintro e w1 ⟨rfl,hb1⟩;replace hB:=bt a0 hb1;replace x:=x.bl hb1;replace xk:=Aa x;clear a0;go_wp2_with fail
     go_ret
     rw[Hr.out];exact⟨rfl,hB⟩
   · have g2:¬(maps.length:Int)<=2:=by omega
     have Hr:=hid (show goodI D g h ⟨sq,pos⟩ maps=false by rw[Hg.out,decide_eq_false h2];simp);clear h1 h2 a4;go_enter Tryz.func5,Tryz.ntmps5;go_wp2_with fail
     go_ret
     rw[Hr.out];exact⟨rfl,a0⟩
 · have g1:¬(D.cache.length:Int)<=300:=by omega
   have Hr:=hid (show goodI D g h ⟨sq,pos⟩ maps=false by rw[Hg.out,decide_eq_false h1];simp);clear h1 a4;go_enter Tryz.func5,Tryz.ntmps5;go_wp2_with fail
   go_ret
   rw[Hr.out];exact⟨rfl,a0⟩
theorem C9 (a b:List Dm):dmRows (a++b)=dmRows a++dmRows b:=by simp[dmRows]
theorem MS {w:World}{base:Nat}{e:TypeId}{size n g cap:Nat}{xs:List Value}(m:Nat)(hm:m<=n)(h:w.ownsRow base e size (.slice (some ⟨g,0,none⟩) n cap) n xs):
 w.ownsRow base e size (.slice (some ⟨g,0,none⟩) m cap) m (xs.take (m*size)):=by
 obtain⟨hl,h⟩:=h;have hk:=Nat.mul_le_mul_right size hm
 rcases h with ⟨h,_⟩|⟨g',cap',cur,hv,hb,hg,hn,hc,hs,ht⟩
 · cases h
 · cases hv
   refine⟨by rw[List.length_take,hl];omega,.inr ⟨g,cap,cur,rfl,hb,hg,by omega,hc,hs,?_⟩⟩;rw[<-ht,List.take_take,Nat.min_eq_left hk]
theorem MJ (l:List Dm):∀u∈dmRows l,u.oneCell'=true:=fun u hu=>by
 obtain⟨m,_,h⟩:=List.mem_flatMap.1 hu;exact AZ m u h
theorem Df {w:World}{g:Nat}:∀(vs:List Value)(o:Nat){w':World},w.grownBy w' (some g)->w.grownBy (w'.setCells g o vs) (some g)
 |[],_,_,h=>h
 |v::r,o,_,h=>Df r (o+1) (Bh h o v)
theorem KT {w:World}{base g cap:Nat}{e:TypeId}(a b:List Dm)(m:Dm)(h64:∀x∈a++m::b,x.bits.length=64)
 (h:w.ownsRow base e 66 (.slice (some ⟨g,0,none⟩) (a++m::b).length cap) (a++m::b).length (dmRows (a++m::b))):
 ((w.setCells g (a.length*66) (dmRows b)).setCells g ((a++b).length*66) (dmCells Dm.zero)).ownsRow base e 66 (.slice (some ⟨g,0,none⟩) (a++b).length cap) (a++b).length (dmRows (a++b)):=by
 have la:=AY (l:=a) fun x hx=>h64 x (by simp[hx])
 have lb:=AY (l:=b) fun x hx=>h64 x (by simp[hx])
 have lm:=AA (h64 m (by simp));have lz:=AA (m:=Dm.zero) rfl;have e1:dmRows (a++m::b)=dmRows a++(dmCells m++dmRows b):=by rw[C9];rfl
 rw[e1]at h;have hn:(a++m::b).length=(a++b).length+1:=by simp;omega
 have a0:(a++b).length=a.length+b.length:=List.length_append;have h1:=Cl (dmRows b) (a.length*66) h (by simp only[List.length_append,la,lb,lm];omega);rw[<-la,List.take_left]at h1;have h2:=Cl (dmCells Dm.zero) ((a++b).length*66) h1 (by simp only[List.length_append,List.length_drop,la,lb,lm,lz,a0];omega);have h3:=MS (a++b).length (by omega) h2;have e2:(dmRows a++dmRows b).length=(a++b).length*66:=by rw[List.length_append,la,lb,a0];omega
 have e3:List.take ((a++b).length*66) (dmRows a++dmRows b++List.drop ((dmRows a).length+(dmRows b).length) (dmRows a++(dmCells m++dmRows b)))=dmRows (a++b):=by rw[<-e2,List.take_left,C9]
 have e4:(dmRows (a++b)).length=(a++b).length*66:=by rw[C9];exact e2
 rw[e3,List.append_assoc,List.take_append_of_le_length (by omega),List.take_of_length_le (by omega),la]at h3;exact h3
theorem Tryz.clear_dm {w:World}{g o c:Nat}(ty:TypeId)(h:w.there g o 66):
 (Builtin.clear_ #[31] ty #[.slice (some ⟨g,o,none⟩) 1 c]).run Tryz.prog w=.ok (.tuple #[]) (w.setCells g o (dmCells Dm.zero)):=by
 have hv:(zeroValue 42).run Tryz.prog w=.ok (dmval Dm.zero) w:=by kernel_rfl
 have hz:(Builtin.zeroCells (dmval Dm.zero).cells 1).toList=dmCells Dm.zero:=by kernel_rfl
 have hs:=Tryz.dm_store Dm.zero rfl h;simp[Builtin.clear_,run_underlying Tryz.underlying31,hv,hz,hs]
theorem KJ (l:List Dm)(h64:∀x∈l,x.bits.length=64)(i:Nat)(hi:i<l.length)(g c B:Nat)(w:World)
 (hv:w.ownsRow B 42 66 (.slice (some ⟨g,0,none⟩) l.length c) l.length (dmRows l)):
 Calls Tryz.prog 37 #[.slice (some ⟨g,0,none⟩) l.length c,.int .i64 i,.int .i64 ((i:Int)+1)] w fun e w'=>
  e=.returned (.slice (some ⟨g,0,none⟩) (l.eraseIdx i).length c)/\w'.ownsRow B 42 66 (.slice (some ⟨g,0,none⟩) (l.eraseIdx i).length c) (l.eraseIdx i).length (dmRows (l.eraseIdx i))/\w.grownBy w' (some g):=by
 obtain⟨i0,hi0,hz0,hz1,hz2⟩:=info_parts Tryz.infoDmap3;have af:=Tryz.dm_siz;have a3:l.length<=c/\c<=maxLen:=by
  rcases hv.2 with ⟨h,_⟩|⟨_,_,_,h,_,_,h1,h2,_⟩
  · cases h
  · cases h;exact⟨h1,h2⟩
 obtain⟨hlc,hcm⟩:=a3;unfold maxLen at hcm;have ht:((i:Int)==(i:Int)+1)=false:=by rw[beq_eq_false_iff_ne];omega
 have ac:i<=c:=by omega
 have a7:(0:Int)<=(i:Int)+1:=by omega
 have a8:(i:Int)+1<=(l.length:Int):=by omega
 obtain⟨A,hA,hsrc⟩:∃A:Addr,(if c=i+1 then some (⟨g,0,none⟩:Addr)else some ⟨g,(i+1)*dmN,none⟩)=some A/\Hid (∀t u,(dmRows (l.drop (i+1)))[t]? =some u->w.drew.cell? (A.add t)=some u):=by
  by_cases h:c=i+1
  · refine⟨⟨g,0,none⟩,by simp[h],fun t u hu=>?_⟩;rw[List.drop_of_length_le (by omega)]at hu;simp[dmRows]at hu
  · refine⟨⟨g,(i+1)*dmN,none⟩,by simp[h],fun t u hu=>?_⟩;rw[Addr.add_lit];have e1:=congrArg dmRows (List.take_append_drop (i+1) l);rw[C9]at e1;have lt:=AY (l:=l.take (i+1)) fun x hx=>h64 x (List.mem_of_mem_take hx)
    rw[List.length_take,Nat.min_eq_left (by omega)]at lt;have h1:(dmRows l)[(i+1)*66+t]? =some u:=by rw[<-e1,List.getElem?_append_right (by omega),lt,Nat.add_sub_cancel_left];exact hu
    have h2:=Du hv ((i+1)*66+t) (List.getElem?_eq_some_iff.1 h1).1;rw[List.getElem?_eq_some_iff]at h1;obtain⟨_,h1⟩:=h1;rw[h1]at h2;exact h2
 have ln:(dmRows (l.drop (i+1))).length=(l.length-(i+1))*66:=by rw[AY fun x hx=>h64 x (List.mem_of_mem_drop hx),List.length_drop]
 have s2:Hid (∀u∈dmRows (l.drop (i+1)),u.oneCell'=true):=hid (MJ _);have lr:=AY h64;have s3:Hid (∀t,t<(dmRows (l.drop (i+1))).length->(w.drew.cell? ⟨g,0+i*66+t,none⟩).isSome=true/\w.drew.frozen? ⟨g,0+i*66+t,none⟩=false):=hid (by
  intro t ht;rw[ln]at ht;rw[Nat.zero_add];exact⟨by show(w.cell? _).isSome=true;rw[Du hv (i*66+t) (by rw[lr];omega)];rfl,EG hv _⟩)
 obtain⟨a,b,m,hl,ha⟩:∃a b m,l=a++m::b/\a.length=i:=⟨l.take i,l.drop (i+1),l[i],by rw[<-List.drop_eq_getElem_cons hi,List.take_append_drop],by rw[List.length_take];omega⟩;have a4:l.drop (i+1)=b:=by rw[hl,<-ha];simp
 have a5:l.eraseIdx i=a++b:=by rw[hl,<-ha,List.eraseIdx_append_of_length_le (Nat.le_refl _),Nat.sub_self,List.eraseIdx_cons_zero]
 have hcut:=KT (w:=w.drew) a b m (by rw[<-hl];exact h64) (by rw[<-hl];exact hv);have a2:=Df (dmCells Dm.zero) ((a++b).length*66) (Df (dmRows b) (i*66) (w:=w) (w':=w.drew) (g:=g) ⟨rfl,rfl,rfl,Nat.le_refl _,fun _ _ _=>rfl⟩);rw[a4]at hsrc ln s2 s3;rw[a5];have a1:(a++b).length+1=l.length:=by rw[hl];simp;omega
 have a0:(a++b).length=i+(l.length-(i+1)):=by omega
 have lb:(dmRows b).length=(l.length-(i+1))*66:=ln;obtain⟨W1,hW1⟩:∃W1,w.drew.setCells g (i*66) (dmRows b)=W1:=⟨_,rfl⟩;rw[ha]at hcut;rw[hW1]at hcut a2;have a6:W1.there g ((a++b).length*66) 66:=by
  have h1:=Cl (dmRows b) (i*66) (w:=w.drew) hv (by rw[lb,lr];omega);rw[hW1]at h1;exact EH h1 _ _ (by rw[h1.1];omega)
 have aa:∀ty,(Builtin.clear_ #[31] ty #[.slice (some ⟨g,(a++b).length*dmN,none⟩) (l.length-(a++b).length) (c-(a++b).length)]).run Tryz.prog W1=.ok (.tuple #[]) (W1.setCells g ((a++b).length*66) (dmCells Dm.zero)):=fun ty=>by
  rw[show l.length-(a++b).length=1 by omega];exact Tryz.clear_dm (c:=c-(a++b).length) ty a6
 have hW:=hid hW1;replace hcut:=hid hcut;replace a2:=hid a2;generalize (a++b).length=n at*;clear hl ha a5 a4 hv hW1 lb lr h64 a6;generalize a++b=ab at*;have ad:n<=l.length:=by omega
 have ae:¬c=n:=by omega
 replace a1:=hid a1;replace ln:=hid ln;replace a0:=hid a0;go_enter Tryz.func37,Tryz.ntmps37;go_wp2_with fail
 go_region_law (refine step_append_room rfl (.tmp 22) (.tmp 25) 31 rfl 42 i0 66 Tryz.underlying31 hi0 hz1 g 0 i c (by simp[Act.eval,Act.put]) A (l.length-(i+1)) (c-(i+1)) (dmRows b) (by simp[Act.eval,Act.put]) ln.out hsrc.out s2.out (by omega) s3.out ?_;rw[Nat.zero_add,hW.out])
 have a9:((n:Int))<=(l.length:Int):=by omega
 simp only[<-a0.out];go_wp2_with fail
 go_ret
 exact⟨rfl,hcut.out,a2.out⟩
theorem JI (x:Im)(p q r:Pl)(w:World)(hI:IsIm w x p q r)(ok:x.Ok)(nm:List UInt8)(hnm:nm.length<=maxLen):
 CX 11 #[imval x p q r,.string (bs nm)] w (RetIm w.heap.size x p q r (x.bmRemove nm)):=by
 have ae:=fun(W:World)(hb:Below w.heap.size w W)=>FB x p q r W (hI.below hb) nm hnm
 have ax:=hid (fun(W:World)(hb:Below w.heap.size w W)=>Eb x.maps r W (hI.m.below hb) (by have:=ok.maps;omega));have aE:=hid (fun(W:World)(hb:Below w.heap.size w W)=>FC x p q r W (hI.below hb) ok nm hnm Dm.zero rfl (by decide) 21);have aU:=hid (fun g (hg:w.heap.size<=g)=>hI.apart hg);have HC:=hid (show x.bmRemove nm=if x.br=true then(x,24)else if dmFind x.maps nm<0 then(x,21)else if(x.bmPut nm Dm.zero 21).2=0 then((x.bmPut nm Dm.zero 21).1.withMaps (x.maps.eraseIdx (dmFind x.maps nm).toNat),0)else x.bmPut nm Dm.zero 21 from rfl);have aF:=Ba x.maps nm;have aL:=ok.maps;have aH:=hid hI.m.bits;have aV:=hid hI.m.name;generalize x.bmPut nm Dm.zero 21=DN at*;generalize dmFind x.maps nm=k at*;obtain⟨hd,hm⟩:=hI;clear ok;obtain⟨D,g,h,⟨seq,pos⟩,maps,br⟩:=x;simp only at hd hm ae ax aU HC aF aL aH aV;obtain⟨⟨F,g9,h9,⟨s9,o9⟩,m9,b9⟩,ed⟩:=DN;simp only at HC;obtain⟨A1,a1⟩:=p;obtain⟨A2,a2⟩:=q;obtain⟨A3,a3⟩:=r;have aW:=aU.out (w.heap.size+1) (by omega);have b3:=aW.1;have b4:=aW.2;cases br with
 |true=>
  rw[if_pos rfl,if_pos rfl]at ae;have n1:((24:Int) !=0)=true:=by decide
  have hB:=Y0 w;obtain⟨x,xk⟩:=Z11 (Am (Blk.new w 33) D A1 a1 A2 a2 g h seq pos A3 maps.length a3 true);have a5:=Ya hB x;have a8:=hd.below (Yb a5);have aa:=hm.below (Yb a5);have r:=apz (Yd a5 33);simp only[Ys]at r;have rk:=Aa r;have am:=r.fz;have a0:=Ya a5 r;have a9:=a8.below (Yb a0);have ab:=aa.below (Yb a0);obtain⟨an,ai⟩:=Z11 (Yc x a0);go_enter Tryz.func11,Tryz.ntmps11;go_wp2_with fail
  refine((ae _ a0)).mono ?_;rintro e w1 ⟨rfl,hb1⟩;replace hB:=bt a0 hb1;replace hd:=a9.below hb1;replace hm:=ab.below hb1;replace x:=an.bl hb1;replace xk:=Aa x;replace r:=r.bl hb1;replace rk:=Aa r;replace am:=r.fz;clear a5 a8 aa a0 a9 ab ai an;have aq:=hid (r.lt);have Hr:=hid (HC.out.trans (if_pos (by simp)));clear HC ax aE aF ae;have a4:=ap11 (Al hB (g:=w.heap.size+1) (by omega)) D A1 a1 A2 a2 g h seq pos A3 maps.length a3 true;have ao:=hd.oc a4 (by assumption);have af:=hm.oc a4 (by assumption);obtain⟨aR,yy⟩:=Z11 (Yh r a4);go_wp2_with fail
  rw[Hr.out];exact retIm ao af (fun _ _ h=>h) a4 (by simp[results,Tryz.results11,go_sem,yy]) rfl
 |false=>
  rw[if_neg (show¬(false=true) by simp),if_neg (show¬(false=true) by simp)]at ae;replace HC:=hid (HC.out.trans (if_neg (by simp)));by_cases hk:k<0
  · rw[if_pos hk,if_pos hk]at ae;have n1:((21:Int) !=0)=true:=by decide
    have hB:=Y0 w;obtain⟨x,xk⟩:=Z11 (Am (Blk.new w 33) D A1 a1 A2 a2 g h seq pos A3 maps.length a3 false);have a5:=Ya hB x;have a8:=hd.below (Yb a5);have aa:=hm.below (Yb a5);have r:=apz (Yd a5 33);simp only[Ys]at r;have rk:=Aa r;have am:=r.fz;have a0:=Ya a5 r;have a9:=a8.below (Yb a0);have ab:=aa.below (Yb a0);obtain⟨an,ai⟩:=Z11 (Yc x a0);go_enter Tryz.func11,Tryz.ntmps11;go_wp2_with fail
    refine((ae _ a0)).mono ?_;rintro e w1 ⟨rfl,hb1⟩;replace hB:=bt a0 hb1;replace hd:=a9.below hb1;replace hm:=ab.below hb1;replace x:=an.bl hb1;replace xk:=Aa x;replace r:=r.bl hb1;replace rk:=Aa r;replace am:=r.fz;clear a5 a8 aa a0 a9 ab ai an;have aq:=hid (r.lt);have Hr:=hid (HC.out.trans (if_pos hk));clear HC ax aE aF ae hk;have a4:=ap11 (Al hB (g:=w.heap.size+1) (by omega)) D A1 a1 A2 a2 g h seq pos A3 maps.length a3 false;have ao:=hd.oc a4 (by assumption);have af:=hm.oc a4 (by assumption);obtain⟨aR,yy⟩:=Z11 (Yh r a4);go_wp2_with fail
    rw[Hr.out];exact retIm ao af (fun _ _ h=>h) a4 (by simp[results,Tryz.results11,go_sem,yy]) rfl
  rw[if_neg hk,if_neg hk]at ae;replace HC:=hid (HC.out.trans (if_neg hk));obtain⟨i,rfl⟩:=Int.eq_ofNat_of_zero_le (show 0<=k by omega);have b0:i<maps.length:=by omega
  rw[Int.toNat_natCast]at HC;clear hk aF;have n1:((0:Int) !=0)=false:=by decide
  have hB:=Y0 w;obtain⟨x,xk⟩:=Z11 (Am (Blk.new w 33) D A1 a1 A2 a2 g h seq pos A3 maps.length a3 false);have a5:=Ya hB x;have a8:=hd.below (Yb a5);have aa:=hm.below (Yb a5);have r:=apz (Yd a5 33);simp only[Ys]at r;have rk:=Aa r;have am:=r.fz;have a0:=Ya a5 r;have a9:=a8.below (Yb a0);have ab:=aa.below (Yb a0);obtain⟨an,ai⟩:=Z11 (Yc x a0);go_enter Tryz.func11,Tryz.ntmps11;go_wp2_with fail
  refine((ae _ a0)).mono ?_;rintro e w1 ⟨rfl,hb1⟩;replace hB:=bt a0 hb1;replace hd:=a9.below hb1;replace hm:=ab.below hb1;replace x:=an.bl hb1;replace xk:=Aa x;replace r:=r.bl hb1;replace rk:=Aa r;replace am:=r.fz;clear a5 a8 aa a0 a9 ab ai an;have aq:=hid (r.lt);clear ae;go_wp2_with (refine AP rfl (dmval Dm.zero) (Tryz.run_dmz rfl _) ?_)
  have b6:=(x).lt;refine((aE.out _ hB)).mono ?_;rintro e w2 ⟨⟨⟨P5,e5⟩,⟨Q5,f5⟩,⟨R5,g5⟩,rfl,i5,o5⟩,hb2⟩;replace hB:=bt hB hb2;replace hd:=hd.below hb2;replace hm:=hm.below hb2;replace x:=x.bl hb2;replace xk:=Aa x;replace r:=r.bl hb2;replace rk:=Aa r;replace am:=r.fz;have aM:=hid (r.lt);have aP:=o5 (w.heap.size+1) (by have:=aq.out;omega) ⟨b3,b4⟩;have oF:=aP.1;have oM:=aP.2;have O5:=hid (fun g' (h1:g'<w.heap.size) h2=>o5 g' (by omega) h2);have og:=i5.apart (Nat.le_refl w2.heap.size);have ba:=og.1;have bb:=og.2;have aC:=i5.d;have aG:=i5.m;clear aE o5 aP i5 og;obtain⟨y,yk⟩:=Z11 (Am (Blk.new w2 33) F P5 e5 Q5 f5 g9 h9 s9 o9 R5 m9.length g5 b9);have a4:=Ya hB y;have ap:=hm.below (Yb a4);obtain⟨aw,ah⟩:=Z11 (Yc x a4);obtain⟨al,ag,ac⟩:=Z11f (Yc r a4);have a6:=aC.below (Yb a4);have a7:=aG.below (Yb a4);by_cases he:ed=0
  rotate_left
  · have n2:(ed==0)=false:=beq_eq_false_iff_ne.2 he;have Hr:=hid (HC.out.trans (if_neg he));clear HC he ax;have ad:=ap11 (Al a4 (g:=w.heap.size+1) (by omega)) F P5 e5 Q5 f5 g9 h9 s9 o9 R5 m9.length g5 b9;have aS:=Yh al ad;have au:=a6.oc ad (by assumption);have av:=a7.oc ad (by assumption);have yy:=Aa aS;go_wp2_with fail
    rw[Hr.out];exact retIm au av O5.out ad (by simp[results,Tryz.results11,go_sem,yy]) rfl
  subst he;have Hr:=hid (HC.out.trans (if_pos rfl));clear HC;go_wp2_with fail
  generalize (w2.alloc (.cells #[.string (bs F.data),.slice P5 F.cache.length e5,.int .i64 F.fuse,.bool F.off,.slice Q5 F.bad.length f5,.int .i64 g9,.int .i64 h9,.int .u64 s9,.int .i64 o9,.slice R5 m9.length g5,.bool b9] 33))=V at a4 ap aw ah al ag ac a6 a7 y yk ⊢;clear hB hm x r aC aG xk rk am;have hB:=a4;have hm:=ap;have x:=aw;have xk:=ah;have r:=al;have rk:=ag;have am:=ac;have aC:=a6;have aG:=a7;clear a4 ap aw ah al ag ac a6 a7;have aA:=ax.out _ hB;clear ax;refine aA.mono ?_;rintro e w6 ⟨v6,rfl,hv6,hb6⟩;clear aA;obtain⟨AC,cC,rfl,_,_,_⟩:=Aw hv6;obtain⟨gC,hgC,hgB⟩:∃gC,AC=some ⟨gC,0,none⟩/\V.heap.size<=gC:=by
   rcases hv6.2 with ⟨h',h0⟩|⟨g',cap,cur,h',hb,_⟩
   · omega
   · injection h' with h' _ _
     exact⟨g',h',hb⟩
  subst hgC;have aK:=KJ maps aH.out i b0 gC cC V.heap.size w6 hv6;obtain⟨ms,hms⟩:∃ms,maps.eraseIdx i=ms:=⟨_,rfl⟩;rw[hms]at aK Hr;have ar:∀m∈ms,m∈maps:=fun m hm=>List.mem_of_mem_eraseIdx (hms▸hm)
  have ay:∀m∈ms,m.bits.length=64:=fun m hm=>aH.out m (ar m hm)
  have aB:∀m∈ms,m.name.length<=maxLen:=fun m hm=>aV.out m (ar m hm)
  clear hms ar;have b8:=i64w (x:=(i:Int)+1) (by omega);go_wp2_with fail
  refine aK.mono ?_;rintro e w7 ⟨rfl,hv7,hg7⟩;clear aK;have az:=hb6.trans (Cb hg7 hgB hb6.size);have y7:=(y).below az (y).lt;have r7:=(r).below az (r).lt;have d7:=(aC).below az;have B7:=bt hB az;have mm:=IsMs.of_own rfl hv7 ay aB;have q9:∀g',g'<V.heap.size->MsOff g' ms ⟨some ⟨gC,0,none⟩,cC⟩:=fun g' h=>.inr (AF hv7 h)
  have b2:=(y).lt;have b1:=(r).lt;have oy:=q9 w2.heap.size b2;have bc:=q9 (w.heap.size+1) b1;have Q9:=hid (fun g' (h1:g'<w.heap.size)=>q9 g' (by omega));have b7:=aM.out;clear x xk y yk r rk hB hm aC aG hv6 hv7 hg7 hb6 az q9 ay aB am;have bd:=Aa y7;have b5:=y7.fz;have aj:=(B7).setCell (p:=⟨w2.heap.size,9,none⟩) (by show _<=(w2.heap.size:Nat);omega) (.slice (some ⟨gC,0,none⟩) ms.length cC);have aI:=d7.o1 aj (by assumption);have aN:=mm.o1 aj (by assumption);have aD:=(y7).set 9 (.slice (some ⟨gC,0,none⟩) ms.length cC);simp only[Ye]at aD;have aZ:=Aa aD;obtain⟨aQ,aY,aT⟩:=Z11f (Yx r7 aj (by omega));have ak:=ap11 (Al aj (g:=w.heap.size+1) (by omega)) F P5 e5 Q5 f5 g9 h9 s9 o9 (some ⟨gC,0,none⟩) ms.length cC b9;have aJ:=aI.oc ak (by assumption);have aO:=aN.oc ak (by assumption);obtain⟨aX,yy⟩:=Z11 (Yh aQ ak);go_wp2_with fail
  rw[Hr.out];simp only[Im.withMaps]
  exact retIm aJ aO (fun g' h1 h2=>⟨(O5.out g' h1 h2).1,Q9.out g' h1⟩) ak (by simp[results,Tryz.results11,go_sem,yy]) rfl
def dmLess (l:List Dm)(k:Int):Nat->List Dm
 |0=>[]
 |i+1=>if(i:Int)=k then dmLess l k i else dmLess l k i++l[i]?.toList
theorem Ee {l:List Dm}{k:Int}{i:Nat}(hi:i<l.length)(h:(i:Int)≠k):dmLess l k (i+1)=dmLess l k i++[l[i]]:=by
 rw[dmLess,if_neg h,List.getElem?_eq_getElem hi];rfl
theorem Ge {l:List Dm}{k:Int}{i:Nat}(h:(i:Int)=k):dmLess l k (i+1)=dmLess l k i:=by rw[dmLess,if_pos h]
theorem Ef {l:List Dm}{k:Int}:∀i:Nat,i<=l.length->(k<0\/(i:Int)<=k)->dmLess l k i=l.take i
 |0,_,_=>by simp[dmLess]
 |i+1,hi,h=>by rw[Ee (by omega) (by omega),Ef i (by omega) (by omega),List.take_succ_eq_append_getElem (by omega)]
theorem Gd {l:List Dm}{k:Int}(h:k<0):dmLess l k l.length=l:=by rw[Ef _ (Nat.le_refl _) (.inl h),List.take_length]
theorem Gb {l:List Dm}{c:Nat}:∀d:Nat,c+1+d<=l.length->dmLess l (c:Int) (c+1+d)=l.take c++(l.drop (c+1)).take d
 |0,h=>by rw[Nat.add_zero,Ge (i:=c) (k:=(c:Int)) rfl,Ef c (by omega) (.inr (Int.le_refl _))];simp
 |d+1,h=>by
  rw[show c+1+(d+1)=c+1+d+1 by omega,Ee (by omega) (by omega),Gb d (by omega),List.append_assoc]
  congr 1
  rw[List.take_succ_eq_append_getElem (by rw[List.length_drop];omega),List.getElem_drop]
theorem KM {l:List Dm}{c:Nat}(h:c<l.length):dmLess l (c:Int) l.length=l.eraseIdx c:=by
 have:=Gb (l:=l) (c:=c) (l.length-(c+1)) (by omega);rw[show c+1+(l.length-(c+1))=l.length by omega]at this;rw[this,List.eraseIdx_eq_take_drop_succ]
 congr 1
 exact List.take_of_length_le (by rw[List.length_drop];omega)
theorem Gc {l:List Dm}{k:Int}:∀i:Nat,(dmLess l k i).length<=i
 |0=>Nat.le_refl _
 |i+1=>by
  have:=Gc (l:=l) (k:=k) i;rw[dmLess]
  split
  · omega
  · rw[List.length_append];cases l[i]? <;>simp<;>omega
theorem BP (l:List Dm)(r:Pl)(nm:List UInt8)(hnm:nm.length<=maxLen)(w:World)(hM:IsMs w l r):
 CR 31 #[.slice r.a l.length r.c,.string (bs nm)] w (.int .i64 (dmFind l nm)):=by
 have a6:=Nat.le_trans hM.cap hM.max;unfold maxLen at a6 hnm;have a4:=hid hM.name;have Hc:=hid (fun(h:0<l.length)=>hM.cells h);clear hM;obtain⟨A3,a3⟩:=r;go_enter Tryz.func31,Tryz.ntmps31;go_wp2_with fail
 go_loopw [5] (fun x W=>∃m:Nat,m<=l.length/\x=.int .i64 m/\Hid (∀j (hj:j<l.length),j<m->l[j].name≠nm)/\Below w.heap.size w W) (fun x _=>l.length-(intOf x).toNat)
 case atStart=>exact⟨0,Nat.zero_le _,rfl,hid (fun j _ h=>by omega),Below.refl _ _⟩
 case round=>
  obtain⟨m,hm,rfl,hno,hb⟩:=hrel;by_cases hlt:m<l.length
  · obtain⟨gb,go,ea,hgb,hcs⟩:=Hc.out (by omega);have a5:A3=some ⟨gb,go,none⟩:=ea;subst a5;obtain⟨k1,_,_⟩:=hcs m hlt;have a2:=a4.out _ (List.getElem_mem hlt);have a0:=hid (fun(h:l[m].name=nm)=>show dmFind l nm=(m:Int)from F9 hlt h fun j hj=>hno.out j (by omega) hj);have a1:=hid (fun(h:l[m].name≠nm)(j:Nat)(hj:j<l.length)(hj2:j<m+1)=>show l[j].name≠nm by
     rcases Nat.lt_or_eq_of_le (Nat.le_of_lt_succ hj2)with h9|h9
     · exact hno.out j hj h9
     · subst h9;exact h)
    have k1:=Av hb k1;obtain⟨nn,hnn⟩:∃nn,l[m].name=nn:=⟨_,rfl⟩;rw[hnn]at k1 a2 a0 a1;unfold maxLen at a2;clear hcs hno hnn;by_cases hq:nn=nm
    · have q1:(nn==nm)=true:=by simpa using hq
      have Hy:=hid (a0.out hq);clear a0 a1;replace hq:=hid hq;go_wp2_with fail
      go_ret
      rw[Hy.out];exact⟨rfl,hb⟩
    · have q1:(nn==nm)=false:=by simpa using hq
      have Hy:=hid (a1.out hq);clear a0 a1 hq;go_wp2_with fail
      go_roundw
      case rel=>exact⟨m+1,by omega,by go_num,Hy,hb⟩
      case measure=>simp[intOf];omega
  · obtain rfl:m=l.length:=by omega
    have Hy:=hid (show dmFind l nm= -1 from F8 fun j hj=>hno.out j hj hj);clear hno;go_wp2_with fail
    go_ret
    rw[Hy.out];exact⟨rfl,hb⟩
theorem EM (nm:List UInt8)(w:World):CR 34 #[.string (bs nm)] w (dmval (dmFresh nm)):=by
 have a0:=Tryz.dm_agg;have a2:=Tryz.dm_siz;have hM:=AX nm;have a1:=fun(ρ:Operand->Value)(o:Oper)(x y:Operand)(ho:o.op=.build 42 #[(0,x),(1,y)])(hx:ρ x=.string (bs nm))(hy:ρ y=.bool true)(w:World)=>Tryz.run_dmf x y ho nm hx hy w
 have dz:Blk (w.alloc (.cells Tryz.zeroCells42 42)) w.heap.size 42 (dmCells Dm.zero).toArray:=by rw[<-Tryz.dm_zeros];exact Blk.new _ _ _
 generalize dmFresh nm=M at*;have st:=Tryz.dm_put M hM rfl dz;have b8:=AM (Yz (W:=w) (.cells Tryz.zeroCells42 42)) (g:=w.heap.size) (Nat.le_refl _) M;have dd:=AN dz M rfl hM;have yy:=Tryz.dm_all M hM dd;have dl:=AT hM;go_enter Tryz.func34,Tryz.ntmps34;go_wp2_with (refine AP rfl (dmval M) (a1 _ _ _ _ rfl rfl rfl _) ?_)
 refine bodyPost_ret (v:=dmval M) (by simp[results,Tryz.results34,go_sem,yy,a0,a2]) rfl ?_;exact⟨rfl,b8⟩
theorem EN (l:List Dm)(r:Pl)(k:Int)(hl:l.length<=1000)(w:World)(hM:IsMs w l r):
 Calls Tryz.prog 36 #[.slice r.a l.length r.c,.int .i64 k] w fun e w'=>(∃v,e=.returned v/\w'.ownsRow w.heap.size 42 66 v (dmLess l k l.length).length (dmRows (dmLess l k l.length)))/\Below w.heap.size w w':=by
 obtain⟨i0,hi,hz0,hz1,hz2⟩:=info_parts Tryz.infoDmap3;have a5:=Tryz.dm_agg;have a8:=Tryz.dm_siz;have a1:=hid hM.bits;have Hc:=hid (fun(h:0<l.length)=>hM.rows h);clear hM;obtain⟨A3,a3⟩:=r;go_enter Tryz.func36,Tryz.ntmps36;go_wp2_with fail
 go_loopw [5,6] (fun o x W=>∃m:Nat,m<=l.length/\x=.int .i64 m/\W.ownsRow w.heap.size 42 66 o (dmLess l k m).length (dmRows (dmLess l k m))/\Below w.heap.size w W) (fun _ x _=>l.length-(intOf x).toNat)
 case atStart=>exact⟨0,Nat.zero_le _,rfl,World.ownsRow_nil _ _ _ _,Below.refl _ _⟩
 case round=>
  obtain⟨m,hm,rfl,hown,hb⟩:=hrel;by_cases hlt:m<l.length
  · by_cases hk:(m:Int)=k
    · have q1:((m:Int) !=k)=false:=by simpa using hk
      have Hs:=hid (show dmLess l k (m+1)=dmLess l k m from Ge hk);clear hk;go_wp2_with fail
      go_roundw
      case rel=>exact⟨m+1,by omega,by go_num,by rw[Hs.out];exact hown,hb⟩
      case measure=>simp[intOf];omega
    · have q1:((m:Int) !=k)=true:=by simpa using hk
      obtain⟨gb,go,ea,hgb,hcs⟩:=Hc.out (by omega);have a4:A3=some ⟨gb,go,none⟩:=ea;subst a4;have a0:=a1.out _ (List.getElem_mem hlt);have k1:=Tryz.dm_load l[m] a0 (Cr (hcs m hlt) hb);have Hs:=hid (Ee hlt hk);obtain⟨e,he⟩:∃e,l[m]=e:=⟨_,rfl⟩;rw[he]at a0 k1 Hs;have Hl:=hid (show(dmLess l k (m+1)).length=(dmLess l k m).length+1 by rw[Hs.out];simp);have Hmap:=hid (show dmRows (dmLess l k m)++dmCells e=dmRows (dmLess l k (m+1)) by rw[Bk,Hs.out]);have a2:=hid (Gc (l:=l) (k:=k) m);have a7:=a2.out;have a6:=hb.size;clear hk he hcs;generalize dmLess l k m=K at*;go_wp2_with (first|(refine Bz rfl _ (Tryz.run_bsd _ rfl e a0 rfl _) ?_)|(at_builtin;refine wpList_append_own _ rfl _ _ 31 rfl w.heap.size 42 i0 (dmval Dm.zero) 66 88 Tryz.underlying31 hi hz0 hz1 hz2 rfl (by decide) _ _ _ rfl (hown.alloc _) ⟨wr.heap.size,0,none⟩ 1 1 (dmCells e) rfl (AA a0) (World.news_of_block (Blk.new wr 42 (dmCells e).toArray)) (AZ e) (by unfold maxLen;omega) (by omega) (by simp;omega) ?_;intro v5 w5 h5 gr5 _))
      have b5:=(hb.alloc hb.size (.cells (dmCells e).toArray 42)).trans (AW (hown.alloc (.cells (dmCells e).toArray 42)) gr5 (by simp;omega));go_roundw
      case rel=>exact⟨m+1,by omega,by go_num,by rw[<-Hmap.out,Hl.out];exact h5,b5⟩
      case measure=>simp[intOf];omega
  · obtain rfl:m=l.length:=by omega
    go_wp2_with fail
    go_ret
    exact⟨⟨_,rfl,hown⟩,hb⟩
end
end Go.Proofs.YtmiilfnchfdfcaaGreatDoor
