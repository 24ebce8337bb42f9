/- Be: Jour4, Refcs, Table1, Table3, Table4, Table5, Img2, Img3, Img4. -/
import Derived.Test.YtmiilfnchfdfcaaGreatDoorBeLay5
set_option maxRecDepth 100000
set_option maxHeartbeats 40000000
set_option linter.unusedVariables false
namespace Go.Proofs.YtmiilfnchfdfcaaGreatDoor
section
open Go.RowKit Go.Shelf
attribute [local go_sem] Ad Af Ag Ab Ai Ah
theorem OB (w:World):CR 112 #[] w (.int .i64 6):=by
 go_enter Tryz.func112,Tryz.ntmps112;go_wp2_with fail
 refine(Ol _).mono ?_;rintro e w1 ⟨rfl,hb⟩;go_wp2_with fail
 go_ret
 exact⟨rfl,hb⟩
theorem Cells.off5 {w:World}{A:Option Addr}{cs:List Value}(h:Cells w A cs){g:Nat}(ho:Off g A cs.length)(v0 v1 v2 v3 v4:Value):
 Cells (((((w.setCell ⟨g,0,none⟩ v0).setCell ⟨g,1,none⟩ v1).setCell ⟨g,2,none⟩ v2).setCell ⟨g,3,none⟩ v3).setCell ⟨g,4,none⟩ v4) A cs:=
 ((((h.off (p:=⟨g,0,none⟩) ho List.length_eq_zero_iff.1 v0).off (p:=⟨g,1,none⟩) ho List.length_eq_zero_iff.1 v1).off (p:=⟨g,2,none⟩) ho List.length_eq_zero_iff.1 v2).off (p:=⟨g,3,none⟩) ho List.length_eq_zero_iff.1 v3).off (p:=⟨g,4,none⟩) ho List.length_eq_zero_iff.1 v4
theorem OA (D:Dk)(j:Jr)(L:Pn)(p q p' q':Pl)(w:World)(hD:IsDk w D p q)(h0:L.targets=[]):
 CX 75 #[dval D p q,jval j,pval L p' q'] w (RetJr w.heap.size D p q (jrCommit D j L)):=by
 have Hw:=hid (show jrCommit D j L=(D,j,0) by unfold jrCommit;rw[if_pos h0]);have a6:L.targets.length=0:=by rw[h0];rfl
 have a5:=hD.apart (Nat.le_refl _);have HD:=hid (fun(W:World)(hb:Below w.heap.size w W)=>(hD.below hb:IsDk W D p q));clear hD h0;obtain⟨A1,a1⟩:=p;obtain⟨A2,a2⟩:=q;obtain⟨B1,b1⟩:=p';obtain⟨B2,b2⟩:=q';obtain⟨sj,pj⟩:=j;have hB:=Y0 w;have x:=apc5 (Blk.new w 25) D A1 a1 A2 a2;have a0:=Ya hB x;have y:=Yd a0 30 #[.int .u64 sj,.int .i64 pj];simp only[Ys]at y;have yk:=blk2 y;have a3:=Ya a0 y;obtain⟨a7,a4⟩:=Z5 (Yc x a3);go_enter Tryz.func75,Tryz.ntmps75;go_wp2_with fail
 go_region
 go_wp2_with fail
 refine bodyPost_ret (v:=.tuple #[dval D ⟨A1,a1⟩ ⟨A2,a2⟩,jval ⟨sj,pj⟩,.int .i64 0]) (by simp[results,Tryz.results75,go_sem]) rfl ?_;refine⟨⟨_,_,by rw[Hw.out],?_,?_⟩,BB _ _ _ _ _ _⟩
 · rw[Hw.out];exact HD.out _ (BB _ _ _ _ _ _)
 · rw[Hw.out];exact fun _ _ h=>h
theorem Oz (D:Dk)(j:Jr)(L:Pn)(p q p' q':Pl)(w:World)(hD:IsDk w D p q)(h0:L.targets≠[])(hl:L.targets.length<=24)(h1:4611686018427387904<=j.seq)(h2:j.seq<18446744073709551616):
 CX 75 #[dval D p q,jval j,pval L p' q'] w (RetJr w.heap.size D p q (jrCommit D j L)):=by
 have Hw:=hid (show jrCommit D j L=(D,j,10) by unfold jrCommit;rw[if_neg h0,if_pos h1]);have ao:=List.length_pos_iff.2 h0;have an:((L.targets.length:Int)==0)=false:=by rw[beq_eq_false_iff_ne];omega
 have HD:=hid (fun(W:World)(hb:Below w.heap.size w W)=>(hD.below hb:IsDk W D p q));have g1:(4611686018427387904:Int)<=(j.seq:Int):=by omega
 clear hD h0;obtain⟨A1,a1⟩:=p;obtain⟨A2,a2⟩:=q;obtain⟨B1,b1⟩:=p';obtain⟨B2,b2⟩:=q';obtain⟨sj,pj⟩:=j;simp only at h1 h2 g1;have hB:=Y0 w;have x:=apc5 (Blk.new w 25) D A1 a1 A2 a2;have a6:=Ya hB x;have y:=Yd a6 30 #[.int .u64 sj,.int .i64 pj];simp only[Ys]at y;have a5:=Ya a6 y;have af:=Yc x a5;have z:=apc2 (Yd a5 63) L B1 b1 B2 b2;simp only[Ys]at z;have a4:=Ya a5 z;have ag:=Yc af a4;obtain⟨aj,al⟩:=Z2 (Yc y a4);have r:=Yd a4 25 #[.string (bs []),.slice none 0 0,.int .i64 0,.bool false,.slice none 0 0];simp only[Ys]at r;have a3:=Ya a4 r;have ah:=Yc ag a3;have ak:=Yc aj a3;have a8:=Yc z a3;have s:=Yd a3 30 #[.int .u64 0,.int .i64 0];simp only[Ys]at s;have a0:=Ya a3 s;obtain⟨ae,aa⟩:=Z5 (Yc ah a0);obtain⟨ai,ab⟩:=Z2 (Yc ak a0);obtain⟨am,ac⟩:=Z2 (Yc a8 a0);obtain⟨ad,a9,a7⟩:=Z5f (Yc r a0);go_enter Tryz.func75,Tryz.ntmps75;go_wp2_with fail
 go_region
 go_wp2_with fail
 refine bodyPost_ret (v:=.tuple #[dval D ⟨A1,a1⟩ ⟨A2,a2⟩,jval ⟨sj,pj⟩,.int .i64 10]) (by simp[results,Tryz.results75,go_sem]) rfl ?_;refine⟨⟨_,_,by rw[Hw.out],?_,?_⟩,BB _ _ _ _ _ _⟩
 · rw[Hw.out];exact HD.out _ (BB _ _ _ _ _ _)
 · rw[Hw.out];exact fun _ _ h=>h
theorem Oy (D:Dk)(j:Jr)(L:Pn)(p q p' q':Pl)(w:World)(hD:IsDk w D p q)(hL:IsPn w L p' q')(hf:D.fit=true)(hfl:L.Fit)(h0:L.targets≠[])(h1:j.seq<4611686018427387904)(h2: -9223372036854775808<=j.pos/\j.pos<=9223372036854775807):
 CX 75 #[dval D p q,jval j,pval L p' q'] w (RetJr w.heap.size D p q (jrCommit D j L)):=by
 obtain⟨r1,r2,r3,r4⟩:=GD (j:=j) hfl h0;have c1:=fun(W:World)(hb:Below w.heap.size w W)=>Ou ⟨j.seq,L⟩ p' q' W (hL.below hb) (by simp only;omega)
 rw[r1]at c1;have bx:=Di (pos:=j.pos) (size:=((jrRows j L).length:Int)) (by omega) (by omega);have c2:=fun(W:World)=>OE j.pos ((jrRows j L).length:Int) h2 ⟨by omega,by omega⟩ W
 have aj:=hid (show jrCommit D j L=if(comSteps D (6+jrAt j L) (jrRows j L) L).2≠0 then((comSteps D (6+jrAt j L) (jrRows j L) L).1,j,(comSteps D (6+jrAt j L) (jrRows j L) L).2)
  else((comSteps D (6+jrAt j L) (jrRows j L) L).1,⟨j.seq+1,jrAt j L+(jrRows j L).length⟩,0) by
  unfold jrCommit;rw[if_neg h0,if_neg (by omega)])
 have e1:jrAt j L=jrPlace j.pos ((jrRows j L).length:Int):=rfl;rw[e1]at aj;clear e1 r1;generalize jrRows j L=R at*;generalize jrPlace j.pos (R.length:Int)=at_ at*;have bA:=List.length_pos_iff.2 h0;have bp:=hfl.2.1;have bz:((L.targets.length:Int)==0)=false:=by rw[beq_eq_false_iff_ne];omega
 have HD:=hid (fun(W:World)(hb:Below w.heap.size w W)=>(hD.below hb:IsDk W D p q));have aZ:=hid (fun g (hg:w.heap.size<=g)=>hD.apart hg);have HL:=hid (fun(W:World)(hb:Below w.heap.size w W)=>(hL.below hb:IsPn W L p' q'));have g1:¬(4611686018427387904:Int)<=(j.seq:Int):=by omega
 have w7:=i64w (x:=at_+(R.length:Int)) ⟨by omega,by omega⟩;have w8:=u64w (x:=(j.seq:Int)+1) ⟨by omega,by omega⟩;have bn:=hid hfl.1;have bo:=fun(W:World)(hb:Below w.heap.size w W)=>DB D p q W (hD.below hb) hf
 have hFf:=Dk.flush_fit hf;have ax:=hid (show comSteps D (6+at_) R L=Dk.next (Dk.next (Dk.next D.flush (Dk.layIn (rowsFrom (6+at_) R))) Dk.flush) fun E=>Pn.lay E L from rfl);generalize comSteps D (6+at_) R L=X at*;generalize D.flush=F at*;obtain⟨F,f⟩:=F;clear hD hL h0 hfl hf;obtain⟨A1,a1⟩:=p;obtain⟨A2,a2⟩:=q;obtain⟨B1,b1⟩:=p';obtain⟨B2,b2⟩:=q';obtain⟨sj,pj⟩:=j;simp only at h1 h2 g1 c1 c2 w8 hFf;have hB:=Y0 w;obtain⟨x,xk⟩:=Z5 (apc5 (Blk.new w 25) D A1 a1 A2 a2);have ao:=Ya hB x;have y:=Yd ao 30 #[.int .u64 sj,.int .i64 pj];simp only[Ys]at y;have yk:=blk2 y;have ae:=Ya ao y;have bh:=Yc x ae;have z:=apc2 (Yd ae 63) L B1 b1 B2 b2;simp only[Ys]at z;have ac:=Ya ae z;have bi:=Yc bh ac;have bk:=Yc y ac;have r:=Yd ac 25 #[.string (bs []),.slice none 0 0,.int .i64 0,.bool false,.slice none 0 0];simp only[Ys]at r;have aa:=Ya ac r;have bj:=Yc bi aa;have bm:=Yc bk aa;have aU:=Yc z aa;have s:=Yd aa 30 #[.int .u64 0,.int .i64 0];simp only[Ys]at s;have a4:=Ya aa s;obtain⟨aM,aO⟩:=Z5 (Yc bj a4);obtain⟨aQ,aS⟩:=Z2 (Yc bm a4);obtain⟨aV,aX⟩:=Z2 (Yc aU a4);have aJ:=Yc r a4;have bq:=s.lt;go_enter Tryz.func75,Tryz.ntmps75;go_wp2_with fail
 refine((bo _ a4)).mono ?_;rintro e w1 ⟨⟨p1,q1,rfl,i1,o1⟩,hb1⟩;replace hB:=bt a4 hb1;replace x:=aM.bl hb1;replace xk:=blk5 x;replace y:=aQ.bl hb1;replace yk:=blk2 y;replace z:=aV.bl hb1;replace r:=aJ.bl hb1;replace s:=s.bl hb1;clear ao ae bh ac bi bk aa bj bm aU a4 aO aM aS aQ aX aV aJ;simp only at i1 o1;have xf:=x.fz;have od:=o1 w.heap.size (by omega) (aZ.out _ (Nat.le_refl _));have or:=o1 (w.heap.size+1+1+1) (by omega) (aZ.out _ (by omega));have os:=o1 (w.heap.size+1+1+1+1) (by omega) (aZ.out _ (by omega));have ab:=hid (fun b (hb:b<w.heap.size)=>o1 b (by omega));have Hoa:∀b,b<=w.heap.size+1+1+1+1->(b<w.heap.size->DkOff b D ⟨A1,a1⟩ ⟨A2,a2⟩)->DkOff b F p1 q1:=fun b h1 h2=>o1 b (by omega) (by rcases Nat.lt_or_ge b w.heap.size with h|h;(exact h2 h);(exact aZ.out _ h))
 clear o1 bq;have a0:=ap5 (Ao hB (g:=w.heap.size) (by omega)) F p1.a p1.c q1.a q1.c;obtain⟨aN,aP⟩:=Z5 (Yj x a0);obtain⟨aR,aT⟩:=Z2 (Yi y a0 (by omega));obtain⟨aW,aY⟩:=Z2 (Yi z a0 (by omega));obtain⟨aq,aK⟩:=Z5 (Yi r a0 (by omega));obtain⟨au,aL⟩:=Z2 (Yi s a0 (by omega));have ad:=i1.ob a0 (by assumption);by_cases hf0:f=0
 case neg=>
  have hX:X=(F,f):=by rw[ax.out,Dk.next_err (X:=(F,f)) hf0,Dk.next_err (X:=(F,f)) hf0,Dk.next_err (X:=(F,f)) hf0]
  have Hw:=hid (show jrCommit D ⟨sj,pj⟩ L=(F,⟨sj,pj⟩,f) by rw[aj.out,hX,if_pos hf0]);have n1:(f !=0)=true:=by simpa using hf0
  clear hX hf0;have rq:=aq;have sq:=au;have kr:=blk5 rq;have ks:=blk2 sq;have fr:=rq.fz;have fs:=sq.fz;go_wp2_with fail
  go_region
  have r7:=(AQ (ap5 (Ap rq) F p1.a p1.c q1.a q1.c) (g:=w.heap.size+1+1+1+1) (by omega) (.int .u64 (sj:Int)) (.int .i64 pj)).drew;have s7:=(Aj (ap5 (Au sq (g:=w.heap.size+1+1+1) (by omega)) F p1.a p1.c q1.a q1.c) (.int .u64 (sj:Int)) (.int .i64 pj)).drew;have i7:=((ap5 (ad.off5 or) F p1.a p1.c q1.a q1.c).off (a:=⟨w.heap.size+1+1+1+1,0,none⟩) os (.int .u64 (sj:Int))).off (a:=⟨w.heap.size+1+1+1+1,1,none⟩) os (.int .i64 pj);have B7:=(Ae (ap5 (Ao a0 (g:=w.heap.size+1+1+1) (by omega)) F p1.a p1.c q1.a q1.c) (g:=w.heap.size+1+1+1+1) (by omega) (.int .u64 (sj:Int)) (.int .i64 pj)).drew;have yr:=blk5 r7;have ys:=blk2 s7;go_wp2_with fail
  refine bodyPost_ret (v:=.tuple #[dval F p1 q1,.agg #[.int .u64 (sj:Int),.int .i64 pj],.int .i64 f]) (by simp[results,Tryz.results75,go_sem,yr,ys]) rfl ?_;exact⟨⟨p1,q1,by rw[Hw.out],by rw[Hw.out];exact i7.below (Below.refl _ _).drew,by rw[Hw.out];exact fun b hb h=>ab.out b hb h⟩,B7⟩
 subst hf0;have ah:=hid (show X=Dk.next (Dk.next (Dk.layIn (rowsFrom (6+at_) R) F) Dk.flush) fun E=>Pn.lay E L by rw[ax.out,Dk.next_zero (X:=(F,0)) rfl]);have bE:w.heap.size<w1.heap.size:=x.lt;go_wp2_with fail
 refine((c1 _ a0)).mono ?_;rintro e w2 ⟨⟨v1,rfl,own1⟩,hb2⟩;replace hB:=bt a0 hb2;replace x:=aN.bl hb2;replace xk:=blk5 x;replace y:=aR.bl hb2;replace yk:=blk2 y;replace z:=aW.bl hb2;replace r:=aq.bl hb2;replace s:=au.bl hb2;replace i1:=ad.below hb2;clear a0 aP aN aT aR aY aW aK aq aL au ad;simp only at own1;obtain⟨C1,d1,rfl,u1,u2,u3⟩:=Aw own1;have oR:Off w.heap.size C1 R.length:=A7 own1 (by simp;omega);have cc1:=Cells.of_own own1;go_wp2_with fail
 refine((c2 _)).mono ?_;rintro e w3 ⟨rfl,hb3⟩;replace hB:=bt hB hb3;replace x:=x.bl hb3;replace xk:=blk5 x;replace y:=y.bl hb3;replace yk:=blk2 y;replace z:=z.bl hb3;replace r:=r.bl hb3;replace s:=s.bl hb3;replace i1:=i1.below hb3;replace cc1:=cc1.below hb3;go_wp2_with fail
 go_loopw [12] (fun u W=>∃(i:Nat)(E:Dk)(pe qe:Pl),i<=R.length/\u=.int .i64 i/\Hid (Dk.layIn ((rowsFrom (6+at_) R).take i) F=(E,0))/\Hid (E.fit=true)/\Blk W w.heap.size 25 #[.string (bs E.data),.slice pe.a E.cache.length pe.c,.int .i64 E.fuse,.bool E.off,.slice qe.a E.bad.length qe.c]/\IsDk W E pe qe/\Hid (∀b,b<=w.heap.size+1+1+1+1->(b<w.heap.size->DkOff b D ⟨A1,a1⟩ ⟨A2,a2⟩)->DkOff b E pe qe)/\
  Blk W (w.heap.size+1) 30 #[.int .u64 sj,.int .i64 pj]/\Blk W (w.heap.size+1+1) 63 #[.slice B1 L.targets.length b1,.slice B2 L.data.length b2]/\Blk W (w.heap.size+1+1+1) 25 #[.string (bs []),.slice none 0 0,.int .i64 0,.bool false,.slice none 0 0]/\Blk W (w.heap.size+1+1+1+1) 30 #[.int .u64 0,.int .i64 0]/\Cells W C1 (strCells R)/\Below w.heap.size w W) (fun u _=>R.length-(intOf u).toNat)
 case atStart=>exact⟨0,F,p1,q1,Nat.zero_le _,rfl,hid rfl,hid hFf,x,i1,hid Hoa,y,z,r,s,cc1,hB⟩
 case round=>
  obtain⟨i,E,pe,qe,hi,rfl,hE,hEf,hx,hIs,hoff,hy,hz,hr,hs,hC,hb⟩:=hrel;have fx:=hx.fz;by_cases hlt:i<R.length
  · obtain⟨cb,co,rfl,hcell⟩:=hC.str hlt;replace hcell:=hcell i hlt;have br:=r3 _ (List.getElem_mem hlt);obtain⟨⟨G,er⟩,hG⟩:∃X',E.write (6+at_+i) R[i]=X':=⟨_,rfl⟩;have hZ:i<(rowsFrom (6+at_) R).length:=by rw[Bf];exact hlt
    have Hn:=hid (show Dk.layIn ((rowsFrom (6+at_) R).take (i+1)) F=(G,er) by
     rw[List.take_succ_eq_append_getElem hZ,Dk.layIn_snoc _ _ _ (by rw[hE.out]),hE.out,Cs R (6+at_) i hlt];exact hG)
    have Hnf:=hid (show G.fit=true by have:=Dk.write_fit hEf.out (6+at_+i) R[i];rw[hG]at this;exact this);have av:=hid (fun(h:er≠0)=>show X=(G,er) by
     have e:rowsFrom (6+at_) R=(rowsFrom (6+at_) R).take (i+1)++(rowsFrom (6+at_) R).drop (i+1):=(List.take_append_drop _ _).symm;have e2:Dk.layIn (rowsFrom (6+at_) R) F=(G,er):=by
      rw[e,Dk.layIn_stop _ _ _ (by rw[Hn.out];exact h),Hn.out]
     rw[ah.out,e2,Dk.next_err (X:=(G,er)) h,Dk.next_err (X:=(G,er)) h])
    have hw:=fun(W:World)(hb:Below wr.heap.size wr W)=>DD E pe qe W (hIs.below hb) (6+at_+i) ⟨by omega,by omega⟩ R[i] (by omega)
    simp only[hG]at hw;clear hE hG hZ;generalize R[i]=sec at*;have wa:=i64w (x:=6+at_) ⟨by omega,by omega⟩;have bF:(0:Int)<=(i:Int):=by omega
    have bG:(i:Int)<(R.length:Int):=by omega
    have wb:=i64w (x:=6+at_+(i:Int)) ⟨by omega,by omega⟩;have KS:=fun(U:World)(hb:Below wr.heap.size wr U)=>And.intro (blk5 (hx.bl hb)) (Av hb hcell)
    have a6:=(Y0 wr).drew;have a8:Below wr.heap.size wr ((wr.alloc (.cells #[.string (bs []),.slice none 0 0,.int .i64 0,.bool false,.slice none 0 0] 25)).drew):=(Yz (W:=wr) (.cells #[.string (bs []),.slice none 0 0,.int .i64 0,.bool false,.slice none 0 0] 25)).drew;have rn:Blk ((wr.alloc (.cells #[.string (bs []),.slice none 0 0,.int .i64 0,.bool false,.slice none 0 0] 25)).drew) wr.heap.size 25 #[.string (bs []),.slice none 0 0,.int .i64 0,.bool false,.slice none 0 0]:=(Blk.new wr 25 #[.string (bs []),.slice none 0 0,.int .i64 0,.bool false,.slice none 0 0]).drew;go_wp2_with fail
    go_region_held3 (fun W=>(W.cell? ⟨w.heap.size,0,none⟩=some (.string (bs E.data))/\W.cell? ⟨w.heap.size,1,none⟩=some (.slice pe.a E.cache.length pe.c)/\W.cell? ⟨w.heap.size,2,none⟩=some (.int .i64 E.fuse)/\W.cell? ⟨w.heap.size,3,none⟩=some (.bool E.off)/\W.cell? ⟨w.heap.size,4,none⟩=some (.slice qe.a E.bad.length qe.c))/\W.cell? ⟨cb,co+i,none⟩=some (.string (bs sec)))
     (first|exact KS _ a6|exact KS _ a8|exact KS _ (bt a6 hbf)|exact KS _ (bt a8 hbf)|exact KS _ ((bt a6 hbf).alloc (bt a6 hbf).size _)|exact KS _ hbw|exact KS _ (hbw.alloc hbw.size _)|exact KS _ (Ao hbw hg7 _ _ _ _ _))
     (first|(go_at_call 112;refine(OB _).mono ?_;rintro e W1 ⟨rfl,hbf⟩)|(go_at_call 62;refine(hw _ (bt a6 hbf)).mono ?_;rintro e W2 ⟨⟨p2,q2,rfl,i2,o2⟩,hbl⟩;have hbw:=bt (bt a6 hbf) hbl;have an:=fun g (hg:g<wr.heap.size)=>o2 g (Nat.lt_of_lt_of_le hg (bt a6 hbf).size))|(go_at_call 62;refine(hw _ (bt a8 hbf)).mono ?_;rintro e W2 ⟨⟨p2,q2,rfl,i2,o2⟩,hbl⟩;have hbw:=bt (bt a8 hbf) hbl;have an:=fun g (hg:g<wr.heap.size)=>o2 g (Nat.lt_of_lt_of_le hg (bt a8 hbf).size);have hg7:=Nat.le_refl wr.heap.size;have rl:=Nat.lt_of_lt_of_le rn.lt hbf.size;have ar:=(rn.bl hbf).below hbl rl;have bw:=blk5 ar;have bv:=ar.frozen;have b6:=o2 wr.heap.size rl (hIs.apart (Nat.le_refl _)))|(go_at_call 62;refine(hw _ ((bt a6 hbf).alloc (bt a6 hbf).size (.cells #[.string (bs []),.slice none 0 0,.int .i64 0,.bool false,.slice none 0 0] 25))).mono ?_;rintro e W2 ⟨⟨p2,q2,rfl,i2,o2⟩,hbl⟩;have hbw:=bt ((bt a6 hbf).alloc (bt a6 hbf).size (.cells #[.string (bs []),.slice none 0 0,.int .i64 0,.bool false,.slice none 0 0] 25)) hbl;have an:=fun g (hg:g<wr.heap.size)=>o2 g (Nat.lt_of_lt_of_le hg ((bt a6 hbf).alloc (bt a6 hbf).size (.cells #[.string (bs []),.slice none 0 0,.int .i64 0,.bool false,.slice none 0 0] 25)).size);have hg7:=(bt a6 hbf).size;have bg:=Blk.new W1 25 #[.string (bs []),.slice none 0 0,.int .i64 0,.bool false,.slice none 0 0];have ar:=bg.bl hbl;have bw:=blk5 ar;have bv:=ar.frozen;have b6:=o2 W1.heap.size bg.lt ((hIs.below (bt a6 hbf)).apart (Nat.le_refl _))))
    · have bB:=hbw.size;have aw:=apc5 (Blk.new W2 25) G p2.a p2.c q2.a q2.c;have a3:=Ya hbw aw;have i7:=i2.below (Yz (W:=W2) (.cells #[.string (bs G.data),.slice p2.a G.cache.length p2.c,.int .i64 G.fuse,.bool G.off,.slice q2.a G.bad.length q2.c] 25));have bd7:=hx.bl a3;have by7:=hy.bl a3;have bz7:=hz.bl a3;have br7:=hr.bl a3;have bs7:=hs.bl a3;have c7:=hC.below a3;have b7:=bt hb a3;have a7:=hid (fun b (g1:b<=w.heap.size+1+1+1+1)(g2:b<w.heap.size->DkOff b D ⟨A1,a1⟩ ⟨A2,a2⟩)=>an b (Nat.lt_of_le_of_lt g1 hs.lt) (hoff.out b g1 g2));have od:DkOff w.heap.size G p2 q2:=a7.out _ (by omega) (fun h=>absurd h (by omega));have or:DkOff (w.heap.size+1+1+1) G p2 q2:=a7.out _ (by omega) (fun h=>absurd h (by omega));have os:DkOff (w.heap.size+1+1+1+1) G p2 q2:=a7.out _ (by omega) (fun h=>absurd h (by omega));have oc:Off w.heap.size (some ⟨cb,co,none⟩) (strCells R).length:=by rw[strCells_length];exact oR
      clear fx KS a6 a8 hw hbw a3 hbl hbf i2 o2 an hcell hx hy hz hr hs hC hb;generalize W2.alloc (.cells #[.string (bs G.data),.slice p2.a G.cache.length p2.c,.int .i64 G.fuse,.bool G.off,.slice q2.a G.bad.length q2.c] 25)=U at*;have kt:=blk5 aw;have fd:=bd7.fz;by_cases he:er=0
      · subst he;go_wp2_with fail
        go_roundw
        case rel=>exact⟨i+1,G,p2,q2,by omega,by go_num,Hn,Hnf,ap5 (Ap bd7) G p2.a p2.c q2.a q2.c,ap5 (i7.off5 od) G p2.a p2.c q2.a q2.c,a7,ap5 (Au by7 (by omega)) G p2.a p2.c q2.a q2.c,ap5 (Au bz7 (by omega)) G p2.a p2.c q2.a q2.c,ap5 (Au br7 (by omega)) G p2.a p2.c q2.a q2.c,ap5 (Au bs7 (by omega)) G p2.a p2.c q2.a q2.c,ap5 (c7.off5 oc) G p2.a p2.c q2.a q2.c,ap5 (Ao b7 (Nat.le_refl _)) G p2.a p2.c q2.a q2.c⟩
        case measure=>simp[intOf];omega
      · have hX:=av.out he;have Hw:=hid (show jrCommit D ⟨sj,pj⟩ L=(G,⟨sj,pj⟩,er) by rw[aj.out,hX,if_pos he]);have n1:(er !=0)=true:=by simpa using he
        have ab:=hid (fun b (hb:b<w.heap.size)(h:DkOff b D ⟨A1,a1⟩ ⟨A2,a2⟩)=>a7.out b (by omega) (fun _=>h));clear hX he av;have bd:=blk5 (ap5 (Ap bd7) G p2.a p2.c q2.a q2.c);have bf:=blk2 (ap5 (Au by7 (g:=w.heap.size) (by omega)) G p2.a p2.c q2.a q2.c);have rq:=(ap5 (Au br7 (g:=w.heap.size) (by omega)) G p2.a p2.c q2.a q2.c);have sq:=(ap5 (Au bs7 (g:=w.heap.size) (by omega)) G p2.a p2.c q2.a q2.c);have kr:=blk5 rq;have ks:=blk2 sq;have fr:=rq.fz;have fs:=sq.fz;go_wp2_with fail
        go_region
        have r7:=(AQ (ap5 (Ap rq) G p2.a p2.c q2.a q2.c) (g:=w.heap.size+1+1+1+1) (by omega) (.int .u64 (sj:Int)) (.int .i64 pj)).drew;have s7:=(Aj (ap5 (Au sq (g:=w.heap.size+1+1+1) (by omega)) G p2.a p2.c q2.a q2.c) (.int .u64 (sj:Int)) (.int .i64 pj)).drew;have i7:=((ap5 ((ap5 (i7.off5 od) G p2.a p2.c q2.a q2.c).off5 or) G p2.a p2.c q2.a q2.c).off (a:=⟨w.heap.size+1+1+1+1,0,none⟩) os (.int .u64 (sj:Int))).off (a:=⟨w.heap.size+1+1+1+1,1,none⟩) os (.int .i64 pj);have B7:=(Ae (ap5 (Ao (ap5 (Ao b7 (Nat.le_refl _)) G p2.a p2.c q2.a q2.c) (g:=w.heap.size+1+1+1) (by omega)) G p2.a p2.c q2.a q2.c) (g:=w.heap.size+1+1+1+1) (by omega) (.int .u64 (sj:Int)) (.int .i64 pj)).drew;have yr:=blk5 r7;have ys:=blk2 s7;go_wp2_with fail
        refine bodyPost_ret (v:=.tuple #[dval G p2 q2,.agg #[.int .u64 (sj:Int),.int .i64 pj],.int .i64 er]) (by simp[results,Tryz.results75,go_sem,yr,ys]) rfl ?_;exact⟨⟨p2,q2,by rw[Hw.out],by rw[Hw.out];exact i7.below (Below.refl _ _).drew,by rw[Hw.out];exact fun b hb h=>ab.out b hb h⟩,B7⟩
    · have bC:=hbw.size;have aw:=ap5 (Ap ar) G p2.a p2.c q2.a q2.c;have a3:=ap5 (Ao hbw (g:=W1.heap.size) hg7) G p2.a p2.c q2.a q2.c;have i7:=ap5 (i2.off5 (g:=W1.heap.size) b6) G p2.a p2.c q2.a q2.c;have bd7:=hx.bl a3;have by7:=hy.bl a3;have bz7:=hz.bl a3;have br7:=hr.bl a3;have bs7:=hs.bl a3;have c7:=hC.below a3;have b7:=bt hb a3;have a7:=hid (fun b (g1:b<=w.heap.size+1+1+1+1)(g2:b<w.heap.size->DkOff b D ⟨A1,a1⟩ ⟨A2,a2⟩)=>an b (Nat.lt_of_le_of_lt g1 hs.lt) (hoff.out b g1 g2));have od:DkOff w.heap.size G p2 q2:=a7.out _ (by omega) (fun h=>absurd h (by omega));have or:DkOff (w.heap.size+1+1+1) G p2 q2:=a7.out _ (by omega) (fun h=>absurd h (by omega));have os:DkOff (w.heap.size+1+1+1+1) G p2 q2:=a7.out _ (by omega) (fun h=>absurd h (by omega));have oc:Off w.heap.size (some ⟨cb,co,none⟩) (strCells R).length:=by rw[strCells_length];exact oR
      clear fx KS a6 a8 hw hbw a3 hbl hbf i2 o2 an hcell hx hy hz hr hs hC hb;generalize (((((W2.setCell ⟨W1.heap.size,0,none⟩ (.string (bs G.data))).setCell ⟨W1.heap.size,1,none⟩ (.slice p2.a G.cache.length p2.c)).setCell ⟨W1.heap.size,2,none⟩ (.int .i64 G.fuse)).setCell ⟨W1.heap.size,3,none⟩ (.bool G.off)).setCell ⟨W1.heap.size,4,none⟩ (.slice q2.a G.bad.length q2.c))=U at*;have kt:=blk5 aw;have fd:=bd7.fz;by_cases he:er=0
      · subst he;go_wp2_with fail
        go_roundw
        case rel=>exact⟨i+1,G,p2,q2,by omega,by go_num,Hn,Hnf,ap5 (Ap bd7) G p2.a p2.c q2.a q2.c,ap5 (i7.off5 od) G p2.a p2.c q2.a q2.c,a7,ap5 (Au by7 (by omega)) G p2.a p2.c q2.a q2.c,ap5 (Au bz7 (by omega)) G p2.a p2.c q2.a q2.c,ap5 (Au br7 (by omega)) G p2.a p2.c q2.a q2.c,ap5 (Au bs7 (by omega)) G p2.a p2.c q2.a q2.c,ap5 (c7.off5 oc) G p2.a p2.c q2.a q2.c,ap5 (Ao b7 (Nat.le_refl _)) G p2.a p2.c q2.a q2.c⟩
        case measure=>simp[intOf];omega
      · have hX:=av.out he;have Hw:=hid (show jrCommit D ⟨sj,pj⟩ L=(G,⟨sj,pj⟩,er) by rw[aj.out,hX,if_pos he]);have n1:(er !=0)=true:=by simpa using he
        have ab:=hid (fun b (hb:b<w.heap.size)(h:DkOff b D ⟨A1,a1⟩ ⟨A2,a2⟩)=>a7.out b (by omega) (fun _=>h));clear hX he av;have bd:=blk5 (ap5 (Ap bd7) G p2.a p2.c q2.a q2.c);have bf:=blk2 (ap5 (Au by7 (g:=w.heap.size) (by omega)) G p2.a p2.c q2.a q2.c);have rq:=(ap5 (Au br7 (g:=w.heap.size) (by omega)) G p2.a p2.c q2.a q2.c);have sq:=(ap5 (Au bs7 (g:=w.heap.size) (by omega)) G p2.a p2.c q2.a q2.c);have kr:=blk5 rq;have ks:=blk2 sq;have fr:=rq.fz;have fs:=sq.fz;go_wp2_with fail
        go_region
        have r7:=(AQ (ap5 (Ap rq) G p2.a p2.c q2.a q2.c) (g:=w.heap.size+1+1+1+1) (by omega) (.int .u64 (sj:Int)) (.int .i64 pj)).drew;have s7:=(Aj (ap5 (Au sq (g:=w.heap.size+1+1+1) (by omega)) G p2.a p2.c q2.a q2.c) (.int .u64 (sj:Int)) (.int .i64 pj)).drew;have i7:=((ap5 ((ap5 (i7.off5 od) G p2.a p2.c q2.a q2.c).off5 or) G p2.a p2.c q2.a q2.c).off (a:=⟨w.heap.size+1+1+1+1,0,none⟩) os (.int .u64 (sj:Int))).off (a:=⟨w.heap.size+1+1+1+1,1,none⟩) os (.int .i64 pj);have B7:=(Ae (ap5 (Ao (ap5 (Ao b7 (Nat.le_refl _)) G p2.a p2.c q2.a q2.c) (g:=w.heap.size+1+1+1) (by omega)) G p2.a p2.c q2.a q2.c) (g:=w.heap.size+1+1+1+1) (by omega) (.int .u64 (sj:Int)) (.int .i64 pj)).drew;have yr:=blk5 r7;have ys:=blk2 s7;go_wp2_with fail
        refine bodyPost_ret (v:=.tuple #[dval G p2 q2,.agg #[.int .u64 (sj:Int),.int .i64 pj],.int .i64 er]) (by simp[results,Tryz.results75,go_sem,yr,ys]) rfl ?_;exact⟨⟨p2,q2,by rw[Hw.out],by rw[Hw.out];exact i7.below (Below.refl _ _).drew,by rw[Hw.out];exact fun b hb h=>ab.out b hb h⟩,B7⟩
    · have bD:=hbw.size;have aw:=ap5 (Ap ar) G p2.a p2.c q2.a q2.c;have a3:=ap5 (Ao hbw (g:=wr.heap.size) hg7) G p2.a p2.c q2.a q2.c;have i7:=ap5 (i2.off5 (g:=wr.heap.size) b6) G p2.a p2.c q2.a q2.c;have bd7:=hx.bl a3;have by7:=hy.bl a3;have bz7:=hz.bl a3;have br7:=hr.bl a3;have bs7:=hs.bl a3;have c7:=hC.below a3;have b7:=bt hb a3;have a7:=hid (fun b (g1:b<=w.heap.size+1+1+1+1)(g2:b<w.heap.size->DkOff b D ⟨A1,a1⟩ ⟨A2,a2⟩)=>an b (Nat.lt_of_le_of_lt g1 hs.lt) (hoff.out b g1 g2));have od:DkOff w.heap.size G p2 q2:=a7.out _ (by omega) (fun h=>absurd h (by omega));have or:DkOff (w.heap.size+1+1+1) G p2 q2:=a7.out _ (by omega) (fun h=>absurd h (by omega));have os:DkOff (w.heap.size+1+1+1+1) G p2 q2:=a7.out _ (by omega) (fun h=>absurd h (by omega));have oc:Off w.heap.size (some ⟨cb,co,none⟩) (strCells R).length:=by rw[strCells_length];exact oR
      clear fx KS a6 a8 hw hbw a3 hbl hbf i2 o2 an hcell hx hy hz hr hs hC hb;generalize (((((W2.setCell ⟨wr.heap.size,0,none⟩ (.string (bs G.data))).setCell ⟨wr.heap.size,1,none⟩ (.slice p2.a G.cache.length p2.c)).setCell ⟨wr.heap.size,2,none⟩ (.int .i64 G.fuse)).setCell ⟨wr.heap.size,3,none⟩ (.bool G.off)).setCell ⟨wr.heap.size,4,none⟩ (.slice q2.a G.bad.length q2.c))=U at*;have kt:=blk5 aw;have fd:=bd7.fz;by_cases he:er=0
      · subst he;go_wp2_with fail
        go_roundw
        case rel=>exact⟨i+1,G,p2,q2,by omega,by go_num,Hn,Hnf,ap5 (Ap bd7) G p2.a p2.c q2.a q2.c,ap5 (i7.off5 od) G p2.a p2.c q2.a q2.c,a7,ap5 (Au by7 (by omega)) G p2.a p2.c q2.a q2.c,ap5 (Au bz7 (by omega)) G p2.a p2.c q2.a q2.c,ap5 (Au br7 (by omega)) G p2.a p2.c q2.a q2.c,ap5 (Au bs7 (by omega)) G p2.a p2.c q2.a q2.c,ap5 (c7.off5 oc) G p2.a p2.c q2.a q2.c,ap5 (Ao b7 (Nat.le_refl _)) G p2.a p2.c q2.a q2.c⟩
        case measure=>simp[intOf];omega
      · have hX:=av.out he;have Hw:=hid (show jrCommit D ⟨sj,pj⟩ L=(G,⟨sj,pj⟩,er) by rw[aj.out,hX,if_pos he]);have n1:(er !=0)=true:=by simpa using he
        have ab:=hid (fun b (hb:b<w.heap.size)(h:DkOff b D ⟨A1,a1⟩ ⟨A2,a2⟩)=>a7.out b (by omega) (fun _=>h));clear hX he av;have bd:=blk5 (ap5 (Ap bd7) G p2.a p2.c q2.a q2.c);have bf:=blk2 (ap5 (Au by7 (g:=w.heap.size) (by omega)) G p2.a p2.c q2.a q2.c);have rq:=(ap5 (Au br7 (g:=w.heap.size) (by omega)) G p2.a p2.c q2.a q2.c);have sq:=(ap5 (Au bs7 (g:=w.heap.size) (by omega)) G p2.a p2.c q2.a q2.c);have kr:=blk5 rq;have ks:=blk2 sq;have fr:=rq.fz;have fs:=sq.fz;go_wp2_with fail
        go_region
        have r7:=(AQ (ap5 (Ap rq) G p2.a p2.c q2.a q2.c) (g:=w.heap.size+1+1+1+1) (by omega) (.int .u64 (sj:Int)) (.int .i64 pj)).drew;have s7:=(Aj (ap5 (Au sq (g:=w.heap.size+1+1+1) (by omega)) G p2.a p2.c q2.a q2.c) (.int .u64 (sj:Int)) (.int .i64 pj)).drew;have i7:=((ap5 ((ap5 (i7.off5 od) G p2.a p2.c q2.a q2.c).off5 or) G p2.a p2.c q2.a q2.c).off (a:=⟨w.heap.size+1+1+1+1,0,none⟩) os (.int .u64 (sj:Int))).off (a:=⟨w.heap.size+1+1+1+1,1,none⟩) os (.int .i64 pj);have B7:=(Ae (ap5 (Ao (ap5 (Ao b7 (Nat.le_refl _)) G p2.a p2.c q2.a q2.c) (g:=w.heap.size+1+1+1) (by omega)) G p2.a p2.c q2.a q2.c) (g:=w.heap.size+1+1+1+1) (by omega) (.int .u64 (sj:Int)) (.int .i64 pj)).drew;have yr:=blk5 r7;have ys:=blk2 s7;go_wp2_with fail
        refine bodyPost_ret (v:=.tuple #[dval G p2 q2,.agg #[.int .u64 (sj:Int),.int .i64 pj],.int .i64 er]) (by simp[results,Tryz.results75,go_sem,yr,ys]) rfl ?_;exact⟨⟨p2,q2,by rw[Hw.out],by rw[Hw.out];exact i7.below (Below.refl _ _).drew,by rw[Hw.out];exact fun b hb h=>ab.out b hb h⟩,B7⟩
  · obtain rfl:i=R.length:=by omega
    have b8:Dk.layIn (rowsFrom (6+at_) R) F=(E,0):=by
     have:=hE.out
     rwa [List.take_of_length_le (by rw[Bf];exact Nat.le_refl _)]at this
    have ai:=hid (show X=Dk.next E.flush fun U=>Pn.lay U L by rw[ah.out,b8,Dk.next_zero (X:=(E,0)) rfl]);have b9:=fun(W:World)(h:IsDk W E pe qe)=>DB E pe qe W h hEf.out
    generalize E.flush=Y at*;obtain⟨H,h⟩:=Y;clear b8 hE hC fx c1 c2 hEf;have az:=hs.lt;have b4:=blk5 hx;go_wp2_with fail
    refine(b9 _ hIs).mono ?_;rintro e w4 ⟨⟨p3,q3,rfl,i3,o3⟩,hb4⟩;simp only at i3 o3;have H3:=hid (fun b (g1:b<=w.heap.size+1+1+1+1)(g2:b<w.heap.size->DkOff b D ⟨A1,a1⟩ ⟨A2,a2⟩)=>o3 b (Nat.lt_of_le_of_lt g1 az) (hoff.out b g1 g2));have bH:=H3.out w.heap.size (by omega) (fun h=>absurd h (by omega));have or:=H3.out (w.heap.size+1+1+1) (by omega) (fun h=>absurd h (by omega));have os:=H3.out (w.heap.size+1+1+1+1) (by omega) (fun h=>absurd h (by omega));have ab:=hid (fun b (hb:b<w.heap.size)(h:DkOff b D ⟨A1,a1⟩ ⟨A2,a2⟩)=>H3.out b (by omega) (fun _=>h));clear o3 az;have hx:=hx.bl hb4;have hy:=hy.bl hb4;have hz:=hz.bl hb4;have hr:=hr.bl hb4;have hs:=hs.bl hb4;have hb:=bt hb hb4;clear b4 b9;have b4:=blk5 hx;have fx:=hx.fz;have a5:=ap5 (Ao hb (g:=w.heap.size) (by omega)) H p3.a p3.c q3.a q3.c;obtain⟨aB,aG⟩:=Z5 (Yj hx a5);obtain⟨aC,aH⟩:=Z2 (Yi hy a5 (by omega));obtain⟨aD,aI⟩:=Z2 (Yi hz a5 (by omega));obtain⟨ap,aE⟩:=Z5 (Yi hr a5 (by omega));obtain⟨af,aF⟩:=Z2 (Yi hs a5 (by omega));have ag:=i3.ob a5 (by assumption);by_cases hh:h=0
    case neg=>
     have hX:X=(H,h):=by rw[ai.out,Dk.next_err (X:=(H,h)) hh]
     have Hw:=hid (show jrCommit D ⟨sj,pj⟩ L=(H,⟨sj,pj⟩,h) by rw[aj.out,hX,if_pos hh]);have n1:(h !=0)=true:=by simpa using hh
     clear hX hh;have rq:=ap;have sq:=af;have kr:=blk5 rq;have ks:=blk2 sq;have fr:=rq.fz;have fs:=sq.fz;go_wp2_with fail
     go_region
     have r7:=(AQ (ap5 (Ap rq) H p3.a p3.c q3.a q3.c) (g:=w.heap.size+1+1+1+1) (by omega) (.int .u64 (sj:Int)) (.int .i64 pj)).drew;have s7:=(Aj (ap5 (Au sq (g:=w.heap.size+1+1+1) (by omega)) H p3.a p3.c q3.a q3.c) (.int .u64 (sj:Int)) (.int .i64 pj)).drew;have i7:=((ap5 (ag.off5 or) H p3.a p3.c q3.a q3.c).off (a:=⟨w.heap.size+1+1+1+1,0,none⟩) os (.int .u64 (sj:Int))).off (a:=⟨w.heap.size+1+1+1+1,1,none⟩) os (.int .i64 pj);have B7:=(Ae (ap5 (Ao a5 (g:=w.heap.size+1+1+1) (by omega)) H p3.a p3.c q3.a q3.c) (g:=w.heap.size+1+1+1+1) (by omega) (.int .u64 (sj:Int)) (.int .i64 pj)).drew;have yr:=blk5 r7;have ys:=blk2 s7;go_wp2_with fail
     refine bodyPost_ret (v:=.tuple #[dval H p3 q3,.agg #[.int .u64 (sj:Int),.int .i64 pj],.int .i64 h]) (by simp[results,Tryz.results75,go_sem,yr,ys]) rfl ?_;exact⟨⟨p3,q3,by rw[Hw.out],by rw[Hw.out];exact i7.below (Below.refl _ _).drew,by rw[Hw.out];exact fun b hb h=>ab.out b hb h⟩,B7⟩
    subst hh;have ay:=hid (show X=Pn.lay H L by rw[ai.out,Dk.next_zero (X:=(H,0)) rfl]);have ba:=fun(W:World)(h1:IsDk W H p3 q3)(h2:IsPn W L ⟨B1,b1⟩ ⟨B2,b2⟩)=>Ic H L p3 q3 ⟨B1,b1⟩ ⟨B2,b2⟩ W h1 h2 bn.out (by omega)
    rw[<-ay.out]at ba;obtain⟨K,k⟩:=X;have aA:=af.lt;go_wp2_with fail
    refine((ba _ ag (HL.out _ a5))).mono ?_;rintro e w5 ⟨⟨p4,q4,rfl,i4,o4⟩,hb5⟩;replace hb:=bt a5 hb5;replace hx:=aB.bl hb5;replace b4:=blk5 hx;replace hy:=aC.bl hb5;replace hz:=aD.bl hb5;replace hr:=ap.bl hb5;replace hs:=af.bl hb5;replace i3:=ag.below hb5;clear a5 aG aB aH aC aI aD aE ap aF af ag;simp only at i4 o4;have H4:=hid (fun b (g1:b<=w.heap.size+1+1+1+1)(g2:b<w.heap.size->DkOff b D ⟨A1,a1⟩ ⟨A2,a2⟩)=>o4 b (Nat.lt_of_le_of_lt g1 aA) (H3.out b g1 g2));have bI:=H4.out w.heap.size (by omega) (fun h=>absurd h (by omega));have or:=H4.out (w.heap.size+1+1+1) (by omega) (fun h=>absurd h (by omega));have os:=H4.out (w.heap.size+1+1+1+1) (by omega) (fun h=>absurd h (by omega));have ab:=hid (fun b (hb:b<w.heap.size)(h:DkOff b D ⟨A1,a1⟩ ⟨A2,a2⟩)=>H4.out b (by omega) (fun _=>h));clear o4 aA;have fx:=hx.fz;have a9:=ap5 (Ao hb (g:=w.heap.size) (by omega)) K p4.a p4.c q4.a q4.c;obtain⟨bu,bc⟩:=Z5 (Yj hx a9);obtain⟨bb,b5⟩:=Z2 (Yi hy a9 (by omega));obtain⟨ak,b0⟩:=Z5 (Yi hr a9 (by omega));obtain⟨al,b3⟩:=Z2 (Yi hs a9 (by omega));have am:=i4.ob a9 (by assumption);by_cases hk0:k=0
    case neg=>
     have Hw:=hid (show jrCommit D ⟨sj,pj⟩ L=(K,⟨sj,pj⟩,k) by rw[aj.out,if_pos hk0]);have n1:(k !=0)=true:=by simpa using hk0
     clear hk0;have rq:=ak;have sq:=al;have kr:=blk5 rq;have ks:=blk2 sq;have fr:=rq.fz;have fs:=sq.fz;go_wp2_with fail
     go_region
     have r7:=(AQ (ap5 (Ap rq) K p4.a p4.c q4.a q4.c) (g:=w.heap.size+1+1+1+1) (by omega) (.int .u64 (sj:Int)) (.int .i64 pj)).drew;have s7:=(Aj (ap5 (Au sq (g:=w.heap.size+1+1+1) (by omega)) K p4.a p4.c q4.a q4.c) (.int .u64 (sj:Int)) (.int .i64 pj)).drew;have i7:=((ap5 (am.off5 or) K p4.a p4.c q4.a q4.c).off (a:=⟨w.heap.size+1+1+1+1,0,none⟩) os (.int .u64 (sj:Int))).off (a:=⟨w.heap.size+1+1+1+1,1,none⟩) os (.int .i64 pj);have B7:=(Ae (ap5 (Ao a9 (g:=w.heap.size+1+1+1) (by omega)) K p4.a p4.c q4.a q4.c) (g:=w.heap.size+1+1+1+1) (by omega) (.int .u64 (sj:Int)) (.int .i64 pj)).drew;have yr:=blk5 r7;have ys:=blk2 s7;go_wp2_with fail
     refine bodyPost_ret (v:=.tuple #[dval K p4 q4,.agg #[.int .u64 (sj:Int),.int .i64 pj],.int .i64 k]) (by simp[results,Tryz.results75,go_sem,yr,ys]) rfl ?_;exact⟨⟨p4,q4,by rw[Hw.out],by rw[Hw.out];exact i7.below (Below.refl _ _).drew,by rw[Hw.out];exact fun b hb h=>ab.out b hb h⟩,B7⟩
    subst hk0;have Hw:=hid (show jrCommit D ⟨sj,pj⟩ L=(K,⟨sj+1,at_+(R.length:Int)⟩,0) by rw[aj.out,if_neg (by simp)]);have rq:=ak;have sq:=al;have kr:=blk5 rq;have ks:=blk2 sq;have fr:=rq.fz;have fs:=sq.fz;go_wp2_with fail
    go_region
    have r7:=(AQ (ap5 (Ap rq) K p4.a p4.c q4.a q4.c) (g:=w.heap.size+1+1+1+1) (by omega) (.int .u64 ((sj:Int)+1)) (.int .i64 (at_+(R.length:Int)))).drew;have s7:=(Aj (ap5 (Au sq (g:=w.heap.size+1+1+1) (by omega)) K p4.a p4.c q4.a q4.c) (.int .u64 ((sj:Int)+1)) (.int .i64 (at_+(R.length:Int)))).drew;have i7:=((ap5 (am.off5 or) K p4.a p4.c q4.a q4.c).off (a:=⟨w.heap.size+1+1+1+1,0,none⟩) os (.int .u64 ((sj:Int)+1))).off (a:=⟨w.heap.size+1+1+1+1,1,none⟩) os (.int .i64 (at_+(R.length:Int)));have B7:=(Ae (ap5 (Ao a9 (g:=w.heap.size+1+1+1) (by omega)) K p4.a p4.c q4.a q4.c) (g:=w.heap.size+1+1+1+1) (by omega) (.int .u64 ((sj:Int)+1)) (.int .i64 (at_+(R.length:Int)))).drew;have yr:=blk5 r7;have ys:=blk2 s7;go_wp2_with fail
    refine bodyPost_ret (v:=.tuple #[dval K p4 q4,.agg #[.int .u64 ((sj:Int)+1),.int .i64 (at_+(R.length:Int))],.int .i64 0]) (by simp[results,Tryz.results75,go_sem,yr,ys]) rfl ?_;exact⟨⟨p4,q4,by rw[Hw.out];rfl,by rw[Hw.out];exact i7.below (Below.refl _ _).drew,by rw[Hw.out];exact fun b hb h=>ab.out b hb h⟩,B7⟩
theorem Ox (D:Dk)(j:Jr)(L:Pn)(p q p' q':Pl)(w:World)(hD:IsDk w D p q)(hL:IsPn w L p' q')(hf:D.fit=true)(hfl:L.Fit)(h1:j.seq<18446744073709551616)(h2: -9223372036854775808<=j.pos/\j.pos<=9223372036854775807):
 CX 75 #[dval D p q,jval j,pval L p' q'] w (RetJr w.heap.size D p q (jrCommit D j L)):=by
 by_cases h0:L.targets=[]
 · exact OA D j L p q p' q' w hD h0
 · rcases Nat.lt_or_ge j.seq 4611686018427387904 with h|h
   · exact Oy D j L p q p' q' w hD hL hf hfl h0 h h2
   · exact Oz D j L p q p' q' w hD h0 hfl.2.1 h h1
theorem Qo (b:List UInt8)(hb:b.length=64)(o:Nat)(ho:o<=62):takeR (b.drop o) 2=(un (cut b o 2),(b.drop o).drop 2,0)/\un (cut b o 2)<65536:=by
 have hl:¬(((b.drop o).length:Nat):Int)<2:=by rw[List.length_drop];omega
 refine⟨?_,?_⟩
 · rw[takeR,if_neg (by omega),if_neg hl];rfl
 · have:=By (cut b o 2);rw[Kk (by omega)]at this;exact this
theorem OH (D:Dk)(L:Pn)(p q p' q':Pl)(w:World)(k:Int)(h:k<0\/256<=k):
 CR 57 #[dval D p q,pval L p' q',.int .i64 k] w (.tuple #[.int .i64 (Pn.cntGet D L k).1,.int .i64 (Pn.cntGet D L k).2]):=by
 have Hw:=hid (show Pn.cntGet D L k=(0,10) by rw[Pn.cntGet,if_pos h]);obtain⟨A1,a1⟩:=p;obtain⟨A2,a2⟩:=q;obtain⟨B1,b1⟩:=p';obtain⟨B2,b2⟩:=q';have hB:=Y0 w;have x:=apc5 (Blk.new w 25) D A1 a1 A2 a2;have a0:=Ya hB x;have z:=apc2 (Yd a0 63) L B1 b1 B2 b2;simp only[Ys]at z;have a3:=Ya a0 z;by_cases h0:k<0
 · go_enter Tryz.func57,Tryz.ntmps57;go_wp2_with fail
   go_ret2
   rw[Hw.out];exact⟨rfl,a3⟩
 · have h1:256<=k:=by omega
   clear h;go_enter Tryz.func57,Tryz.ntmps57;go_wp2_with fail
   go_ret2
   rw[Hw.out];exact⟨rfl,a3⟩
theorem OG (D:Dk)(L:Pn)(p q p' q':Pl)(w:World)(hD:IsDk w D p q)(hL:IsPn w L p' q')(hf:D.fit=true)(hfl:L.Fit)(k:Nat)(hk:k<256):
 CR 57 #[dval D p q,pval L p' q',.int .i64 k] w (.tuple #[.int .i64 (Pn.cntGet D L k).1,.int .i64 (Pn.cntGet D L k).2]):=by
 have hr:=fun W=>Ia k hk W
 have a5:=fun(W:World)(hb:Below w.heap.size w W)=>Co D L p q p' q' W (hD.below hb) (hL.below hb) (87+(k:Int)/32) ((Dk.fit_parts hf).2.2.1) (by have:=hfl.2.1;omega) hfl.1
 obtain⟨b,er,hb⟩:∃b er,Pn.look D L (87+(k:Int)/32)=(b,er):=⟨_,_,rfl⟩;simp only[hb]at a5;have a4:er=0->b.length=64:=fun h=>by have:=Pn.look_full hf hfl (k:=87+(k:Int)/32) (by rw[hb];exact h);rw[hb]at this;exact this
 have hc:¬((k:Int)<0\/256<=(k:Int)):=by omega
 have Hw:=hid (show Pn.cntGet D L k=if er≠0 then(0,er)else(((un (cut b (2*(k%32)) 2):Nat):Int),0) by
  rw[Pn.cntGet,if_neg hc,hb];rw[show(2*((k:Int)%32)).toNat=2*(k%32) by omega])
 obtain⟨o,ho⟩:∃o,k%32=o:=⟨_,rfl⟩;rw[ho]at hr Hw;have a9:o<32:=by omega
 have a8:¬(k:Int)<0:=by omega
 clear hc hb hD hL hf hfl ho;obtain⟨A1,a1⟩:=p;obtain⟨A2,a2⟩:=q;obtain⟨B1,b1⟩:=p';obtain⟨B2,b2⟩:=q';have hB:=Y0 w;obtain⟨x,xk⟩:=Z5 (apc5 (Blk.new w 25) D A1 a1 A2 a2);have a0:=Ya hB x;have z:=apc2 (Yd a0 63) L B1 b1 B2 b2;simp only[Ys]at z;have zk:=blk2 z;have a3:=Ya a0 z;have a6:=Yc x a3;go_enter Tryz.func57,Tryz.ntmps57;go_wp2_with fail
 refine((hr _)).mono ?_;rintro e w1 ⟨rfl,hb1⟩;replace hB:=bt a3 hb1;replace x:=a6.bl hb1;replace xk:=blk5 x;replace z:=z.bl hb1;replace zk:=blk2 z;clear a0 a3 a6;go_wp2_with fail
 refine((a5 _ hB)).mono ?_;rintro e w2 ⟨rfl,hb2⟩;replace hB:=bt hB hb2;replace x:=x.bl hb2;replace xk:=blk5 x;replace z:=z.bl hb2;replace zk:=blk2 z;by_cases h1:er=0
 case neg=>
  have n1:(er !=0)=true:=by simpa using h1
  have Hr:=hid (show Pn.cntGet D L k=(0,er) by rw[Hw.out,if_pos h1]);clear h1;go_wp2_with fail
  go_ret2
  rw[Hr.out];exact⟨rfl,hB⟩
 subst h1;have hl:=a4 rfl;have a7:List.take 64 b=b:=List.take_of_length_le (by omega);obtain⟨t1,t2⟩:=Qo b hl (2*o) (by omega);have ht:=fun W=>DJ (b.drop (2*o)) (by rw[List.length_drop];unfold maxLen;omega) 2 W
 rw[t1]at ht;generalize un (cut b (2*o) 2)=n at ht t2 Hw;have Hr:=hid (show Pn.cntGet D L k=(((n:Nat):Int),0) by rw[Hw.out,if_neg (by simp)]);clear a4 a5 hr t1;go_wp2_with fail
 refine((ht _)).mono ?_;rintro e w3 ⟨rfl,hb3⟩;replace hB:=bt hB hb3;replace x:=x.bl hb3;replace xk:=blk5 x;replace z:=z.bl hb3;replace zk:=blk2 z;go_wp2_with fail
 go_ret2
 rw[Hr.out];exact⟨rfl,hB⟩
theorem Cq (D:Dk)(L:Pn)(p q p' q':Pl)(w:World)(hD:IsDk w D p q)(hL:IsPn w L p' q')(hf:D.fit=true)(hfl:L.Fit)(k:Int):
 CR 57 #[dval D p q,pval L p' q',.int .i64 k] w (.tuple #[.int .i64 (Pn.cntGet D L k).1,.int .i64 (Pn.cntGet D L k).2]):=by
 by_cases h:k<0\/256<=k
 · exact OH D L p q p' q' w k h
 · obtain⟨k,rfl⟩:=Int.eq_ofNat_of_zero_le (show 0<=k by omega);exact OG D L p q p' q' w hD hL hf hfl k (by omega)
theorem Ig (D:Dk)(L:Pn)(p q p' q':Pl)(w:World)(hD:IsDk w D p q)(hL:IsPn w L p' q')(hf:D.fit=true)(hfl:L.Fit)(k b:Int)(hb: -9223372036854775808<=b/\b<=9223372036854775807)
 (h:(Pn.cntGet D L k).2≠0\/((Pn.cntGet D L k).2=0/\(b< -(Pn.cntGet D L k).1\/65535-(Pn.cntGet D L k).1<b))):
 CX 52 #[dval D p q,pval L p' q',.int .i64 k,.int .i64 b] w (RetPn w.heap.size L p' q' (Pn.cntAdd D L k b)):=by
 have hg:=fun(W:World)(hb:Below w.heap.size w W)=>Cq D L p q p' q' W (hD.below hb) (hL.below hb) hf hfl k
 have a7:=Pn.cntGet_le D L k;have Hz:=hid (fun(W:World)(hb:Below w.heap.size w W)=>hL.below hb);have Hp:=Pn.cntAdd.eq_1 D L k b;obtain⟨⟨c,er⟩,hc⟩:∃x,Pn.cntGet D L k=x:=⟨_,rfl⟩;rw[hc]at h a7 Hp;simp only[hc]at hg;simp only at h a7 Hp;have Hp:=hid Hp;clear hc hD hL hf hfl;obtain⟨A1,a1⟩:=p;obtain⟨A2,a2⟩:=q;obtain⟨B1,b1⟩:=p';obtain⟨B2,b2⟩:=q';have hB:=Y0 w;have x:=apc5 (Blk.new w 25) D A1 a1 A2 a2;have a4:=Ya hB x;have z:=apc2 (Yd a4 63) L B1 b1 B2 b2;simp only[Ys]at z;have zk:=blk2 z;have a3:=Ya a4 z;have a8:=Yc x a3;have r:=Yd a3 63 #[.slice none 0 0,.slice none 0 0];simp only[Ys]at r;have rk:=blk2 r;have ab:=r.fz;have a0:=Ya a3 r;obtain⟨a9,a5⟩:=Z5 (Yc a8 a0);obtain⟨aa,a6⟩:=Z2 (Yc z a0);go_enter Tryz.func52,Tryz.ntmps52;go_wp2_with fail
 refine((hg _ a0)).mono ?_;rintro e w1 ⟨rfl,hb1⟩;replace hB:=bt a0 hb1;replace x:=a9.bl hb1;replace z:=aa.bl hb1;replace zk:=blk2 z;replace r:=r.bl hb1;replace rk:=blk2 r;replace ab:=r.fz;clear a4 a3 a8 a0 a5 a9 a6 aa;by_cases h1:er=0
 case neg=>
  have n1:(er !=0)=true:=by simpa using h1
  have Hr:=hid (show Pn.cntAdd D L k b=(L,er) by rw[Hp.out,if_pos h1]);clear h1 h;go_wp2_with fail
  rw[Hr.out];have yy:=blk2 (ap2 (Aj r) L B1 b1 B2 b2);have b9:=ap2 (Ae hB (g:=w.heap.size+1+1) (by omega)) L B1 b1 B2 b2;exact retPn (Hz.out _ b9) (fun _ _ h=>h) b9 (by simp[results,Tryz.results52,go_sem,yy]) rfl
 subst h1;have h:=(h.resolve_left (by simp)).2;have Hr:=hid (show Pn.cntAdd D L k b=(L,18) by rw[Hp.out,if_neg (by simp),if_pos h]);by_cases h2:b< -c
 · clear h;go_wp2_with fail
   rw[Hr.out];have yy:=blk2 (ap2 (Aj r) L B1 b1 B2 b2);have b9:=ap2 (Ae hB (g:=w.heap.size+1+1) (by omega)) L B1 b1 B2 b2;exact retPn (Hz.out _ b9) (fun _ _ h=>h) b9 (by simp[results,Tryz.results52,go_sem,yy]) rfl
 · have h3:65535-c<b:=by omega
   clear h;go_wp2_with fail
   rw[Hr.out];have yy:=blk2 (ap2 (Aj r) L B1 b1 B2 b2);have b9:=ap2 (Ae hB (g:=w.heap.size+1+1) (by omega)) L B1 b1 B2 b2;exact retPn (Hz.out _ b9) (fun _ _ h=>h) b9 (by simp[results,Tryz.results52,go_sem,yy]) rfl
theorem OF (D:Dk)(L:Pn)(p q p' q':Pl)(w:World)(hD:IsDk w D p q)(hL:IsPn w L p' q')(hf:D.fit=true)(hfl:L.Fit)(k:Nat)(hk:k<256)(b:Int)
 (h:(Pn.cntGet D L k).2=0) (h1: -(Pn.cntGet D L k).1<=b) (h2:b<=65535-(Pn.cntGet D L k).1):
 CX 52 #[dval D p q,pval L p' q',.int .i64 k,.int .i64 b] w (RetPn w.heap.size L p' q' (Pn.cntAdd D L k b)):=by
 have hg:=fun(W:World)(hb:Below w.heap.size w W)=>Cq D L p q p' q' W (hD.below hb) (hL.below hb) hf hfl k
 have a9:=Pn.cntGet_le D L k;have hr:=fun W=>Ia k hk W
 have Hp:=Pn.cntAdd.eq_1 D L k b;rw[if_neg (by rw[h];simp),if_neg (by omega)]at Hp;obtain⟨⟨c,er⟩,hc⟩:∃x,Pn.cntGet D L k=x:=⟨_,rfl⟩;rw[hc]at h a9 Hp h1 h2;simp only[hc]at hg;simp only at h a9 h1 h2;subst h;have a6:=fun W=>DI (c+b) 2 (by omega) (by omega) W
 rw[show putS (c+b).toNat 2=be 2 (c+b).toNat from rfl]at a6;obtain⟨t,ht⟩:∃t,be 2 (c+b).toNat=t:=⟨_,rfl⟩;have ae:t.length=2:=by rw[<-ht,Ar]
 have a5:=fun(W:World)(hb:Below w.heap.size w W)=>Id D L p q p' q' W (hD.below hb) (hL.below hb) hf hfl (87+(k:Int)/32) (2*((k%32:Nat):Int)) (by omega) t (by omega)
 have Hr:=hid (show Pn.cntAdd D L k b=Pn.patch D L (87+(k:Int)/32) (2*((k%32:Nat):Int)) t by
  rw[Hp,show(2*((k:Int)%32))=(2*((k%32:Nat):Int)) by omega,ht])
 rw[ht]at a6;have ad:=hid (fun g (hg:w.heap.size<=g)=>hL.apart hg);obtain⟨o,ho⟩:∃o,k%32=o:=⟨_,rfl⟩;rw[ho]at hr Hr a5;obtain⟨X,hX⟩:∃X,Pn.patch D L (87+(k:Int)/32) (2*((o:Nat):Int)) t=X:=⟨_,rfl⟩;rw[hX]at a5 Hr;clear hc hD hL hf hfl Hp ht ae ho hX;obtain⟨A1,a1⟩:=p;obtain⟨A2,a2⟩:=q;obtain⟨B1,b1⟩:=p';obtain⟨B2,b2⟩:=q';have hB:=Y0 w;obtain⟨x,xk⟩:=Z5 (apc5 (Blk.new w 25) D A1 a1 A2 a2);have a4:=Ya hB x;have z:=apc2 (Yd a4 63) L B1 b1 B2 b2;simp only[Ys]at z;have zk:=blk2 z;have a3:=Ya a4 z;have aa:=Yc x a3;have r:=Yd a3 63 #[.slice none 0 0,.slice none 0 0];simp only[Ys]at r;have a0:=Ya a3 r;obtain⟨ab,a7⟩:=Z5 (Yc aa a0);obtain⟨ac,a8⟩:=Z2 (Yc z a0);go_enter Tryz.func52,Tryz.ntmps52;go_wp2_with fail
 refine((hg _ a0)).mono ?_;rintro e w1 ⟨rfl,hb1⟩;replace hB:=bt a0 hb1;replace x:=ab.bl hb1;replace xk:=blk5 x;replace z:=ac.bl hb1;replace zk:=blk2 z;replace r:=r.bl hb1;clear a4 a3 aa a0 a7 ab a8 ac;go_wp2_with fail
 refine((hr _)).mono ?_;rintro e w2 ⟨rfl,hb2⟩;replace hB:=bt hB hb2;replace x:=x.bl hb2;replace xk:=blk5 x;replace z:=z.bl hb2;replace zk:=blk2 z;replace r:=r.bl hb2;go_wp2_with fail
 have s0:(w2.drew.cell? ⟨w.heap.size,0,none⟩=some (.string (bs D.data))/\w2.drew.cell? ⟨w.heap.size,1,none⟩=some (.slice A1 D.cache.length a1)/\w2.drew.cell? ⟨w.heap.size,2,none⟩=some (.int .i64 D.fuse)/\w2.drew.cell? ⟨w.heap.size,3,none⟩=some (.bool D.off)/\w2.drew.cell? ⟨w.heap.size,4,none⟩=some (.slice A2 D.bad.length a2))/\
  (w2.drew.cell? ⟨w.heap.size+1,0,none⟩=some (.slice B1 L.targets.length b1)/\w2.drew.cell? ⟨w.heap.size+1,1,none⟩=some (.slice B2 L.data.length b2))/\Below w.heap.size w w2.drew:=⟨xk,zk,hB.drew⟩
 have rd:=r.drew;have af:w.heap.size+1+1<w2.drew.heap.size:=r.lt;have hw:IntKind.u64.wrap (IntKind.i64.wrap (c+b))=c+b:=by rw[i64w (by omega),u64w (by omega)]
 clear xk zk x z hg hr
 go_region_held3 (fun W=>(W.cell? ⟨w.heap.size,0,none⟩=some (.string (bs D.data))/\W.cell? ⟨w.heap.size,1,none⟩=some (.slice A1 D.cache.length a1)/\W.cell? ⟨w.heap.size,2,none⟩=some (.int .i64 D.fuse)/\W.cell? ⟨w.heap.size,3,none⟩=some (.bool D.off)/\W.cell? ⟨w.heap.size,4,none⟩=some (.slice A2 D.bad.length a2))/\
  (W.cell? ⟨w.heap.size+1,0,none⟩=some (.slice B1 L.targets.length b1)/\W.cell? ⟨w.heap.size+1,1,none⟩=some (.slice B2 L.data.length b2))/\Below w.heap.size w W)
  (first|exact s0|exact Bu s0 hbl1|exact Bu (Bu s0 hbl1) hbl2|exact LK (Bu (Bu s0 hbl1) hbl2) (by omega) (by omega) (by omega) _ _)
  (first|(go_at_call 86;refine(a6 _).mono ?_;rintro e W1 ⟨rfl,hbl1⟩;have r1:=rd.bl hbl1)|(go_at_call 95;refine(a5 _ (Bu s0 hbl1).2.2).mono ?_;rintro e W2 ⟨⟨p3,q3,rfl,i3,o3⟩,hbl2⟩;have r2:=r1.bl hbl2;have ah:=blk2 r2;have ag:=r2.frozen))
 go_wp2_with fail
 rw[Hr.out];have ho:=o3 (w.heap.size+1+1) (Nat.lt_of_lt_of_le af hbl1.size) (ad.out _ (by omega));have yy:=blk2 (ap2 (Aj r2) X.1 p3.a p3.c q3.a q3.c);have b9:=ap2 (Ae (Bu (Bu s0 hbl1) hbl2).2.2 (g:=w.heap.size+1+1) (by omega)) X.1 p3.a p3.c q3.a q3.c;exact retPn (i3.off2 ho _ _) (fun g hg h=>o3 g (Nat.lt_of_lt_of_le hg ((Bu s0 hbl1).2.2.size)) h) b9 (by simp[results,Tryz.results52,go_sem,yy]) rfl
theorem DH (D:Dk)(L:Pn)(p q p' q':Pl)(w:World)(hD:IsDk w D p q)(hL:IsPn w L p' q')(hf:D.fit=true)(hfl:L.Fit)(k b:Int)(hb: -9223372036854775808<=b/\b<=9223372036854775807):
 CX 52 #[dval D p q,pval L p' q',.int .i64 k,.int .i64 b] w (RetPn w.heap.size L p' q' (Pn.cntAdd D L k b)):=by
 by_cases h:(Pn.cntGet D L k).2=0
 · by_cases h2:b< -(Pn.cntGet D L k).1\/65535-(Pn.cntGet D L k).1<b
   · exact Ig D L p q p' q' w hD hL hf hfl k b hb (.inr ⟨h,h2⟩)
   · have hk:¬(k<0\/256<=k):=fun hk=>by rw[Pn.cntGet,if_pos hk]at h;simp at h
     obtain⟨k,rfl⟩:=Int.eq_ofNat_of_zero_le (show 0<=k by omega);exact OF D L p q p' q' w hD hL hf hfl k (by omega) b h (by omega) (by omega)
 · exact Ig D L p q p' q' w hD hL hf hfl k b hb (.inl h)
abbrev AH (K A:Int):Value:=.agg #[.int .i64 K,.int .i64 A]
theorem Cu (k:Int)(h0:0<=k)(h1:k<256)(w:World):CR 157 #[.int .i64 k] w (.bool true):=by
 go_enter Tryz.func157,Tryz.ntmps157;go_wp2_with fail
 go_ret
 exact⟨rfl,Below.refl _ _⟩
theorem CO (k:Int)(h:k<0\/256<=k)(w:World):CR 157 #[.int .i64 k] w (.bool false):=by
 by_cases h0:k<0
 · go_enter Tryz.func157,Tryz.ntmps157;go_wp2_with fail
   go_ret
   exact⟨rfl,Below.refl _ _⟩
 · have h1:256<=k:=by omega
   clear h;go_enter Tryz.func157,Tryz.ntmps157;go_wp2_with fail
   go_ret
   exact⟨by simp;omega,Below.refl _ _⟩
theorem PV (k:Int)(w:World):CR 157 #[.int .i64 k] w (.bool (!decide (k<0\/256<=k))):=by
 by_cases h:k<0\/256<=k
 · rw[decide_eq_true h];exact CO k h w
 · rw[decide_eq_false h];exact Cu k (by omega) (by omega) w
theorem E9 (K A:Int)(w:World):CR 127 #[AH K A] w (.bool (Pn.entOk K A)):=by
 have hB:=Y0 w;obtain⟨x,xk⟩:=Z2 (Blk.new w 102 #[.int .i64 K,.int .i64 A]);have a0:=Ya hB x;by_cases h1:K=1
 · subst h1;have Hw:=hid (show Pn.entOk 1 A=!decide (A<0\/256<=A) by rw[Pn.entOk,if_pos rfl,Bool.eq_iff_iff];simp);have ho:=PV A;rw[<-Hw.out]at ho;clear Hw;go_enter Tryz.func127,Tryz.ntmps127;go_wp2_with fail
   refine((ho _)).mono ?_;rintro e w1 ⟨rfl,hb1⟩;replace hB:=bt a0 hb1;replace x:=x.bl hb1;replace xk:=blk2 x;clear a0;go_wp2_with fail
   go_ret
   exact⟨rfl,hB⟩
 · have n1:(K==1)=false:=by simpa using h1
   by_cases h2:K=0
   · subst h2;have Hw:=hid (show Pn.entOk 0 A=decide (A=0) by simp[Pn.entOk]);go_enter Tryz.func127,Tryz.ntmps127;go_wp2_with fail
     go_ret
     exact⟨by rw[Hw.out];rfl,a0⟩
   · have n2:(K==0)=false:=by simpa using h2
     by_cases h3:K=2
     · subst h3;have Hw:=hid (show Pn.entOk 2 A=decide (A=0) by simp[Pn.entOk]);go_enter Tryz.func127,Tryz.ntmps127;go_wp2_with fail
       go_ret
       exact⟨by rw[Hw.out];rfl,a0⟩
     · have n3:(K==2)=false:=by simpa using h3
       have Hw:=hid (show Pn.entOk K A=false by simp[Pn.entOk,h1,h2,h3]);clear h1 h2 h3;go_enter Tryz.func127,Tryz.ntmps127;go_wp2_with fail
       go_ret
       exact⟨by rw[Hw.out];rfl,a0⟩
theorem CP (t i:Int)(w:World):CR 125 #[.int .i64 t,.int .i64 i] w (.bool (decide (Pn.refused t i))):=by
 by_cases h1:t<0\/256<=t
 · have ho:=fun W=>CO t h1 W
   rw[decide_eq_true (show Pn.refused t i from .inl h1)];clear h1;go_enter Tryz.func125,Tryz.ntmps125;go_wp2_with (go_at_call 157;refine(ho _).mono ?_;rintro e w1 ⟨rfl,hb1⟩)
   go_ret
   exact⟨rfl,hb1⟩
 · have ho:=fun W=>Cu t (by omega) (by omega) W
   by_cases h3:i<0
   · rw[decide_eq_true (show Pn.refused t i from .inr (.inl h3))];clear h1;go_enter Tryz.func125,Tryz.ntmps125;go_wp2_with (go_at_call 157;refine(ho _).mono ?_;rintro e w1 ⟨rfl,hb1⟩)
     go_ret
     exact⟨rfl,hb1⟩
   · by_cases h4:16<=i
     · rw[decide_eq_true (show Pn.refused t i from .inr (.inr h4))];clear h1;go_enter Tryz.func125,Tryz.ntmps125;go_wp2_with (go_at_call 157;refine(ho _).mono ?_;rintro e w1 ⟨rfl,hb1⟩)
       go_ret
       exact⟨rfl,hb1⟩
     · rw[decide_eq_false (show¬Pn.refused t i from fun h=>by unfold Pn.refused at h;omega)];have h5:i<16:=by omega
       have h6:0<=i:=by omega
       clear h1 h3 h4;go_enter Tryz.func125,Tryz.ntmps125;go_wp2_with (go_at_call 157;refine(ho _).mono ?_;rintro e w1 ⟨rfl,hb1⟩)
       go_ret
       exact⟨by simp;omega,hb1⟩
theorem IT (t i:Int)(h:¬Pn.refused t i)(w:World):CR 126 #[.int .i64 t,.int .i64 i] w (.tuple #[.int .i64 (Pn.entAt t i),.int .i64 (Pn.entOff i)]):=by
 unfold Pn.refused at h;have hs:=fun W=>BR t (by omega) (by omega) W
 have h0:0<=i:=by omega
 have h1:i<16:=by omega
 have h2:0<=t:=by omega
 have h3:t<256:=by omega
 have e1:=hid (show Pn.entAt t i=96+2*t+i/8 by unfold Pn.entAt;omega);have e2:=hid (show Pn.entOff i=i%8*8 by unfold Pn.entOff;omega);clear h;go_enter Tryz.func126,Tryz.ntmps126;go_wp2_with (go_at_call 63;refine(hs _).mono ?_;rintro e w2 ⟨rfl,hb2⟩)
 go_ret2
 rw[e1.out,e2.out];exact⟨rfl,hb2⟩
theorem u8w {x:Int}(h:0<=x/\x<=255):IntKind.u8.wrap x=x:=by simp[IntKind.wrap,IntKind.bits,IntKind.signed];omega
theorem Bv {w W W':World}{a0 a1 a2 a3 a4 a5 a6 a7 a8:Addr}{v0 v1 v2 v3 v4 v5 v6 v7 v8:Value}
 (h:(W.cell? a0=some v0/\W.cell? a1=some v1/\W.cell? a2=some v2/\W.cell? a3=some v3/\W.cell? a4=some v4)/\(W.cell? a5=some v5/\W.cell? a6=some v6)/\(W.cell? a7=some v7/\W.cell? a8=some v8)/\Below w.heap.size w W) (hb:Below W.heap.size W W'):
 (W'.cell? a0=some v0/\W'.cell? a1=some v1/\W'.cell? a2=some v2/\W'.cell? a3=some v3/\W'.cell? a4=some v4)/\(W'.cell? a5=some v5/\W'.cell? a6=some v6)/\(W'.cell? a7=some v7/\W'.cell? a8=some v8)/\Below w.heap.size w W':=by
 obtain⟨⟨h0,h1,h2,h3,h4⟩,⟨h5,h6⟩,⟨h7,h8⟩,hB⟩:=h;exact⟨⟨Av hb h0,Av hb h1,Av hb h2,Av hb h3,Av hb h4⟩,⟨Av hb h5,Av hb h6⟩,⟨Av hb h7,Av hb h8⟩,bt hB hb⟩
theorem LN {w W:World}{b0 b1 b2 o0 o1 o2 o3 o4 o5 o6 o7 o8:Nat}{v0 v1 v2 v3 v4 v5 v6 v7 v8:Value}
 (h:(W.cell? ⟨b0,o0,none⟩=some v0/\W.cell? ⟨b0,o1,none⟩=some v1/\W.cell? ⟨b0,o2,none⟩=some v2/\W.cell? ⟨b0,o3,none⟩=some v3/\W.cell? ⟨b0,o4,none⟩=some v4)/\(W.cell? ⟨b1,o5,none⟩=some v5/\W.cell? ⟨b1,o6,none⟩=some v6)/\(W.cell? ⟨b2,o7,none⟩=some v7/\W.cell? ⟨b2,o8,none⟩=some v8)/\Below w.heap.size w W)
 {g:Nat} (g0:b0≠g) (g1:b1≠g) (g2:b2≠g) (hg:w.heap.size<=g) (u v:Value):
 (((W.setCell ⟨g,0,none⟩ u).setCell ⟨g,1,none⟩ v).cell? ⟨b0,o0,none⟩=some v0/\((W.setCell ⟨g,0,none⟩ u).setCell ⟨g,1,none⟩ v).cell? ⟨b0,o1,none⟩=some v1/\((W.setCell ⟨g,0,none⟩ u).setCell ⟨g,1,none⟩ v).cell? ⟨b0,o2,none⟩=some v2/\((W.setCell ⟨g,0,none⟩ u).setCell ⟨g,1,none⟩ v).cell? ⟨b0,o3,none⟩=some v3/\((W.setCell ⟨g,0,none⟩ u).setCell ⟨g,1,none⟩ v).cell? ⟨b0,o4,none⟩=some v4)/\
 (((W.setCell ⟨g,0,none⟩ u).setCell ⟨g,1,none⟩ v).cell? ⟨b1,o5,none⟩=some v5/\((W.setCell ⟨g,0,none⟩ u).setCell ⟨g,1,none⟩ v).cell? ⟨b1,o6,none⟩=some v6)/\
 (((W.setCell ⟨g,0,none⟩ u).setCell ⟨g,1,none⟩ v).cell? ⟨b2,o7,none⟩=some v7/\((W.setCell ⟨g,0,none⟩ u).setCell ⟨g,1,none⟩ v).cell? ⟨b2,o8,none⟩=some v8)/\Below w.heap.size w ((W.setCell ⟨g,0,none⟩ u).setCell ⟨g,1,none⟩ v):=by
 obtain⟨⟨h0,h1,h2,h3,h4⟩,⟨h5,h6⟩,⟨h7,h8⟩,hB⟩:=h;have k:∀(b o:Nat)(x:Value),b≠g->W.cell? ⟨b,o,none⟩=some x->((W.setCell ⟨g,0,none⟩ u).setCell ⟨g,1,none⟩ v).cell? ⟨b,o,none⟩=some x:=fun b o x hb h=>by
  rw[World.cell?_setCell_other _ _ _ _ (by intro e;injection e with e;exact hb e.symm),World.cell?_setCell_other _ _ _ _ (by intro e;injection e with e;exact hb e.symm)];exact h
 exact⟨⟨k _ _ _ g0 h0,k _ _ _ g0 h1,k _ _ _ g0 h2,k _ _ _ g0 h3,k _ _ _ g0 h4⟩,⟨k _ _ _ g1 h5,k _ _ _ g1 h6⟩,⟨k _ _ _ g2 h7,k _ _ _ g2 h8⟩,Ae hB hg u v⟩
theorem IR (b:UInt8)(a:Nat)(ha:a<4294967296)(w:World):CR 128 #[AH b.toNat a] w (.string (bs ([b,0,0,0]++be 4 a))):=by
 have hp:=fun W=>DI (a:Int) 4 (by omega) (by omega) W
 rw[show putS (a:Int).toNat 4=be 4 a from rfl]at hp;have hu:=u8w (x:=(b.toNat:Int)) (by have:=b.toNat_lt;omega);have a3:∀(W:World)(g:Nat),W.cell? ⟨g,0,none⟩=some (.int .u8 b.toNat)->W.cell? ⟨g,1,none⟩=some (.int .u8 0)->W.cell? ⟨g,2,none⟩=some (.int .u8 0)->W.cell? ⟨g,3,none⟩=some (.int .u8 0)->
  (convert 139 9 (.slice (some ⟨g,0,none⟩) 4 4)).run Tryz.prog W=.ok (.string (bs [b,0,0,0])) W:=by
  intro W g c0 c1 c2 c3;exact run_convert_bytes_back (P:=Tryz.prog) W 139 9 5 ⟨g,0,none⟩ 4 [b,0,0,0] Tryz.underlying139 Tryz.underlying5 Tryz.underlying9 (fun i hi=>by
   have e:(Addr.add ⟨g,0,none⟩ i)=⟨g,i,none⟩:=by simp only[Addr.add];split<;>simp_all
   rw[e];have hi:i<4:=by simpa using hi
   rcases(show i=0\/i=1\/i=2\/i=3 by omega)with rfl|rfl|rfl|rfl
   · exact c0
   · exact c1
   · exact c2
   · exact c3)
 generalize hK:[b,0,0,0]=K at a3 ⊢;have lK:K.length<=4:=by rw[<-hK];simp
 have lA:(be 4 a).length<=4:=by rw[Ar];omega
 generalize be 4 a=A at hp lA ⊢;generalize hk:(b.toNat:Int)=k at*;clear hK hk;clear b;have hB:=Y0 w;obtain⟨x,xk⟩:=Z2 (Blk.new w 102 #[.int .i64 k,.int .i64 a]);have a0:=Ya hB x;go_enter Tryz.func128,Tryz.ntmps128;go_wp2_with fail
 generalize (w.alloc (.cells #[.int .i64 k,.int .i64 a] 102))=V at a0 x xk ⊢;clear hB;have hB:=a0;clear a0;have s0:(V.cell? ⟨w.heap.size,0,none⟩=some (.int .i64 k)/\V.cell? ⟨w.heap.size,1,none⟩=some (.int .i64 a))/\Below w.heap.size w V:=⟨xk,hB⟩;clear xk;have bl:=fun W=>Blk.new W 5 #[.int .u8 k,.int .u8 0,.int .u8 0,.int .u8 0]
 have a2:=hid (fun(W:World)(g:Nat)(b:Blk W g 5 #[.int .u8 k,.int .u8 0,.int .u8 0,.int .u8 0])=>a3 W g (b.cell 0) (b.cell 1) (b.cell 2) (b.cell 3));have a1:=hid bl;have a5:=u64w (x:=(a:Int)) (by omega);have a6:=a2.out _ _ (bl V).drew;clear a3 bl;obtain⟨xk0,xk1⟩:=s0.1;have Hx:=hid s0.1;have vl:w.heap.size<V.heap.size:=x.lt;clear s0
 go_region_with ((go_at_call 86;refine(hp _).mono ?_;rintro e w1 ⟨rfl,hb1⟩;have l1:V.heap.size<=w1.heap.size:=(by have:=hb1.size;simp at this;omega);have a7:¬w.heap.size=w1.heap.size:=(by omega);have a8:¬w1.heap.size=w.heap.size:=(by omega);first|(have a4:=a2.out w1 V.heap.size ((a1.out V).drew.below hb1 (a1.out V).drew.lt))|(have a4:=a2.out _ _ (a1.out w1);have a9:=Av hb1 Hx.out.1)))
 all_goals
  go_wp2_with fail
  go_ret
  refine⟨rfl,?_⟩
  first
  |exact bt ((hB.alloc hB.size _).drew) hb1
  |exact(bt hB.drew hb1).alloc (bt hB.drew hb1).size _
theorem Pn.entBytes_ref (k a:Nat)(hk:k<=2)(ha:a<256):Pn.entBytes k a=[UInt8.ofNat k,0,0,0]++be 4 a:=by
 have e1:Pn.entBytes k a=be (1+7) (k*72057594037927936+a):=rfl;have e2:(k*72057594037927936+a)/256^7=k:=by
  have:(256:Nat)^7=72057594037927936:=by decide
  omega
 have e3:be 7 (k*72057594037927936+a)=be 7 a:=by
  rw[DW,show(256:Nat)^7=72057594037927936 by decide,Nat.mul_comm,Nat.mul_add_mod,Nat.mod_eq_of_lt (by omega)]
 have e4:be 7 a=be 3 0++be 4 a:=by
  have:=Ft 3 4 a;rw[show a/256^4=0 by have:(256:Nat)^4=4294967296:=(by decide);omega]at this;exact this
 rw[e1,Ft,e2,e3,e4];have:be 1 k=[UInt8.ofNat k]:=by simp[be]
 rw[this,show be 3 0=[0,0,0] by decide];rfl
theorem Qc (D:Dk)(L:Pn)(p q p' q':Pl)(w:World)(hL:IsPn w L p' q')(t i K A:Int)(h:Pn.refused t i):
 CX 103 #[dval D p q,pval L p' q',.int .i64 t,.int .i64 i,AH K A] w (RetPn w.heap.size L p' q' (Pn.tabSet D L t i K A)):=by
 have Hz:=hid (fun(W:World)(hb:Below w.heap.size w W)=>hL.below hb);have Hr:=hid (show Pn.tabSet D L t i K A=(L,10) by rw[Pn.tabSet,if_pos h]);have hp:=fun W=>CP t i W
 rw[decide_eq_true h]at hp;clear hL h;obtain⟨A1,a1⟩:=p;obtain⟨A2,a2⟩:=q;obtain⟨B1,b1⟩:=p';obtain⟨B2,b2⟩:=q';have hB:=Y0 w;have x:=apc5 (Blk.new w 25) D A1 a1 A2 a2;have a5:=Ya hB x;have z:=apc2 (Yd a5 63) L B1 b1 B2 b2;simp only[Ys]at z;have zk:=blk2 z;have a4:=Ya a5 z;have a7:=Yc x a4;have y:=Yd a4 102 #[.int .i64 K,.int .i64 A];simp only[Ys]at y;have a0:=Ya a4 y;have a8:=Yc a7 a0;have aa:=Yc z a0;have r:=Yd a0 63 #[.slice none 0 0,.slice none 0 0];simp only[Ys]at r;have rk:=blk2 r;have ac:=r.fz;have a3:=Ya a0 r;have a9:=Yc a8 a3;have ab:=Yc aa a3;have a6:=Yc y a3;go_enter Tryz.func103,Tryz.ntmps103;go_wp2_with fail
 refine((hp _)).mono ?_;rintro e w1 ⟨rfl,hb1⟩;replace hB:=bt a3 hb1;replace x:=a9.bl hb1;replace z:=ab.bl hb1;replace zk:=blk2 z;replace y:=a6.bl hb1;replace r:=r.bl hb1;replace rk:=blk2 r;replace ac:=r.fz;clear a5 a4 a7 a0 a8 aa a3 a9 ab a6;go_wp2_with fail
 rw[Hr.out];have yy:=blk2 (ap2 (Aj r) L B1 b1 B2 b2);have b9:=ap2 (Ae hB (g:=w.heap.size+1+1+1) (by omega)) L B1 b1 B2 b2;exact retPn (Hz.out _ b9) (fun _ _ h=>h) b9 (by simp[results,Tryz.results103,go_sem,yy]) rfl
theorem P8 (D:Dk)(L:Pn)(p q p' q':Pl)(w:World)(hL:IsPn w L p' q')(t i K A:Int)(h:¬Pn.refused t i)(hk:Pn.entOk K A=false):
 CX 103 #[dval D p q,pval L p' q',.int .i64 t,.int .i64 i,AH K A] w (RetPn w.heap.size L p' q' (Pn.tabSet D L t i K A)):=by
 have Hz:=hid (fun(W:World)(hb:Below w.heap.size w W)=>hL.below hb);have Hr:=hid (show Pn.tabSet D L t i K A=(L,23) by rw[Pn.tabSet,if_neg h,if_pos hk]);have hp:=fun W=>CP t i W
 rw[decide_eq_false h]at hp;have he:=fun W=>E9 K A W
 rw[hk]at he;clear hL h hk;obtain⟨A1,a1⟩:=p;obtain⟨A2,a2⟩:=q;obtain⟨B1,b1⟩:=p';obtain⟨B2,b2⟩:=q';have hB:=Y0 w;have x:=apc5 (Blk.new w 25) D A1 a1 A2 a2;have a5:=Ya hB x;have z:=apc2 (Yd a5 63) L B1 b1 B2 b2;simp only[Ys]at z;have zk:=blk2 z;have a4:=Ya a5 z;have a8:=Yc x a4;have y:=Yd a4 102 #[.int .i64 K,.int .i64 A];simp only[Ys]at y;have yk:=blk2 y;have a0:=Ya a4 y;have a9:=Yc a8 a0;have ab:=Yc z a0;have r:=Yd a0 63 #[.slice none 0 0,.slice none 0 0];simp only[Ys]at r;have rk:=blk2 r;have a7:=r.fz;have a3:=Ya a0 r;have aa:=Yc a9 a3;have ac:=Yc ab a3;have a6:=Yc y a3;go_enter Tryz.func103,Tryz.ntmps103;go_wp2_with fail
 refine((hp _)).mono ?_;rintro e w1 ⟨rfl,hb1⟩;replace hB:=bt a3 hb1;replace x:=aa.bl hb1;replace z:=ac.bl hb1;replace zk:=blk2 z;replace y:=a6.bl hb1;replace yk:=blk2 y;replace r:=r.bl hb1;replace rk:=blk2 r;replace a7:=r.fz;clear a5 a4 a8 a0 a9 ab a3 aa ac a6;go_wp2_with fail
 refine((he _)).mono ?_;rintro e w2 ⟨rfl,hb2⟩;replace hB:=bt hB hb2;replace x:=x.bl hb2;replace z:=z.bl hb2;replace zk:=blk2 z;replace y:=y.bl hb2;replace yk:=blk2 y;replace r:=r.bl hb2;replace rk:=blk2 r;replace a7:=r.fz;go_wp2_with fail
 rw[Hr.out];have yy:=blk2 (ap2 (Aj r) L B1 b1 B2 b2);have b9:=ap2 (Ae hB (g:=w.heap.size+1+1+1) (by omega)) L B1 b1 B2 b2;exact retPn (Hz.out _ b9) (fun _ _ h=>h) b9 (by simp[results,Tryz.results103,go_sem,yy]) rfl
theorem Qb (D:Dk)(L:Pn)(p q p' q':Pl)(w:World)(hD:IsDk w D p q)(hL:IsPn w L p' q')(hf:D.fit=true)(hfl:L.Fit)(t i K A:Int)(h:¬Pn.refused t i)(hk:Pn.entOk K A=true):
 CX 103 #[dval D p q,pval L p' q',.int .i64 t,.int .i64 i,AH K A] w (RetPn w.heap.size L p' q' (Pn.tabSet D L t i K A)):=by
 have hs:=Pn.entOk_small hk;have Hr:=hid (show Pn.tabSet D L t i K A=Pn.patch D L (Pn.entAt t i) (Pn.entOff i) (Pn.entBytes K A) by rw[Pn.tabSet,if_neg h,if_neg (by rw[hk];simp)]);have a7: -9223372036854775808<=Pn.entAt t i/\Pn.entAt t i<=9223372036854775807:=by unfold Pn.refused at h;unfold Pn.entAt;omega
 have a8:=fun(W:World)(hb:Below w.heap.size w W)=>Id D L p q p' q' W (hD.below hb) (hL.below hb) hf hfl (Pn.entAt t i) (Pn.entOff i) a7 (Pn.entBytes K A) (by rw[Pn.entBytes_length];omega)
 have hp:=fun W=>CP t i W
 rw[decide_eq_false h]at hp;have ag:=fun W=>IT t i h W
 have he:=fun W=>E9 K A W
 rw[hk]at he;have af:∀W,Calls Tryz.prog 128 #[AH K A] W fun e w'=>e=.returned (.string (bs (Pn.entBytes K A)))/\Below W.heap.size W w':=by
  intro W;obtain⟨k,rfl⟩:=Int.eq_ofNat_of_zero_le hs.1;obtain⟨a,rfl⟩:=Int.eq_ofNat_of_zero_le hs.2.2.1;have:=IR (UInt8.ofNat k) a (by omega) W;rw[show((UInt8.ofNat k).toNat:Int)=k by simp;omega,<-Pn.entBytes_ref k a (by omega) (by omega)]at this;exact this
 have ae:=hid (fun g (hg:w.heap.size<=g)=>hL.apart hg);generalize Pn.entBytes K A=T at*;generalize Pn.entAt t i=m at*;generalize Pn.entOff i=o at*;obtain⟨X,hX⟩:∃X,Pn.patch D L m o T=X:=⟨_,rfl⟩;rw[hX]at a8 Hr;clear hX hs h hk hD hL hf hfl a7;obtain⟨A1,a1⟩:=p;obtain⟨A2,a2⟩:=q;obtain⟨B1,b1⟩:=p';obtain⟨B2,b2⟩:=q';have hB:=Y0 w;obtain⟨x,xk⟩:=Z5 (apc5 (Blk.new w 25) D A1 a1 A2 a2);have a5:=Ya hB x;have z:=apc2 (Yd a5 63) L B1 b1 B2 b2;simp only[Ys]at z;have zk:=blk2 z;have a4:=Ya a5 z;have a9:=Yc x a4;have y:=Yd a4 102 #[.int .i64 K,.int .i64 A];simp only[Ys]at y;have yk:=blk2 y;have a0:=Ya a4 y;have aa:=Yc a9 a0;have ac:=Yc z a0;have r:=Yd a0 63 #[.slice none 0 0,.slice none 0 0];simp only[Ys]at r;have a3:=Ya a0 r;have ab:=Yc aa a3;have ad:=Yc ac a3;have a6:=Yc y a3;go_enter Tryz.func103,Tryz.ntmps103;go_wp2_with fail
 refine((hp _)).mono ?_;rintro e w1 ⟨rfl,hb1⟩;replace hB:=bt a3 hb1;replace x:=ab.bl hb1;replace xk:=blk5 x;replace z:=ad.bl hb1;replace zk:=blk2 z;replace y:=a6.bl hb1;replace yk:=blk2 y;replace r:=r.bl hb1;clear a5 a4 a9 a0 aa ac a3 ab ad a6;go_wp2_with fail
 refine((he _)).mono ?_;rintro e w2 ⟨rfl,hb2⟩;replace hB:=bt hB hb2;replace x:=x.bl hb2;replace xk:=blk5 x;replace z:=z.bl hb2;replace zk:=blk2 z;replace y:=y.bl hb2;replace yk:=blk2 y;replace r:=r.bl hb2;go_wp2_with fail
 refine((ag _)).mono ?_;rintro e w3 ⟨rfl,hb3⟩;replace hB:=bt hB hb3;replace x:=x.bl hb3;replace xk:=blk5 x;replace z:=z.bl hb3;replace zk:=blk2 z;replace y:=y.bl hb3;replace yk:=blk2 y;replace r:=r.bl hb3;go_wp2_with fail
 have s0:(w3.drew.cell? ⟨w.heap.size,0,none⟩=some (.string (bs D.data))/\w3.drew.cell? ⟨w.heap.size,1,none⟩=some (.slice A1 D.cache.length a1)/\w3.drew.cell? ⟨w.heap.size,2,none⟩=some (.int .i64 D.fuse)/\w3.drew.cell? ⟨w.heap.size,3,none⟩=some (.bool D.off)/\w3.drew.cell? ⟨w.heap.size,4,none⟩=some (.slice A2 D.bad.length a2))/\
  (w3.drew.cell? ⟨w.heap.size+1,0,none⟩=some (.slice B1 L.targets.length b1)/\w3.drew.cell? ⟨w.heap.size+1,1,none⟩=some (.slice B2 L.data.length b2))/\(w3.drew.cell? ⟨w.heap.size+1+1,0,none⟩=some (.int .i64 K)/\w3.drew.cell? ⟨w.heap.size+1+1,1,none⟩=some (.int .i64 A))/\Below w.heap.size w w3.drew:=⟨xk,zk,yk,hB.drew⟩
 have rd:=r.drew;have vl:w.heap.size+1+1+1<w3.drew.heap.size:=r.lt;clear xk zk yk x z y hp he
 go_region_held3 (fun W=>(W.cell? ⟨w.heap.size,0,none⟩=some (.string (bs D.data))/\W.cell? ⟨w.heap.size,1,none⟩=some (.slice A1 D.cache.length a1)/\W.cell? ⟨w.heap.size,2,none⟩=some (.int .i64 D.fuse)/\W.cell? ⟨w.heap.size,3,none⟩=some (.bool D.off)/\W.cell? ⟨w.heap.size,4,none⟩=some (.slice A2 D.bad.length a2))/\
  (W.cell? ⟨w.heap.size+1,0,none⟩=some (.slice B1 L.targets.length b1)/\W.cell? ⟨w.heap.size+1,1,none⟩=some (.slice B2 L.data.length b2))/\(W.cell? ⟨w.heap.size+1+1,0,none⟩=some (.int .i64 K)/\W.cell? ⟨w.heap.size+1+1,1,none⟩=some (.int .i64 A))/\Below w.heap.size w W)
  (first|exact s0|exact Bv s0 hbl1|exact Bv (Bv s0 hbl1) hbl2|exact LN (Bv (Bv s0 hbl1) hbl2) (by omega) (by omega) (by omega) (by omega) _ _)
  (first|(go_at_call 128;refine(af _).mono ?_;rintro e W1 ⟨rfl,hbl1⟩;have r1:=rd.bl hbl1)|(go_at_call 95;refine(a8 _ (Bv s0 hbl1).2.2.2).mono ?_;rintro e W2 ⟨⟨p3,q3,rfl,i3,o3⟩,hbl2⟩;have r2:=r1.bl hbl2;have ai:=blk2 r2;have ah:=r2.frozen))
 go_wp2_with fail
 rw[Hr.out];have ho:=o3 (w.heap.size+1+1+1) (Nat.lt_of_lt_of_le vl hbl1.size) (ae.out _ (by omega));have yy:=blk2 (ap2 (Aj r2) X.1 p3.a p3.c q3.a q3.c);have b9:=ap2 (Ae (Bv (Bv s0 hbl1) hbl2).2.2.2 (g:=w.heap.size+1+1+1) (by omega)) X.1 p3.a p3.c q3.a q3.c;exact retPn (i3.off2 ho _ _) (fun g hg h=>o3 g (Nat.lt_of_lt_of_le hg ((Bv s0 hbl1).2.2.2.size)) h) b9 (by simp[results,Tryz.results103,go_sem,yy]) rfl
theorem IU (D:Dk)(L:Pn)(p q p' q':Pl)(w:World)(hD:IsDk w D p q)(hL:IsPn w L p' q')(hf:D.fit=true)(hfl:L.Fit)(t i K A:Int):
 CX 103 #[dval D p q,pval L p' q',.int .i64 t,.int .i64 i,AH K A] w (RetPn w.heap.size L p' q' (Pn.tabSet D L t i K A)):=by
 by_cases h:Pn.refused t i
 · exact Qc D L p q p' q' w hL t i K A h
 · cases hk:Pn.entOk K A with
   |false=>exact P8 D L p q p' q' w hL t i K A h hk
   |true=>exact Qb D L p q p' q' w hD hL hf hfl t i K A h hk
theorem Qp (s:List UInt8)(hs:s.length=8):takeR (s.drop 4) 4=(un (s.drop 4),(s.drop 4).drop 4,0)/\un (s.drop 4)<4294967296:=by
 have hl:(s.drop 4).length=4:=by simp;omega
 refine⟨?_,?_⟩
 · rw[takeR,if_neg (by omega),if_neg (by rw[hl];omega),show(4:Int).toNat=4 from rfl,List.take_of_length_le (by omega)]
 · have:=By (s.drop 4);rw[hl]at this;exact this
theorem K8 (c:UInt8)(r:List UInt8)(h:r.length=7):
 Pn.entOf (c::r)=if Pn.entOk (c.toNat:Int) (un (r.drop 3):Nat)=true/\[c,0,0,0]++be 4 (un (r.drop 3))=c::r then(((c.toNat:Int),((un (r.drop 3):Nat):Int)),0)else((0,0),14):=by
 have e:=Pn.entOf_ref (s:=c::r) (by simp[h]);have e1:un ((c::r).take 1)=c.toNat:=by simp[un]
 have e2:be 1 c.toNat=[c]:=by simp[be]
 rw[e1,e2]at e;exact e
theorem P4 (D:Dk)(L:Pn)(p q p' q':Pl)(w:World)(t i:Int)(h:Pn.refused t i):
 CR 97 #[dval D p q,pval L p' q',.int .i64 t,.int .i64 i] w (.tuple #[AH (Pn.tabGet D L t i).1.1 (Pn.tabGet D L t i).1.2,.int .i64 (Pn.tabGet D L t i).2]):=by
 have Hw:=hid (Pn.tabGet_refused (D:=D) (L:=L) h);have hp:=fun W=>CP t i W
 rw[decide_eq_true h]at hp;clear h;obtain⟨A1,a1⟩:=p;obtain⟨A2,a2⟩:=q;obtain⟨B1,b1⟩:=p';obtain⟨B2,b2⟩:=q';have hB:=Y0 w;have x:=apc5 (Blk.new w 25) D A1 a1 A2 a2;have a4:=Ya hB x;have z:=apc2 (Yd a4 63) L B1 b1 B2 b2;simp only[Ys]at z;have a0:=Ya a4 z;have a5:=Yc x a0;have r:=Yd a0 102 #[.int .i64 0,.int .i64 0];simp only[Ys]at r;have rk:=blk2 r;have a8:=r.fz;have a3:=Ya a0 r;have a6:=Yc a5 a3;have a7:=Yc z a3;go_enter Tryz.func97,Tryz.ntmps97;go_wp2_with fail
 refine((hp _)).mono ?_;rintro e w1 ⟨rfl,hb1⟩;replace hB:=bt a3 hb1;replace x:=a6.bl hb1;replace z:=a7.bl hb1;replace r:=r.bl hb1;replace rk:=blk2 r;replace a8:=r.fz;clear a4 a0 a5 a3 a6 a7;go_wp2_with fail
 rw[Hw.out];have yy:=blk2 (Aj r (.int .i64 0) (.int .i64 0));have b9:=Ae hB (g:=w.heap.size+1+1) (by omega) (.int .i64 0) (.int .i64 0);refine bodyPost_ret (v:=.tuple #[AH 0 0,.int .i64 10]) (by simp[results,Tryz.results97,go_sem,yy]) rfl ?_;exact⟨rfl,b9⟩
theorem P7 (D:Dk)(L:Pn)(p q p' q':Pl)(w:World)(hD:IsDk w D p q)(hL:IsPn w L p' q')(hf:D.fit=true)(hfl:L.Fit)(t i:Int)(h:¬Pn.refused t i):
 CR 97 #[dval D p q,pval L p' q',.int .i64 t,.int .i64 i] w (.tuple #[AH (Pn.tabGet D L t i).1.1 (Pn.tabGet D L t i).1.2,.int .i64 (Pn.tabGet D L t i).2]):=by
 have hp:=fun W=>CP t i W
 rw[decide_eq_false h]at hp;have af:=fun W=>IT t i h W
 have ae:=fun(W:World)(hb:Below w.heap.size w W)=>Co D L p q p' q' W (hD.below hb) (hL.below hb) (Pn.entAt t i) ((Dk.fit_parts hf).2.2.1) (by have:=hfl.2.1;omega) hfl.1
 have ho:0<=Pn.entOff i/\Pn.entOff i<=56:=by unfold Pn.refused at h;unfold Pn.entOff;omega
 obtain⟨b,er,hb⟩:∃b er,Pn.look D L (Pn.entAt t i)=(b,er):=⟨_,_,rfl⟩;simp only[hb]at ae;have ab:er=0->b.length=64:=fun h=>by have:=Pn.look_full hf hfl (k:=Pn.entAt t i) (by rw[hb];exact h);rw[hb]at this;exact this
 have Hw:=hid (show Pn.tabGet D L t i=if er≠0 then((0,0),er)else Pn.entOf (cut b (Pn.entOff i).toNat 8) by rw[Pn.tabGet,if_neg h,hb]);generalize Pn.entAt t i=at_ at*;obtain⟨o,hoo⟩:∃o:Nat,Pn.entOff i=o:=Int.eq_ofNat_of_zero_le ho.1;rw[hoo]at af Hw ho;rw[Int.toNat_natCast]at Hw;have al:o<=56:=by omega
 clear h hb hD hL hf hfl hoo ho;obtain⟨A1,a1⟩:=p;obtain⟨A2,a2⟩:=q;obtain⟨B1,b1⟩:=p';obtain⟨B2,b2⟩:=q';have hB:=Y0 w;obtain⟨x,xk⟩:=Z5 (apc5 (Blk.new w 25) D A1 a1 A2 a2);have a7:=Ya hB x;have z:=apc2 (Yd a7 63) L B1 b1 B2 b2;simp only[Ys]at z;have zk:=blk2 z;have a4:=Ya a7 z;have ag:=Yc x a4;have r:=Yd a4 102 #[.int .i64 0,.int .i64 0];simp only[Ys]at r;have rk:=blk2 r;have a6:=r.fz;have a5:=Ya a4 r;have ah:=Yc ag a5;have ai:=Yc z a5;go_enter Tryz.func97,Tryz.ntmps97;go_wp2_with fail
 refine((hp _)).mono ?_;rintro e w1 ⟨rfl,hb1⟩;replace hB:=bt a5 hb1;replace x:=ah.bl hb1;replace xk:=blk5 x;replace z:=ai.bl hb1;replace zk:=blk2 z;replace r:=r.bl hb1;replace rk:=blk2 r;replace a6:=r.fz;clear a7 a4 ag a5 ah ai;go_wp2_with fail
 refine((af _)).mono ?_;rintro e w2 ⟨rfl,hb2⟩;replace hB:=bt hB hb2;replace x:=x.bl hb2;replace xk:=blk5 x;replace z:=z.bl hb2;replace zk:=blk2 z;replace r:=r.bl hb2;replace rk:=blk2 r;replace a6:=r.fz;go_wp2_with fail
 refine((ae _ hB)).mono ?_;rintro e w3 ⟨rfl,hb3⟩;replace hB:=bt hB hb3;replace x:=x.bl hb3;replace xk:=blk5 x;replace z:=z.bl hb3;replace zk:=blk2 z;replace r:=r.bl hb3;replace rk:=blk2 r;replace a6:=r.fz;by_cases h1:er=0
 case neg=>
  have n1:(er !=0)=true:=by simpa using h1
  have Hr:=hid (show Pn.tabGet D L t i=((0,0),er) by rw[Hw.out,if_pos h1]);clear h1;go_wp2_with fail
  rw[Hr.out];have yy:=blk2 (Aj r (.int .i64 0) (.int .i64 0));have b9:=Ae hB (g:=w.heap.size+1+1) (by omega) (.int .i64 0) (.int .i64 0);refine bodyPost_ret (v:=.tuple #[AH 0 0,.int .i64 er]) (by simp[results,Tryz.results97,go_sem,yy]) rfl ?_;exact⟨rfl,b9⟩
 subst h1;have hl:=ab rfl;have hcut:cut b o 8=(b.take (o+8)).drop o:=by rw[cut,List.drop_take];congr 1;omega
 have Hr:=hid (show Pn.tabGet D L t i=Pn.entOf ((b.take (o+8)).drop o) by rw[Hw.out,if_neg (by simp),hcut]);have ac:((b.take (o+8)).drop o).length=8:=by simp;omega
 clear hcut;generalize hs:(b.take (o+8)).drop o=s at Hr ac;obtain⟨t1,t2⟩:=Qp s ac;have ht:=fun W=>DJ (s.drop 4) (by rw[List.length_drop];unfold maxLen;omega) 4 W
 rw[t1]at ht;obtain⟨c,r7,rfl⟩:∃c r7,s=c::r7:=by cases s with
  |nil=>simp at ac
  |cons c r7=>exact⟨c,r7,rfl⟩
 have aj:r7.length=7:=by simpa using ac
 have e7:List.take 7 r7=r7:=List.take_of_length_le (by omega);have Hq:=hid (K8 c r7 aj);rw[List.drop_succ_cons]at ht t2;generalize Pn.entOf (c::r7)=E at Hr Hq;generalize un (r7.drop 3)=n at ht t2 Hq;have ad:=fun W=>IR c n t2 W
 have aa:=fun W=>E9 (c.toNat:Int) (n:Int) W
 have am:=i64w (x:=(n:Int)) (by omega);have c0:0<=(c.toNat:Int):=by omega
 have c1:(c.toNat:Int)<=255:=by have:=c.toNat_lt;omega
 clear ab ae hp af t1;go_wp2_with fail
 refine((ht _)).mono ?_;rintro e w4 ⟨rfl,hb4⟩;replace hB:=bt hB hb4;replace x:=x.bl hb4;replace xk:=blk5 x;replace z:=z.bl hb4;replace zk:=blk2 z;replace r:=r.bl hb4;replace rk:=blk2 r;replace a6:=r.fz;obtain⟨y,yk⟩:=Z2 (Blk.new w4 102 #[.int .i64 (c.toNat:Int),.int .i64 n]);have a0:=Ya hB y;have a8:=Yc x a0;have a9:=Yc z a0;have a3:=Yc r a0;cases hE:Pn.entOk (c.toNat:Int) (n:Int)with
 |false=>
  have Hs:=hid (show Pn.tabGet D L t i=((0,0),14) by rw[Hr.out,Hq.out,if_neg (by rw[hE];simp)]);rw[hE]at aa;clear hE;go_wp2_with fail
  refine((aa _)).mono ?_;rintro e w5 ⟨rfl,hb5⟩;replace hB:=bt a0 hb5;replace x:=a8.bl hb5;replace xk:=blk5 x;replace z:=a9.bl hb5;replace zk:=blk2 z;replace r:=a3.bl hb5;replace rk:=blk2 r;replace a6:=r.fz;replace y:=y.bl hb5;replace yk:=blk2 y;clear a0 a8 a9 a3;go_wp2_with fail
  rw[Hs.out];have yy:=blk2 (Aj r (.int .i64 0) (.int .i64 0));have b9:=Ae hB (g:=w.heap.size+1+1) (by omega) (.int .i64 0) (.int .i64 0);refine bodyPost_ret (v:=.tuple #[AH 0 0,.int .i64 14]) (by simp[results,Tryz.results97,go_sem,yy]) rfl ?_;exact⟨rfl,b9⟩
 |true=>
  rw[hE]at aa;by_cases hq:[c,0,0,0]++be 4 n=c::r7
  · have Hs:=hid (show Pn.tabGet D L t i=(((c.toNat:Int),(n:Int)),0) by rw[Hr.out,Hq.out,if_pos ⟨hE,hq⟩]);rw[hq]at ad;clear hE hq;go_wp2_with fail
    refine((aa _)).mono ?_;rintro e w5 ⟨rfl,hb5⟩;replace hB:=bt a0 hb5;replace x:=a8.bl hb5;replace xk:=blk5 x;replace z:=a9.bl hb5;replace zk:=blk2 z;replace r:=a3.bl hb5;replace rk:=blk2 r;replace a6:=r.fz;replace y:=y.bl hb5;replace yk:=blk2 y;clear a0 a8 a9 a3;go_wp2_with fail
    refine((ad _)).mono ?_;rintro e w6 ⟨rfl,hb6⟩;replace hB:=bt hB hb6;replace x:=x.bl hb6;replace xk:=blk5 x;replace z:=z.bl hb6;replace zk:=blk2 z;replace r:=r.bl hb6;replace rk:=blk2 r;replace a6:=r.fz;replace y:=y.bl hb6;replace yk:=blk2 y;go_wp2_with fail
    rw[Hs.out];have yy:=blk2 (Aj r (.int .i64 (c.toNat:Int)) (.int .i64 n));have b9:=Ae hB (g:=w.heap.size+1+1) (by omega) (.int .i64 (c.toNat:Int)) (.int .i64 n);refine bodyPost_ret (v:=.tuple #[AH (c.toNat:Int) n,.int .i64 0]) (by simp[results,Tryz.results97,go_sem,yy]) rfl ?_;exact⟨rfl,b9⟩
  · have Hs:=hid (show Pn.tabGet D L t i=((0,0),14) by rw[Hr.out,Hq.out,if_neg (fun h=>hq h.2)]);have ak:(([c,0,0,0]++be 4 n)==c::r7)=false:=by rw[beq_eq_false_iff_ne];exact hq
    clear hE hq;generalize [c,0,0,0]++be 4 n=T at*;go_wp2_with fail
    refine((aa _)).mono ?_;rintro e w5 ⟨rfl,hb5⟩;replace hB:=bt a0 hb5;replace x:=a8.bl hb5;replace xk:=blk5 x;replace z:=a9.bl hb5;replace zk:=blk2 z;replace r:=a3.bl hb5;replace rk:=blk2 r;replace a6:=r.fz;replace y:=y.bl hb5;replace yk:=blk2 y;clear a0 a8 a9 a3;go_wp2_with fail
    refine((ad _)).mono ?_;rintro e w6 ⟨rfl,hb6⟩;replace hB:=bt hB hb6;replace x:=x.bl hb6;replace xk:=blk5 x;replace z:=z.bl hb6;replace zk:=blk2 z;replace r:=r.bl hb6;replace rk:=blk2 r;replace a6:=r.fz;replace y:=y.bl hb6;replace yk:=blk2 y;go_wp2_with fail
    rw[Hs.out];have yy:=blk2 (Aj r (.int .i64 0) (.int .i64 0));have b9:=Ae hB (g:=w.heap.size+1+1) (by omega) (.int .i64 0) (.int .i64 0);refine bodyPost_ret (v:=.tuple #[AH 0 0,.int .i64 14]) (by simp[results,Tryz.results97,go_sem,yy]) rfl ?_;exact⟨rfl,b9⟩
theorem DP (D:Dk)(L:Pn)(p q p' q':Pl)(w:World)(hD:IsDk w D p q)(hL:IsPn w L p' q')(hf:D.fit=true)(hfl:L.Fit)(t i:Int):
 CR 97 #[dval D p q,pval L p' q',.int .i64 t,.int .i64 i] w (.tuple #[AH (Pn.tabGet D L t i).1.1 (Pn.tabGet D L t i).1.2,.int .i64 (Pn.tabGet D L t i).2]):=by
 by_cases h:Pn.refused t i
 · exact P4 D L p q p' q' w t i h
 · exact P7 D L p q p' q' w hD hL hf hfl t i h
theorem PZ (D:Dk)(L:Pn)(p q p' q':Pl)(w:World)(t g:Int)(h:g<0\/64<=g):
 CR 56 #[dval D p q,pval L p' q',.int .i64 t,.int .i64 g] w (.tuple #[AH (Pn.tabFind D L t g).1.1 (Pn.tabFind D L t g).1.2,.int .i64 (Pn.tabFind D L t g).2]):=by
 have Hr:=hid (show Pn.tabFind D L t g=((0,0),10) by rw[Pn.tabFind,if_pos h]);obtain⟨A1,a1⟩:=p;obtain⟨A2,a2⟩:=q;obtain⟨B1,b1⟩:=p';obtain⟨B2,b2⟩:=q';have hB:=Y0 w;have x:=apc5 (Blk.new w 25) D A1 a1 A2 a2;have a0:=Ya hB x;have z:=apc2 (Yd a0 63) L B1 b1 B2 b2;simp only[Ys]at z;have a3:=Ya a0 z;have r:=Yd a3 102 #[.int .i64 0,.int .i64 0];simp only[Ys]at r;have rk:=blk2 r;have a5:=r.fz;have a4:=Ya a3 r;by_cases h0:g<0
 · clear h;go_enter Tryz.func56,Tryz.ntmps56;go_wp2_with fail
   rw[Hr.out];refine bodyPost_ret (v:=.tuple #[AH 0 0,.int .i64 10]) (by simp[results,Tryz.results56,go_sem]) rfl ?_;exact⟨rfl,a4⟩
 · have h1:64<=g:=by omega
   clear h;go_enter Tryz.func56,Tryz.ntmps56;go_wp2_with fail
   rw[Hr.out];refine bodyPost_ret (v:=.tuple #[AH 0 0,.int .i64 10]) (by simp[results,Tryz.results56,go_sem]) rfl ?_;exact⟨rfl,a4⟩
theorem P3 (D:Dk)(L:Pn)(p q p' q':Pl)(w:World)(hD:IsDk w D p q)(hL:IsPn w L p' q')(hf:D.fit=true)(hfl:L.Fit)(t:Int)(g:Nat)(h:g<64):
 CR 56 #[dval D p q,pval L p' q',.int .i64 t,.int .i64 g] w (.tuple #[AH (Pn.tabFind D L t g).1.1 (Pn.tabFind D L t g).1.2,.int .i64 (Pn.tabFind D L t g).2]):=by
 have g0:(0:Int)<=(g:Int):=by omega
 have a9:=fun(W:World)(hb:Below w.heap.size w W)=>DP D L p q p' q' W (hD.below hb) (hL.below hb) hf hfl t ((g:Int)/16)
 have ag:=fun(W:World)(hb:Below w.heap.size w W)(T:Int)=>DP D L p q p' q' W (hD.below hb) (hL.below hb) hf hfl T ((g:Int)%16)
 have Hw:=hid (show Pn.tabFind D L t g=if(Pn.tabGet D L t ((g:Int)/16)).2≠0\/(Pn.tabGet D L t ((g:Int)/16)).1.1=0 then((0,0),(Pn.tabGet D L t ((g:Int)/16)).2)
  else if(Pn.tabGet D L t ((g:Int)/16)).1.1=2 then((0,0),14)else Pn.tabGet D L (Pn.tabGet D L t ((g:Int)/16)).1.2 ((g:Int)%16) by rw[Pn.tabFind,if_neg (by omega)])
 have ab:=Pn.tabGet_small D L t ((g:Int)/16);generalize Pn.tabGet D L t ((g:Int)/16)=E at a9 Hw ab;obtain⟨⟨K,A⟩,er⟩:=E;simp only at a9 Hw ab;obtain⟨s1,s2,s3,s4⟩:=ab;clear hD hL hf hfl;obtain⟨A1,a1⟩:=p;obtain⟨A2,a2⟩:=q;obtain⟨B1,b1⟩:=p';obtain⟨B2,b2⟩:=q';have hB:=Y0 w;have x:=apc5 (Blk.new w 25) D A1 a1 A2 a2;have a6:=Ya hB x;have z:=apc2 (Yd a6 63) L B1 b1 B2 b2;simp only[Ys]at z;have a5:=Ya a6 z;have ai:=Yc x a5;have r:=Yd a5 102 #[.int .i64 0,.int .i64 0];simp only[Ys]at r;have rk:=blk2 r;have ah:=r.fz;have a3:=Ya a5 r;obtain⟨aj,ac⟩:=Z5 (Yc ai a3);obtain⟨al,ae⟩:=Z2 (Yc z a3);go_enter Tryz.func56,Tryz.ntmps56;go_wp2_with fail
 refine((a9 _ a3)).mono ?_;rintro e w1 ⟨rfl,hb1⟩;replace hB:=bt a3 hb1;replace x:=aj.bl hb1;replace z:=al.bl hb1;replace r:=r.bl hb1;replace rk:=blk2 r;replace ah:=r.fz;clear a6 a5 ai a3 ac aj ae al;obtain⟨y,yk⟩:=Z2 (Blk.new w1 102 #[.int .i64 K,.int .i64 A]);have a0:=Ya hB y;obtain⟨ak,ad⟩:=Z5 (Yc x a0);obtain⟨am,af⟩:=Z2 (Yc z a0);obtain⟨a4,a8,a7⟩:=Z2f (Yc r a0);by_cases h1:er=0
 case neg=>
  have n1:(er !=0)=true:=by simpa using h1
  have Hr:=hid (show Pn.tabFind D L t g=((0,0),er) by rw[Hw.out,if_pos (.inl h1)]);clear h1;go_wp2_with fail
  rw[Hr.out];have yy:=blk2 (Aj a4 (.int .i64 0) (.int .i64 0));have b9:=Ae a0 (g:=w.heap.size+1+1) (by first|exact Nat.le_refl _|(simp;omega)|omega) (.int .i64 0) (.int .i64 0);refine bodyPost_ret (v:=.tuple #[AH 0 0,.int .i64 er]) (by simp[results,Tryz.results56,go_sem,yy]) rfl ?_;exact⟨rfl,b9⟩
 subst h1;by_cases h2:K=0
 · subst h2;have Hr:=hid (show Pn.tabFind D L t g=((0,0),0) by rw[Hw.out,if_pos (.inr rfl)]);go_wp2_with fail
   rw[Hr.out];have yy:=blk2 (Aj a4 (.int .i64 0) (.int .i64 0));have b9:=Ae a0 (g:=w.heap.size+1+1) (by first|exact Nat.le_refl _|(simp;omega)|omega) (.int .i64 0) (.int .i64 0);refine bodyPost_ret (v:=.tuple #[AH 0 0,.int .i64 0]) (by simp[results,Tryz.results56,go_sem,yy]) rfl ?_;exact⟨rfl,b9⟩
 · have n2:(K==0)=false:=by simpa using h2
   by_cases h3:K=2
   · subst h3;have Hr:=hid (show Pn.tabFind D L t g=((0,0),14) by rw[Hw.out,if_neg (by simp),if_pos rfl]);clear h2;go_wp2_with fail
     rw[Hr.out];have yy:=blk2 (Aj a4 (.int .i64 0) (.int .i64 0));have b9:=Ae a0 (g:=w.heap.size+1+1) (by first|exact Nat.le_refl _|(simp;omega)|omega) (.int .i64 0) (.int .i64 0);refine bodyPost_ret (v:=.tuple #[AH 0 0,.int .i64 14]) (by simp[results,Tryz.results56,go_sem,yy]) rfl ?_;exact⟨rfl,b9⟩
   · have n3:(K==2)=false:=by simpa using h3
     have Hr:=hid (show Pn.tabFind D L t g=Pn.tabGet D L A ((g:Int)%16) by rw[Hw.out,if_neg (by simp[h2]),if_neg h3]);have aa:=fun(W:World)(hb:Below w.heap.size w W)=>ag W hb A
     clear h2 h3 ag a9;generalize Pn.tabGet D L A ((g:Int)%16)=E2 at aa Hr;obtain⟨⟨K2,A2'⟩,er2⟩:=E2;simp only at aa;go_wp2_with fail
     refine((aa _ a0)).mono ?_;rintro e w2 ⟨rfl,hb2⟩;replace hB:=bt a0 hb2;replace x:=ak.bl hb2;replace z:=am.bl hb2;replace r:=a4.bl hb2;replace rk:=blk2 r;replace ah:=r.fz;replace y:=y.bl hb2;replace yk:=blk2 y;clear a0 ad ak af am a8 a7 a4;go_wp2_with fail
     rw[Hr.out];have yy:=blk2 (Aj r (.int .i64 K2) (.int .i64 A2'));have b9:=Ae hB (g:=w.heap.size+1+1) (by first|exact Nat.le_refl _|(simp;omega)|omega) (.int .i64 K2) (.int .i64 A2');refine bodyPost_ret (v:=.tuple #[AH K2 A2',.int .i64 er2]) (by simp[results,Tryz.results56,go_sem,yy]) rfl ?_;exact⟨rfl,b9⟩
theorem IS (D:Dk)(L:Pn)(p q p' q':Pl)(w:World)(hD:IsDk w D p q)(hL:IsPn w L p' q')(hf:D.fit=true)(hfl:L.Fit)(t g:Int):
 CR 56 #[dval D p q,pval L p' q',.int .i64 t,.int .i64 g] w (.tuple #[AH (Pn.tabFind D L t g).1.1 (Pn.tabFind D L t g).1.2,.int .i64 (Pn.tabFind D L t g).2]):=by
 by_cases h:g<0\/64<=g
 · exact PZ D L p q p' q' w t g h
 · obtain⟨g,rfl⟩:=Int.eq_ofNat_of_zero_le (show 0<=g by omega);exact P3 D L p q p' q' w hD hL hf hfl t g (by omega)
theorem CK (x:Im)(L:Pn)(p q r p' q':Pl)(w:World)(hI:IsIm w x p q r)(hL:IsPn w L p' q')(ok:x.Ok)(hfl:L.Fit):
 CX 35 #[imval x p q r,pval L p' q'] w (RetIm w.heap.size x p q r (x.done L)):=by
 have hc:=fun(W:World)(hb:Below w.heap.size w W)=>Ox x.d x.j L p q p' q' W (hI.d.below hb) (hL.below hb) ok.d hfl (by have:=ok.seq;omega) ok.pos
 have ao:=fun g (hg:w.heap.size<=g)=>hI.apart hg
 have HD:=hid (show x.done L=if(jrCommit x.d x.j L).2.2≠0 then({x with d:=(jrCommit x.d x.j L).1,br:=true},(jrCommit x.d x.j L).2.2)else({x with d:=(jrCommit x.d x.j L).1,j:=(jrCommit x.d x.j L).2.1},0)from rfl);generalize jrCommit x.d x.j L=X at hc HD;obtain⟨E,j,er⟩:=X;have hm:=hI.m;clear hI hL ok hfl;obtain⟨D,g,h,⟨seq,pos⟩,maps,br⟩:=x;obtain⟨js,jp⟩:=j;simp only at hc HD ao hm;obtain⟨A1,a1⟩:=p;obtain⟨A2,a2⟩:=q;obtain⟨A3,a3⟩:=r;obtain⟨B1,b1⟩:=p';obtain⟨B2,b2⟩:=q';have hB:=Y0 w;have x:=Am (Blk.new w 33) D A1 a1 A2 a2 g h seq pos A3 maps.length a3 br;have ag:=Ya hB x;have ar:=hm.below (Yb ag);have z:=apc2 (Yd ag 63) L B1 b1 B2 b2;simp only[Ys]at z;have ab:=Ya ag z;have au:=ar.below (Yb ab);have aU:=Yc x ab;have r:=apz (Yd ab 33);simp only[Ys]at r;have a8:=Ya ab r;have av:=au.below (Yb a8);obtain⟨aV,aL⟩:=Z11 (Yc aU a8);obtain⟨aY,aR⟩:=Z2 (Yc z a8);go_enter Tryz.func35,Tryz.ntmps35;go_wp2_with fail
 refine((hc _ a8)).mono ?_;rintro e w1 ⟨⟨⟨P1,e1⟩,⟨Q1,f1⟩,rfl,d1,o1⟩,hb1⟩;replace hB:=bt a8 hb1;replace hm:=av.below hb1;replace x:=aV.bl hb1;replace z:=aY.bl hb1;replace r:=r.bl hb1;clear ag ar ab au aU a8 av aL aV aR aY;have aZ:=r.lt;have aD:=(ao w.heap.size (Nat.le_refl _));have aC:=(ao (w.heap.size+1+1) (by omega));have mx:=aD.2;have mr:=aC.2;have dx:=o1 w.heap.size (by simp only[Ys];omega) aD.1;have dr:=o1 (w.heap.size+1+1) (by simp only[Ys];omega) aC.1;have O1:=fun g (h1:g<w.heap.size)(h2:DkOff g D ⟨A1,a1⟩ ⟨A2,a2⟩)=>o1 g (by simp only[Ys];omega) h2
 clear o1 aD aC;have u:=apc5 (Blk.new w1 25) E P1 e1 Q1 f1;have a6:=Ya hB u;have ap:=hm.below (Yb a6);have aJ:=Yc x a6;have aO:=Yc z a6;have aE:=Yc r a6;have am:=d1.below (Yb a6);have v:=Yd a6 30 #[.int .u64 js,.int .i64 jp];simp only[Ys]at v;have a7:=Ya a6 v;have aq:=ap.below (Yb a7);obtain⟨aK,aW,aM⟩:=Z11f (Yc aJ a7);have aP:=Yc aO a7;have aF:=Yc aE a7;have an:=am.below (Yb a7);obtain⟨aG,aS⟩:=Z5 (Yc u a7);have a5:=(((((a7).setCell (p:=⟨w.heap.size,0,none⟩) (by show _<=(w.heap.size:Nat);omega) (.string (bs E.data))).setCell (p:=⟨w.heap.size,1,none⟩) (by show _<=(w.heap.size:Nat);omega) (.slice P1 E.cache.length e1)).setCell (p:=⟨w.heap.size,2,none⟩) (by show _<=(w.heap.size:Nat);omega) (.int .i64 E.fuse)).setCell (p:=⟨w.heap.size,3,none⟩) (by show _<=(w.heap.size:Nat);omega) (.bool E.off)).setCell (p:=⟨w.heap.size,4,none⟩) (by show _<=(w.heap.size:Nat);omega) (.slice Q1 E.bad.length f1);have ai:=aq.ob a5 (by assumption);have ae:=(((((aK).set 0 (.string (bs E.data))).set 1 (.slice P1 E.cache.length e1)).set 2 (.int .i64 E.fuse)).set 3 (.bool E.off)).set 4 (.slice Q1 E.bad.length f1);simp only[Ye]at ae;have aX:=Aa ae;have aN:=ae.fz;have aB:=Yi aP a5 (by omega);have aw:=Yi aF a5 (by omega);have ah:=an.ob a5 (by assumption);have ay:=Yi aG a5 (by omega);obtain⟨az,aT⟩:=Z2 (Yi v a5 (by omega));by_cases he:er=0
 · subst he;have Hr:=hid (show Im.done ⟨D,g,h,⟨seq,pos⟩,maps,br⟩ L=(⟨E,g,h,⟨js,jp⟩,maps,br⟩,0) by rw[HD.out];exact if_neg (by simp));clear HD hc ao;have a0:=((a5).setCell (p:=⟨w.heap.size,7,none⟩) (by show _<=(w.heap.size:Nat);omega) (.int .u64 js)).setCell (p:=⟨w.heap.size,8,none⟩) (by show _<=(w.heap.size:Nat);omega) (.int .i64 jp);have ac:=((ai).off (a:=⟨w.heap.size,7,none⟩) (by first|assumption|omega) (.int .u64 js)).off (a:=⟨w.heap.size,8,none⟩) (by first|assumption|omega) (.int .i64 jp);have af:=((ae).set 7 (.int .u64 js)).set 8 (.int .i64 jp);simp only[Ye]at af;have aA:=Aa af;have aQ:=((aB).other (a:=⟨w.heap.size,7,none⟩) (by show _≠(w.heap.size:Nat);omega) (.int .u64 js)).other (a:=⟨w.heap.size,8,none⟩) (by show _≠(w.heap.size:Nat);omega) (.int .i64 jp);obtain⟨aj,ax,al⟩:=Z11f (((aw).other (a:=⟨w.heap.size,7,none⟩) (by show _≠(w.heap.size:Nat);omega) (.int .u64 js)).other (a:=⟨w.heap.size,8,none⟩) (by show _≠(w.heap.size:Nat);omega) (.int .i64 jp));have a9:=((ah).off (a:=⟨w.heap.size,7,none⟩) (by first|assumption|omega) (.int .u64 js)).off (a:=⟨w.heap.size,8,none⟩) (by first|assumption|omega) (.int .i64 jp);have aH:=((ay).other (a:=⟨w.heap.size,7,none⟩) (by show _≠(w.heap.size:Nat);omega) (.int .u64 js)).other (a:=⟨w.heap.size,8,none⟩) (by show _≠(w.heap.size:Nat);omega) (.int .i64 jp);have aI:=((az).other (a:=⟨w.heap.size,7,none⟩) (by show _≠(w.heap.size:Nat);omega) (.int .u64 js)).other (a:=⟨w.heap.size,8,none⟩) (by show _≠(w.heap.size:Nat);omega) (.int .i64 jp);have a4:=ap11 (Al a0 (g:=w.heap.size+1+1) (by omega)) E P1 e1 Q1 f1 g h js jp A3 maps.length a3 br;have ad:=ac.oc a4 (by assumption);have ak:=Yh aj a4;have aa:=a9.oc a4 (by assumption);have yy:=Aa ak;go_wp2_with fail
   rw[Hr.out];exact retIm aa ad (fun g h1 h2=>⟨O1 g h1 h2.1,h2.2⟩) a4 (by simp[results,Tryz.results35,go_sem,yy]) rfl
 · have n1:(er !=0)=true:=bne_iff_ne.2 he;have Hr:=hid (show Im.done ⟨D,g,h,⟨seq,pos⟩,maps,br⟩ L=(⟨E,g,h,⟨seq,pos⟩,maps,true⟩,er) by rw[HD.out];exact if_pos he);clear HD hc ao he;have a0:=(a5).setCell (p:=⟨w.heap.size,10,none⟩) (by show _<=(w.heap.size:Nat);omega) (.bool true);have ac:=ai.o1 a0 (by assumption);have af:=(ae).set 10 (.bool true);simp only[Ye]at af;have aA:=Aa af;have aQ:=Yx aB a0 (by omega);obtain⟨aj,ax,al⟩:=Z11f (Yx aw a0 (by omega));have a9:=ah.o1 a0 (by assumption);have aH:=Yx ay a0 (by omega);have aI:=Yx az a0 (by omega);have a4:=ap11 (Al a0 (g:=w.heap.size+1+1) (by omega)) E P1 e1 Q1 f1 g h seq pos A3 maps.length a3 true;have ad:=ac.oc a4 (by assumption);have ak:=Yh aj a4;have aa:=a9.oc a4 (by assumption);have yy:=Aa ak;go_wp2_with fail
   rw[Hr.out];exact retIm aa ad (fun g h1 h2=>⟨O1 g h1 h2.1,h2.2⟩) a4 (by simp[results,Tryz.results35,go_sem,yy]) rfl
theorem NF (D:Dk)(p q:Pl)(w:World)(hD:IsDk w D p q)(hf:D.fit=true)(k:Int)(hk0: -1000000<=k)(hk1:k<=1000000):
 CR 100 #[dval D p q,.int .i64 k] w (.tuple #[.string (bs (Im.clus D k).1),.int .i64 (Im.clus D k).2]):=by
 have a4:=fun W=>BR k hk0 hk1 W
 have hl:=(Dk.fit_parts hf).2.2.1;have a7:=fun(W:World)(hb:Below w.heap.size w W)=>DC D p q W (hD.below hb) (96+2*k) hl
 have a5:=fun(W:World)(hb:Below w.heap.size w W)=>DC D p q W (hD.below hb) (96+2*k+1) hl
 have l1:=Dk.read_len hf (96+2*k);have l2:=Dk.read_len hf (96+2*k+1);have HC:=hid (show Im.clus D k=if(D.read (96+2*k)).2≠0 then([],(D.read (96+2*k)).2)else if(D.read (96+2*k+1)).2≠0 then([],(D.read (96+2*k+1)).2)else((D.read (96+2*k)).1++(D.read (96+2*k+1)).1,0)from rfl);generalize D.read (96+2*k)=R1 at*;generalize D.read (96+2*k+1)=R2 at*;obtain⟨s1,e1⟩:=R1;obtain⟨s2,e2⟩:=R2;simp only at a7 a5 HC l1 l2;obtain⟨a,ha⟩:∃a:Int,96+2*k=a:=⟨_,rfl⟩;rw[ha]at a4 a7 a5;have a8: -10000000<=a/\a<=10000000:=by omega
 clear hl ha hD hf;obtain⟨A1,a1⟩:=p;obtain⟨A2,a2⟩:=q;have hB:=Y0 w;have x:=apc5 (Blk.new w 25) D A1 a1 A2 a2;have a0:=Ya hB x;go_enter Tryz.func100,Tryz.ntmps100;go_wp2_with fail
 generalize (w.alloc (.cells #[.string (bs D.data),.slice A1 D.cache.length a1,.int .i64 D.fuse,.bool D.off,.slice A2 D.bad.length a2] 25))=V at a0 x ⊢;clear hB;have hB:=a0;clear a0;have X5:=ext5 x;have D1:=fun e:Ext V=>a4 e.world
 have D2:=fun e:Ext V=>a7 e.world (bt hB e.below)
 refine Az mixed (by kernel_rfl) ?_
 repeat (go_big_quiet_step (((first|(go_at_call 63;with_reducible exact An (D1 _))|(go_at_call 98;with_reducible exact An (D2 _))))))
 refine wpQuiet_nil ?_;rintro V1 ⟨pq_,hpq_⟩;have a6:=pq_.below;rw[<-hpq_]at a6;clear hpq_ pq_;clear X5 D1 D2;replace hB:=bt hB a6;replace x:=x.bl a6;by_cases h1:e1=0
 · subst h1;by_cases h2:e2=0
   · subst h2;have Hr:=hid (show Im.clus D k=(s1++s2,0) by rw[HC.out];exact(if_neg (by simp)).trans (if_neg (by simp)));clear HC;go_wp2_with fail
     have X5:=ext5 x;have D1:=fun e:Ext V1=>a4 e.world
     have D2:=fun e:Ext V1=>a5 e.world (bt hB e.below)
     refine Az mixed (by kernel_rfl) ?_
     repeat (go_big_quiet_step (((first|(go_at_call 63;with_reducible exact An (D1 _))|(go_at_call 98;with_reducible exact An (D2 _))))))
     refine wpQuiet_nil ?_;rintro V2 ⟨pq_,hpq_⟩;have a3:=pq_.below;rw[<-hpq_]at a3;clear hpq_ pq_;clear X5 D1 D2;go_wp2_with fail
     go_ret2
     rw[Hr.out];exact⟨rfl,bt hB a3⟩
   · have n2:(e2 !=0)=true:=bne_iff_ne.2 h2;have Hr:=hid (show Im.clus D k=([],e2) by rw[HC.out];exact(if_neg (by simp)).trans (if_pos h2));clear HC h2;go_wp2_with fail
     have X5:=ext5 x;have D1:=fun e:Ext V1=>a4 e.world
     have D2:=fun e:Ext V1=>a5 e.world (bt hB e.below)
     refine Az mixed (by kernel_rfl) ?_
     repeat (go_big_quiet_step (((first|(go_at_call 63;with_reducible exact An (D1 _))|(go_at_call 98;with_reducible exact An (D2 _))))))
     refine wpQuiet_nil ?_;rintro V2 ⟨pq_,hpq_⟩;have a3:=pq_.below;rw[<-hpq_]at a3;clear hpq_ pq_;clear X5 D1 D2;go_wp2_with fail
     go_ret2
     rw[Hr.out];exact⟨rfl,bt hB a3⟩
 · have n1:(e1 !=0)=true:=bne_iff_ne.2 h1;have Hr:=hid (show Im.clus D k=([],e1) by rw[HC.out];exact if_pos h1);clear HC h1;go_wp2_with fail
   go_ret2
   rw[Hr.out];exact⟨rfl,hB⟩
theorem Tryz.zmake (n:Nat)(hn:n<=100000)(W:World):(Instr.makeSlice 139 (.int .i64 (n:Int)) (.int .i64 (n:Int))).run Tryz.prog W=.ok (.slice (some ⟨W.heap.size,0,none⟩) n n) (W.alloc (.cells (madeCells #[.int .u8 0] n) 5)):=by
 obtain⟨i0,hi,hz0,hz1,hz2⟩:=info_parts Tryz.infoByte;have a0:=BK (P:=Tryz.prog) 139 5 i0 (.int .u8 0) Tryz.underlying139 hi hz0 .i64 .i64 n n (Nat.le_refl _) (by rw[hz2];omega) (by omega) W;rw[hz1,Nat.mul_one]at a0;exact a0
theorem Tryz.zstr (n:Nat)(W:World):(convert 139 9 (.slice (some ⟨W.heap.size,0,none⟩) n n)).run Tryz.prog (W.alloc (.cells (madeCells #[.int .u8 0] n) 5))=.ok (.string (bs (List.replicate n 0))) (W.alloc (.cells (madeCells #[.int .u8 0] n) 5)):=by
 have a0:=run_convert_bytes_back (P:=Tryz.prog) (W.alloc (.cells (madeCells #[.int .u8 0] n) 5)) 139 9 5 ⟨W.heap.size,0,none⟩ n (List.replicate n 0) Tryz.underlying139 Tryz.underlying5 Tryz.underlying9 (fun j hj=>by
  have a1:j<n:=by simpa using hj
  rw[Bj,Nat.zero_add,(Blk.new W _ _).cell j,<-Array.getElem?_toList,toList_madeCells_one];simp[a1])
 rw[List.length_replicate,Ad]at a0;exact a0
theorem NJ (D:Dk)(p q:Pl)(w:World)(hD:IsDk w D p q)(hf:D.fit=true)(l1 u:Int):
 CR 60 #[dval D p q,.int .i64 l1,.int .i64 u] w (.tuple #[.string (bs (Im.rd D l1 u).1),.int .i64 (Im.rd D l1 u).2]):=by
 have a7:=fun(W:World)(hb:Below w.heap.size w W)=>IS D Pn.none p q ⟨none,0⟩ ⟨none,0⟩ W (hD.below hb) (AI _) hf Pn.none_fit l1 u
 have hc:=fun(W:World)(hb:Below w.heap.size w W)(k:Int)(h0: -1000000<=k)(h1:k<=1000000)=>NF D p q W (hD.below hb) hf k h0 h1
 have a9:=(Pn.tabFind_small D Pn.none l1 u).2.2;have HR:=hid (show Im.rd D l1 u=if(Pn.tabFind D Pn.none l1 u).2≠0 then([],(Pn.tabFind D Pn.none l1 u).2)else if(Pn.tabFind D Pn.none l1 u).1.1=1 then Im.clus D (Pn.tabFind D Pn.none l1 u).1.2 else(List.replicate 128 0,0)from rfl);generalize Pn.tabFind D Pn.none l1 u=Y at*;obtain⟨⟨K,A⟩,er⟩:=Y;simp only at a7 a9 HR;replace hc:=fun(W:World)(hb:Below w.heap.size w W)=>hc W hb A (by omega) (by omega)
 have aa:=fun W=>Tryz.zmake 128 (by decide) W
 have a6:=fun W=>Tryz.zstr 128 W
 rw[show((128:Nat):Int)=128 from rfl]at aa;generalize madeCells #[.int .u8 0] 128=MC at*;generalize List.replicate 128 (0:UInt8)=Z at*;clear hD hf;obtain⟨A1,a1⟩:=p;obtain⟨A2,a2⟩:=q;have hB:=Y0 w;obtain⟨x,xk⟩:=Z5 (apc5 (Blk.new w 25) D A1 a1 A2 a2);have a3:=Ya hB x;go_enter Tryz.func60,Tryz.ntmps60;go_wp2_with fail
 refine((a7 _ a3)).mono ?_;rintro e w1 ⟨rfl,hb1⟩;replace hB:=bt a3 hb1;replace x:=x.bl hb1;replace xk:=blk5 x;clear a3;obtain⟨y,yk⟩:=Z2 (Blk.new w1 102 #[.int .i64 K,.int .i64 A]);have a0:=Ya hB y;obtain⟨a8,a5⟩:=Z5 (Yc x a0);by_cases he:er=0
 · subst he;by_cases hK:K=1
   · subst hK;have Hr:=hid (show Im.rd D l1 u=Im.clus D A by rw[HR.out];exact(if_neg (by simp)).trans (if_pos rfl));clear HR;go_wp2_with fail
     refine((hc _ a0)).mono ?_;rintro e w2 ⟨rfl,hb2⟩;replace hB:=bt a0 hb2;replace x:=a8.bl hb2;replace xk:=blk5 x;replace y:=y.bl hb2;replace yk:=blk2 y;clear a0 a5 a8;go_wp2_with fail
     go_ret2
     rw[Hr.out];exact⟨rfl,hB⟩
   · have nK:(K==1)=false:=beq_eq_false_iff_ne.2 hK;have Hr:=hid (show Im.rd D l1 u=(Z,0) by rw[HR.out];exact(if_neg (by simp)).trans (if_neg hK));clear HR hK;have bw:=(a0).alloc (a0).size (.cells MC 5);have a4:=a6 (w1.alloc (.cells #[.int .i64 K,.int .i64 A] 102));simp only[Ys]at a4;clear a6;go_wp2_with fail
     go_ret2
     rw[Hr.out];exact⟨rfl,bw⟩
 · have n1:(er !=0)=true:=bne_iff_ne.2 he;have Hr:=hid (show Im.rd D l1 u=([],er) by rw[HR.out];exact if_pos he);clear HR he;go_wp2_with fail
   go_ret2
   rw[Hr.out];exact⟨rfl,a0⟩
def markTo (k i:Nat)(l:List Dm):List Dm:=(l.take i).map (fun m=>{m with bits:=m.bits.set k true})++l.drop i
theorem Mu (k:Nat)(l:List Dm):markTo k 0 l=l:=by simp[markTo]
theorem Mr {k:Nat}(hk:k<64)(l:List Dm):markTo k l.length l=Im.markM k l:=by
 rw[Im.markM,if_neg (by omega),Int.toNat_natCast];simp[markTo]
theorem Cg (k i:Nat)(l:List Dm):(markTo k i l).length=l.length:=by simp[markTo];omega
theorem Dn {k i:Nat}{l:List Dm}{m:Dm}(h:m∈markTo k i l):∃o∈l,m.name=o.name/\m.bits.length=o.bits.length:=by
 rcases List.mem_append.1 h with h|h
 · obtain⟨o,ho,rfl⟩:=List.mem_map.1 h;exact⟨o,List.mem_of_mem_take ho,rfl,by simp⟩
 · exact⟨m,List.mem_of_mem_drop h,rfl,rfl⟩
theorem Ms {k i:Nat}{l:List Dm}(h:i<l.length):(markTo k i l)[i]'(by rw[Cg];exact h)=l[i]:=by
 unfold markTo;rw[List.getElem_append_right (by simp;omega)];simp only[List.length_map,List.length_take,Nat.min_eq_left (Nat.le_of_lt h),Nat.sub_self,List.getElem_drop,Nat.add_zero]
theorem Mt {k i:Nat}{l:List Dm}(h:i<l.length):(markTo k i l).set i {l[i]with bits:=l[i].bits.set k true}=markTo k (i+1) l:=by
 unfold markTo;rw[List.set_append,if_neg (by simp;omega),List.length_map,List.length_take,Nat.min_eq_left (Nat.le_of_lt h),Nat.sub_self,List.drop_eq_getElem_cons h,List.set_cons_zero,List.take_succ_eq_append_getElem h,List.map_append,List.append_assoc];rfl
theorem NH (x:Im)(k:Int)(p q r:Pl)(w:World)(hI:IsIm w x p q r)(hk64:okInt k)(hml:x.maps.length<=1000000):
 Calls Tryz.prog 54 #[imval x p q r,.int .i64 k] w fun e w'=>(∃r',e=.returned (imval (x.mark k) p q r')/\IsIm w' (x.mark k) p q r'/\∀g,g<w.heap.size->ImOff g x p q r->ImOff g (x.mark k) p q r')/\Below w.heap.size w w':=by
 have ah:=fun g (hg:w.heap.size<=g)=>hI.apart hg
 by_cases h:k<0\/64<=k
 · have Hr:=hid (show x.mark k=x by rw[Im.mark,Im.markM,if_pos h]);clear ah;obtain⟨D,g,hh,⟨seq,pos⟩,maps,br⟩:=x;obtain⟨A1,a1⟩:=p;obtain⟨A2,a2⟩:=q;obtain⟨A3,a3⟩:=r;have hB:=Y0 w;obtain⟨x,xk⟩:=Z11 (Am (Blk.new w 33) D A1 a1 A2 a2 g hh seq pos A3 maps.length a3 br);have a0:=Ya hB x;have ao:=hI.below (Yb a0);have r:=Am (Yd a0 33) D A1 a1 A2 a2 g hh seq pos A3 maps.length a3 br;simp only[Ys]at r;have rk:=Aa r;have aa:=Ya a0 r;have ag:=ao.below (Yb aa);by_cases h0:k<0
   · have d0:decide (k<0)=true:=decide_eq_true h0;clear h h0;go_enter Tryz.func54,Tryz.ntmps54;go_wp2_with fail
     have yy:=rk;have iw:=ag;have bw:=aa;refine bodyPost_ret (v:=imval ⟨D,g,hh,⟨seq,pos⟩,maps,br⟩ ⟨A1,a1⟩ ⟨A2,a2⟩ ⟨A3,a3⟩) (by simp[results,Tryz.results54,go_sem,yy]) rfl ?_;rw[Hr.out];exact⟨⟨⟨A3,a3⟩,rfl,iw,fun _ _ h=>h⟩,bw⟩
   · have d0:decide (k<0)=false:=decide_eq_false h0;have d1:decide ((64:Int)<=k)=true:=decide_eq_true (by omega);clear h h0;go_enter Tryz.func54,Tryz.ntmps54;go_wp2_with fail
     have yy:=rk;have iw:=ag;have bw:=aa;refine bodyPost_ret (v:=imval ⟨D,g,hh,⟨seq,pos⟩,maps,br⟩ ⟨A1,a1⟩ ⟨A2,a2⟩ ⟨A3,a3⟩) (by simp[results,Tryz.results54,go_sem,yy]) rfl ?_;rw[Hr.out];exact⟨⟨⟨A3,a3⟩,rfl,iw,fun _ _ h=>h⟩,bw⟩
 · obtain⟨k,rfl⟩:=Int.eq_ofNat_of_zero_le (show 0<=k by omega);have hk:k<64:=by omega
   have d0:decide ((k:Int)<0)=false:=decide_eq_false (by omega);have d1:decide ((64:Int)<=(k:Int))=false:=decide_eq_false (by omega);have aB:((k:Nat):Int)<64:=by omega
   have Hr:=hid (show x.mark k={x with maps:=markTo k x.maps.length x.maps} by rw[Im.mark,<-Mr hk]);obtain⟨D,g,hh,⟨seq,pos⟩,maps,br⟩:=x;simp only at Hr hml ah;obtain⟨hd,hm⟩:=hI;simp only at hd hm;have ae:=hm.bits;have av:=hm.name;have a6:=hm.row;have ac:=hm.nil;obtain⟨i0,hi,hz0,hz1,hz2⟩:=info_parts Tryz.infoDmap3;have aD:=Tryz.dm_siz;clear h hm;obtain⟨A1,a1⟩:=p;obtain⟨A2,a2⟩:=q;obtain⟨A3,a3⟩:=r;simp only at a6 ac;have hB:=Y0 w;obtain⟨x,xk⟩:=Z11 (Am (Blk.new w 33) D A1 a1 A2 a2 g hh seq pos A3 maps.length a3 br);have a0:=Ya hB x;have ai:=hd.below (Yb a0);have a7:=a6.below (Yb a0);have r:=apz (Yd a0 33);simp only[Ys]at r;have rk:=Aa r;have a5:=Ya a0 r;have ab:=ai.below (Yb a5);have a4:=a7.below (Yb a5);obtain⟨au,ad⟩:=Z11 (Yc x a5);go_enter Tryz.func54,Tryz.ntmps54;go_upto_region 4 with fail
   generalize ((w.alloc (.cells #[.string (bs D.data),.slice A1 D.cache.length a1,.int .i64 D.fuse,.bool D.off,.slice A2 D.bad.length a2,.int .i64 g,.int .i64 hh,.int .u64 seq,.int .i64 pos,.slice A3 maps.length a3,.bool br] 33)).alloc (.cells #[.string (bs []),.slice none 0 0,.int .i64 0,.bool false,.slice none 0 0,.int .i64 0,.int .i64 0,.int .u64 0,.int .i64 0,.slice none 0 0,.bool false] 33))=V at a5 ab a4 au ad r rk ⊢;clear a0 ai a7 hB hd a6 x xk;have hB:=a5;have hd:=ab;have a6:=a4;have x:=au;have xk:=ad;clear a5 ab a4 au ad;have rl:=r.lt;go_wp2_with (at_builtin;refine Bg rfl _ _ 31 rfl V.heap.size 42 i0 (dmval Dm.zero) 66 88 Tryz.underlying31 hi hz0 hz1 hz2 rfl (by decide) _ 0 [] rfl (World.ownsRow_nil _ _ _ _) A3 maps.length a3 (dmRows maps) rfl a6 (AY ae) ac (GY maps) (by unfold maxLen;omega) (by omega) (Nat.le_refl _) ?_;intro v5 w5 h5 hb5)
   simp only[Nat.zero_add,List.nil_append]at h5;obtain⟨A5,c5,rfl,_⟩:=Aw h5;have az:=hB;have dV:=hd;go_loopw [6] (fun u W=>∃i:Nat,i<=maps.length/\u=.int .i64 i/\W.ownsRow V.heap.size 42 66 (.slice A5 maps.length c5) maps.length (dmRows (markTo k i maps))/\Below V.heap.size V W) (fun u _=>maps.length-(intOf u).toNat)
   case atStart=>exact⟨0,Nat.zero_le _,rfl,by rw[Mu];exact h5,hb5⟩
   case round=>
    clear h5;obtain⟨i,hin,rfl,hown,hb⟩:=hrel;by_cases hlt:i<maps.length
    · obtain⟨g5,cap5,hv5,hbg,_⟩:=hown.form (by omega);injection hv5 with e1 _ e3
      subst e1 e3;have ap:(dmRows (markTo k i maps)).length=maps.length*66:=by
       rw[AY (fun m hm=>by obtain⟨o,ho,_,h2⟩:=Dn hm;rw[h2];exact ae o ho),Cg]
      have af:∀m∈markTo k i maps,m.bits.length=64:=fun m hm=>by obtain⟨o,ho,_,h2⟩:=Dn hm;rw[h2];exact ae o ho
      have c0:wr.cell? ⟨g5,i*dmN+2+k,none⟩=some (dmRows (markTo k i maps))[i*66+(2+k)]:=by
       rw[show i*dmN+2+k=i*66+(2+k) by unfold dmN;omega];exact Du hown (i*66+(2+k)) (by omega)
      have f0:wr.frozen? ⟨g5,i*dmN+2+k,none⟩=false:=EG hown _;have h1:=G5 hown (i*66+(2+k)) (by omega) (.bool true);rw[KR _ af i k (by rw[Cg];exact hlt) hk true,Ms hlt,Mt hlt,show i*66+(2+k)=i*dmN+2+k by unfold dmN;omega]at h1;have b1:=hb.setCell (p:=⟨g5,i*dmN+2+k,none⟩) hbg (.bool true);generalize (dmRows (markTo k i maps))[i*66+(2+k)]=o5 at c0;clear af ap;go_wp2_with fail
      go_roundw
      case rel=>exact⟨i+1,by omega,by go_num,h1,b1⟩
      case measure=>simp[intOf];omega
    · obtain rfl:i=maps.length:=by omega
      obtain⟨R,hR,hms,hoff⟩:=LW (l:=markTo k maps.length maps) (by rw[Cg];exact hown) (fun m hm=>by obtain⟨o,ho,_,h2⟩:=Dn hm;rw[h2];exact ae o ho) (fun m hm=>by obtain⟨o,ho,h2,_⟩:=Dn hm;rw[h2];exact av o ho);rw[Cg]at hR;injection hR with e1 _ e3
      obtain⟨RA,RC⟩:=R;simp only at e1 e3;subst e1 e3;have x6:=x.bl hb;have r6:=r.bl hb;have d6:=dV.below (hb.mono (Nat.le_refl _));have b6:=bt az hb;have oX:=ah w.heap.size (Nat.le_refl _);have oR:=ah (w.heap.size+1) (by omega);have dx:=oX.1;have dr:=oR.1;have mx:=hoff w.heap.size (by omega);have mr:=hoff (w.heap.size+1) (by omega);clear hown ae av a6 ac ah oX oR xk rk x r hB;have aC:=Aa x6;have aA:=x6.fz;have a8:=(b6).setCell (p:=⟨w.heap.size,9,none⟩) (by show _<=(w.heap.size:Nat);omega) (.slice A5 maps.length c5);have am:=d6.o1 a8 (by assumption);have aj:=hms.o1 a8 (by assumption);have al:=(x6).set 9 (.slice A5 maps.length c5);simp only[Ye]at al;have ay:=Aa al;obtain⟨aq,ax,ar⟩:=Z11f (Yx r6 a8 (by omega));have a9:=ap11 (Al a8 (g:=w.heap.size+1) (by omega)) D A1 a1 A2 a2 g hh seq pos A5 maps.length c5 br;have an:=am.oc a9 (by assumption);have ak:=aj.oc a9 (by assumption);obtain⟨aw,yy⟩:=Z11 (Yh aq a9);have bw:=a9;have dw:=an;have mw:=ak;go_wp2_with fail
      refine bodyPost_ret (v:=.agg #[.string (bs D.data),.slice A1 D.cache.length a1,.int .i64 D.fuse,.bool D.off,.slice A2 D.bad.length a2,.int .i64 g,.int .i64 hh,.int .u64 seq,.int .i64 pos,.slice A5 maps.length c5,.bool br]) (by simp[results,Tryz.results54,go_sem,yy]) rfl ?_;rw[Hr.out];refine⟨⟨⟨A5,c5⟩,by simp[Cg],⟨dw,mw⟩,fun g' h1 h2=>⟨h2.1,hoff g' (by omega)⟩⟩,bw⟩
end
end Go.Proofs.YtmiilfnchfdfcaaGreatDoor
