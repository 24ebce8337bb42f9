/- By: Roots, Opens, Opens2, Ref03, Root3, Plan9, Grown, Root4. -/
import Derived.Test.YtmiilfnchfdfcaaGreatDoorByBlk3
import Derived.Test.YtmiilfnchfdfcaaGreatDoorByPlan8
import Derived.ProofKit
import Derived.OpenShut
import Derived.ShutString
import Derived.Deep.Slices
import Derived.Deep.Fields
import Derived.ChangeSame
import Derived.Lib.SmallJoins
import Derived.Carry
import Derived.SizedLaws
set_option maxRecDepth 100000
set_option maxHeartbeats 40000000
set_option linter.unusedVariables false
namespace Go.Proofs.YtmiilfnchfdfcaaGreatDoor
section
open Go.RowKit Go.Shelf
attribute [local go_sem] Ad Ag Ah Ac Aj Ai
theorem u32w {x:Int}(h:0<=x/\x<=4294967295):IntKind.u32.wrap x=x:=by simp[IntKind.wrap,IntKind.bits,IntKind.signed];omega
abbrev rval (l n:Nat):Value:=.agg #[.int .i64 l,.int .u32 n]
theorem Gq (x k:Nat)(h1:1<=k)(h2:k<=8):putS x (k:Nat)=be k x:=by rw[putS,if_pos ⟨by omega,by omega⟩,Int.toNat_natCast]
theorem LU (s:List UInt8)(h:s.length<=64):padR s 64=(Au s,0):=by rw[padR,if_neg (by omega)];rfl
theorem Hu (s:List UInt8)(k:Nat)(h1:1<=k)(h2:k<=8)(h:k<=s.length):takeR s (k:Nat)=(un (s.take k),s.drop k,0):=by rw[takeR,if_neg (by omega),if_neg (by omega),Int.toNat_natCast]
theorem Gs (k:Nat)(w:World):Calls Tryz.prog 92 #[.int .i64 k] w fun e w'=>e=.returned (.bool (decide (k<256)))/\w'=w:=by
 by_cases h:k<256
 · have h1:decide ((k:Int)<256)=true:=decide_eq_true (by omega);have h2:decide (k<256)=true:=decide_eq_true h;have Hw:=hid h2;go_enter Tryz.func92,Tryz.ntmps92;go_wp2_with fail
   go_ret
   exact⟨by rw[Hw.out];rfl,rfl⟩
 · have h1:decide ((k:Int)<256)=false:=decide_eq_false (by omega);have h2:decide (k<256)=false:=decide_eq_false h;have Hw:=hid h2;go_enter Tryz.func92,Tryz.ntmps92;go_wp2_with fail
   go_ret
   exact⟨by rw[Hw.out];rfl,rfl⟩
theorem Gu (l n:Nat)(hl:l<65536)(hn:n<4294967296)(w:World):
 Calls Tryz.prog 93 #[rval l n] w fun e w'=>e=.returned (.string (bs (rtHead l n)))/\Below w.heap.size w w':=by
 have p1:=fun W=>Dn (l:Int) 2 (by omega) (by omega) W
 have p2:=fun W=>Dn (n:Int) 4 (by omega) (by omega) W
 rw[Int.toNat_natCast,show putS l 2=be 2 l from Gq l 2 (by decide) (by decide)]at p1;rw[Int.toNat_natCast,show putS n 4=be 4 n from Gq n 4 (by decide) (by decide)]at p2;have hbl:=GJ l n;have c1:=fun W=>Dj (rtBody l n) (by omega) W
 have c2:=fun W=>Di (crcOf (rtBody l n)) (AW 0 _) W
 have c3:=fun W=>NN (rtBody l n++be 4 (crcOf (rtBody l n))) (by rw[List.length_append,Aq];unfold maxLen;omega) 64 W
 rw[LU _ (by rw[List.length_append,Aq];omega)]at c3;have Hh:=hid (show rtHead l n=Au (rtBody l n++be 4 (crcOf (rtBody l n)))from rfl);have Hb:=hid (show(67:UInt8)::79::70::82::(be 2 l++be 4 n)=rtBody l n from rfl);have u1:=u64w (x:=(l:Int)) ⟨by omega,by omega⟩;have u2:=u64w (x:=(n:Int)) ⟨by omega,by omega⟩;have lb1:=Aq 2 l;have lb2:=Aq 4 n;have lb3:=Aq 4 (crcOf (rtBody l n));generalize crcOf (rtBody l n)=cr at*;generalize be 4 cr=B3 at*;generalize be 2 l=B1 at*;generalize be 4 n=B2 at*;have hB:=Below.refl w.heap.size w;have x:=Blk.new w 95 #[.int .i64 l,.int .u32 n];have xk:=blk2 x;have hB_1:=Ya hB x;go_enter Tryz.func93,Tryz.ntmps93;go_wp2_with fail
 generalize (w.alloc (.cells #[.int .i64 l,.int .u32 n] 95))=V at hB_1 x xk ⊢;clear hB;have hB:=hB_1;clear hB_1;have X2:=ext2 x;have D1:=fun e:Ext V=>p1 e.world
 have D2:=fun e:Ext V=>p2 e.world
 refine Ay mixed (by kernel_rfl) ?_
 repeat (go_big_quiet_step (((first|(go_at_call 86;with_reducible exact Al (D1 _))|(go_at_call 86;with_reducible exact Al (D2 _))))))
 refine wpQuiet_nil ?_;rintro W ⟨pq_,hpq_⟩;have hW:=pq_.below;rw[<-hpq_]at hW;clear hpq_ pq_;have hB2:=bt hB hW;have hB3:=hB2;rw[Hb.out];go_wp2_with fail
 go_at_call 89;refine((c1 _)).mono ?_;rintro e w' ⟨rfl,rfl⟩;go_wp2_with fail
 go_at_call 88;refine((c2 _)).mono ?_;rintro e w2 ⟨rfl,hb2⟩;replace hB3:=bt hB3 hb2;go_wp2_with fail
 go_at_call 87;refine((c3 _)).mono ?_;rintro e w3 ⟨rfl,hb3⟩;replace hB3:=bt hB3 hb3;go_wp2_with fail
 go_ret
 exact⟨by rw[Hh.out];rfl,hB3⟩
theorem Iq {P:Program}{f:FuncId}{args:Array Value}{W:World}{v:Value}(h:Calls P f args W fun e w'=>e=.returned v/\W=w'):Calls P f args W fun e w'=>e=.returned v/\Below W.heap.size W w':=
 h.mono fun _ _ h=>⟨h.1,by rw[<-h.2];exact Below.refl _ _⟩
theorem Gt (D:Dk)(L:Pn)(p q p' q':Pl)(w:World)(hD:IsDk w D p q)(hL:IsPn w L p' q')(hf:D.fit=true)(hfl:L.Fit):
 Calls Tryz.prog 55 #[dval D p q,pval L p' q'] w fun e w'=>e=.returned (.tuple #[rval (Pn.rtGet D L).1.1 (Pn.rtGet D L).1.2,.int .i64 (Pn.rtGet D L).2])/\Below w.heap.size w w':=by
 have hlk:=fun(W:World)(hb:Below w.heap.size w W)=>Cy D L p q p' q' W (hD.below hb) (hL.below hb) 1 ((Dk.fit_parts hf).2.2.1) (by have:=hfl.2.1;omega) hfl.1
 obtain⟨s,er,hs⟩:∃s er,Pn.look D L 1=(s,er):=⟨_,_,rfl⟩;simp only[hs]at hlk;have hlen:er=0->s.length=64:=fun h=>by have:=Pn.look_full hf hfl (k:=1) (by rw[hs];exact h);rw[hs]at this;exact this
 have Hw:=hid (show Pn.rtGet D L=if er≠0 then((0,0),er)else rtOf s by rw[Pn.rtGet,hs]);clear hs hD hL hf hfl;obtain⟨A1,a1⟩:=p;obtain⟨A2,a2⟩:=q;obtain⟨B1,b1⟩:=p';obtain⟨B2,b2⟩:=q';have hB:=Below.refl w.heap.size w;have x:=Blk.new w 25 #[.string (bs D.data),.slice A1 D.cache.length a1,.int .i64 D.fuse,.bool D.off,.slice A2 D.bad.length a2];have xk:=blk5 x;have hB_1:=Ya hB x;have z:=Yd hB_1 63 #[.slice B1 L.targets.length b1,.slice B2 L.data.length b2];simp only[Ys]at z;have zk:=blk2 z;have hB_2:=Ya hB_1 z;have x_3:=Yc x hB_2;have r:=Yd hB_2 95 #[.int .i64 0,.int .u32 0];simp only[Ys]at r;have rk:=blk2 r;have rkf:=r.fz;have hB_4:=Ya hB_2 r;have x_5:=Yc x_3 hB_4;have xk_5:=blk5 x_5;have z_6:=Yc z hB_4;have zk_6:=blk2 z_6;go_enter Tryz.func55,Tryz.ntmps55;go_wp2_with fail
 go_at_call 71;refine((hlk _ hB_4)).mono ?_;rintro e w1 ⟨rfl,hb1⟩;replace hB:=bt hB_4 hb1;replace x:=x_5.below hb1 x_5.lt;replace xk:=blk5 x;replace z:=z_6.below hb1 z_6.lt;replace zk:=blk2 z;replace r:=r.below hb1 r.lt;replace rk:=blk2 r;replace rkf:=r.fz;clear hB_1 hB_2 x_3 hB_4 xk_5 x_5 zk_6 z_6;by_cases h1:er=0
 case neg=>
  have n1:(er !=0)=true:=by simpa using h1
  have Hr:=hid (show Pn.rtGet D L=((0,0),er) by rw[Hw.out,if_pos h1]);clear h1;go_wp2_with fail
  rw[Hr.out];have yy:=blk2 (Ae r (.int .i64 0) (.int .u32 0));have b9:=Af hB (g:=w.heap.size+1+1) (by omega) (.int .i64 0) (.int .u32 0);refine bodyPost_ret (v:=.tuple #[.agg #[.int .i64 0,.int .u32 0],.int .i64 er]) (by simp[results,Tryz.results55,go_sem,yy]) rfl ?_;exact⟨rfl,b9⟩
 subst h1;have hl:=hlen rfl;have Hr0:=hid (show Pn.rtGet D L=rtOf s by rw[Hw.out,if_neg (by simp)]);have Hof:=hid (show rtOf s=_ from by unfold rtOf;rfl);have es4:List.drop 4 (List.take 64 s)=s.drop 4:=by rw[List.take_of_length_le (by omega)]
 have es6:List.drop 6 (List.take 64 s)=s.drop 6:=by rw[List.take_of_length_le (by omega)]
 clear hlen hlk Hw;by_cases hm:s.take 4=magicR
 rotate_left
 · have Hr:=hid (show Pn.rtGet D L=((0,0),14) by rw[Hr0.out,rtOf,if_pos hm]);have hd:(s.take 4==[67,79,70,82])=false:=by rw[beq_eq_false_iff_ne];exact hm
   clear hm;go_wp2_with fail
   rw[Hr.out];have yy:=blk2 (Ae r (.int .i64 0) (.int .u32 0));have b9:=Af hB (g:=w.heap.size+1+1) (by omega) (.int .i64 0) (.int .u32 0);refine bodyPost_ret (v:=.tuple #[.agg #[.int .i64 0,.int .u32 0],.int .i64 14]) (by simp[results,Tryz.results55,go_sem,yy]) rfl ?_;exact⟨rfl,b9⟩
 have hd:(s.take 4==[67,79,70,82])=true:=by rw[beq_iff_eq];exact hm
 have Hm:=hid hm;clear hm;have c1:=fun W=>Dj (s.take 10) (by rw[List.length_take];omega) W
 have hcl:=AW 0 (s.take 10);have hcl:crcOf (s.take 10)<4294967296:=hcl;have c2:=fun W=>Di (crcOf (s.take 10)) hcl W
 have e1014:(s.take 14).drop 10=(s.drop 10).take 4:=by rw[List.drop_take]
 have Hsum2:=hid (show be 4 (crcOf (s.take 10))=(s.drop 10).take 4↔be 4 (crcOf (s.take 10))=(s.take 14).drop 10 by rw[e1014]);clear e1014;obtain⟨cr,hcr⟩:∃c,crcOf (s.take 10)=c:=⟨_,rfl⟩;have Hcr:=hid hcr;rw[hcr]at c1 c2 hcl;clear hcr;go_wp2_with fail
 generalize w1=V at hB x xk z zk r rk rkf ⊢;have D1:=fun e:Ext V=>Iq (c1 e.world)
 have D2:=fun e:Ext V=>c2 e.world
 by_cases hq:be 4 cr=(s.take 14).drop 10
 rotate_left
 · have Hr:=hid (show Pn.rtGet D L=((0,0),15) by rw[Hr0.out,rtOf,if_neg (fun h=>h Hm.out),if_pos (fun h=>hq (by rw[<-Hcr.out];exact Hsum2.out.1 h))]);have f1:(be 4 cr==(s.take 14).drop 10)=false:=by simpa using hq
   clear hq;refine Ay mixed (by kernel_rfl) ?_
   repeat (go_big_quiet_step ((first|(go_at_call 89;with_reducible exact Al (D1 _))|(go_at_call 88;with_reducible exact Al (D2 _)))))
   refine wpQuiet_nil ?_;rintro w2 ⟨pq_,hpq_⟩;have hb2:=pq_.below;rw[<-hpq_]at hb2;clear hpq_ pq_;have hB:=bt hB hb2;have r:=(r).below hb2 (r).lt;have rk:=blk2 r;have rf:=r.fz;go_wp2_with fail
   rw[Hr.out];have yy:=blk2 (Ae r (.int .i64 0) (.int .u32 0));have b9:=Af hB (g:=w.heap.size+1+1) (by omega) (.int .i64 0) (.int .u32 0);refine bodyPost_ret (v:=.tuple #[.agg #[.int .i64 0,.int .u32 0],.int .i64 15]) (by simp[results,Tryz.results55,go_sem,yy]) rfl ?_;exact⟨rfl,b9⟩
 have Hr1:=hid (show Pn.rtGet D L=if 256<=un ((s.drop 4).take 2)\/rtHead (un ((s.drop 4).take 2)) (un ((s.drop 6).take 4))≠s then((0,0),14)else((un ((s.drop 4).take 2),un ((s.drop 6).take 4)),0) by
  rw[Hr0.out,rtOf,if_neg (fun h=>h Hm.out),if_neg (fun h=>h (Hsum2.out.2 (by rw[Hcr.out];exact hq)))])
 have f1:(be 4 cr==(s.take 14).drop 10)=true:=by simpa using hq
 clear hq Hsum2 Hcr Hr0 Hof;refine Ay mixed (by kernel_rfl) ?_
 repeat (go_big_quiet_step ((first|(go_at_call 89;with_reducible exact Al (D1 _))|(go_at_call 88;with_reducible exact Al (D2 _)))))
 refine wpQuiet_nil ?_;rintro w2 ⟨pq_,hpq_⟩;have hb2:=pq_.below;rw[<-hpq_]at hb2;clear hpq_ pq_;have hB0:=bt hB hb2;have r0:=(r).below hb2 (r).lt;clear D1 D2 c1 c2 f1;have ub2:=ED (s.drop 4) 2 (by decide);have ub4:=ED (s.drop 6) 4 (by decide);have n1:=fun W=>Do (s.drop 4) (by rw[List.length_drop];unfold maxLen;omega) 2 W
 rw[show takeR (s.drop 4) 2=(un ((s.drop 4).take 2),(s.drop 4).drop 2,0)from Hu (s.drop 4) 2 (by decide) (by decide) (by rw[List.length_drop];omega)]at n1;have n2:=fun W=>Do (s.drop 6) (by rw[List.length_drop];unfold maxLen;omega) 4 W
 rw[show takeR (s.drop 6) 4=(un ((s.drop 6).take 4),(s.drop 6).drop 4,0)from Hu (s.drop 6) 4 (by decide) (by decide) (by rw[List.length_drop];omega)]at n2;generalize un ((s.drop 4).take 2)=l at*;generalize un ((s.drop 6).take 4)=n at*;replace ub2:l<65536:=ub2;replace ub4:n<4294967296:=ub4;have u1:=i64w (x:=(l:Int)) ⟨by omega,by omega⟩;have u2:=u32w (x:=(n:Int)) ⟨by omega,by omega⟩;have hs1:=fun W=>Gu l n ub2 ub4 W
 have ho:=fun W=>Gs l W
 have hB:=hB0;have r0k:=blk2 r0;have r0kf:=r0.fz;go_wp2_with fail
 go_at_call 96;refine((n1 _)).mono ?_;rintro e w3 ⟨rfl,hb3⟩;replace hB:=bt hB hb3;replace r0:=r0.below hb3 r0.lt;replace r0k:=blk2 r0;replace r0kf:=r0.fz;go_wp2_with fail
 go_at_call 96;refine((n2 _)).mono ?_;rintro e w4 ⟨rfl,hb4⟩;replace hB:=bt hB hb4;replace r0:=r0.below hb4 r0.lt;replace r0k:=blk2 r0;replace r0kf:=r0.fz;have y:=Blk.new w4 95 #[.int .i64 l,.int .u32 n];have yk:=blk2 y;have hB_1:=Ya hB y;have r0_2:=Yc r0 hB_1;have r0k_2:=blk2 r0_2;have r0kf_2:=r0_2.fz;go_wp2_with fail
 go_at_call 92;refine(ho _).mono ?_;rintro e w5 ⟨rfl,rfl⟩;by_cases hbig:256<=l
 · have Hr:=hid (show Pn.rtGet D L=((0,0),14) by rw[Hr1.out,if_pos (.inl hbig)]);have hd3:decide (l<256)=false:=decide_eq_false (by omega);go_wp2_with fail
   rw[Hr.out];have yy:=blk2 (Ae r0_2 (.int .i64 0) (.int .u32 0));have b9:=Af hB_1 (g:=w.heap.size+1+1) (by omega) (.int .i64 0) (.int .u32 0);refine bodyPost_ret (v:=.tuple #[.agg #[.int .i64 0,.int .u32 0],.int .i64 14]) (by simp[results,Tryz.results55,go_sem,yy]) rfl ?_;exact⟨rfl,b9⟩
 have hd3:decide (l<256)=true:=decide_eq_true (by omega);go_wp2_with fail
 go_at_call 93;refine((hs1 _)).mono ?_;rintro e w6 ⟨rfl,hb6⟩;replace hB:=bt hB_1 hb6;replace r0:=r0_2.below hb6 r0_2.lt;replace r0k:=blk2 r0;replace r0kf:=r0.fz;replace y:=y.below hb6 y.lt;replace yk:=blk2 y;clear hB_1 r0k_2 r0kf_2 r0_2;by_cases hh:rtHead l n=s
 · have Hr:=hid (show Pn.rtGet D L=((l,n),0) by rw[Hr1.out,if_neg (by rintro(h|h);exact hbig h;exact h hh)]);have f1:(rtHead l n==s)=true:=by simpa using hh
   clear hh;go_wp2_with fail
   rw[Hr.out];have yy:=blk2 (Ae r0 (.int .i64 l) (.int .u32 n));have b9:=Af hB (g:=w.heap.size+1+1) (by omega) (.int .i64 l) (.int .u32 n);refine bodyPost_ret (v:=.tuple #[.agg #[.int .i64 l,.int .u32 n],.int .i64 0]) (by simp[results,Tryz.results55,go_sem,yy]) rfl ?_;exact⟨rfl,b9⟩
 · have Hr:=hid (show Pn.rtGet D L=((0,0),14) by rw[Hr1.out,if_pos (.inr hh)]);have f1:(rtHead l n==s)=false:=by rw[beq_eq_false_iff_ne];exact fun h=>hh h
   clear hh;go_wp2_with fail
   rw[Hr.out];have yy:=blk2 (Ae r0 (.int .i64 0) (.int .u32 0));have b9:=Af hB (g:=w.heap.size+1+1) (by omega) (.int .i64 0) (.int .u32 0);refine bodyPost_ret (v:=.tuple #[.agg #[.int .i64 0,.int .u32 0],.int .i64 14]) (by simp[results,Tryz.results55,go_sem,yy]) rfl ?_;exact⟨rfl,b9⟩
end
section
open Go.RowKit Go.WideShapes Go.ChangeShapes
section
variable {H:Type} {enc:TypeId×Value->H} {P:Program}
theorem Mh {f:Func}{s:ChangeSpec}{apart fresh handsOn again:Bool}{W W':World}{args:Array Value}{v:Value}{ds gs:List (DataW H)}{before pa pv:List MemPlace}
 (hW:DataW.Whole enc P f.params.toList s.vars apart W args.toList ds gs before)
 (hres:∀(b:Nat)(sp:Nat->Bool)(hd:Bool),DataW.TrodAll enc P W' b sp hd f.resultTypes.toList (v.resultList f.resultTypes.size) (s.fn H (ds++gs)).results [])
 (hargs:∀sp:Nat->Bool,(∀p∈before,sp p.block=true)->DataW.TrodAll enc P W' 0 sp true f.params.toList args.toList (s.fn H (ds++gs)).args pa)
 (hvars:∀sp:Nat->Bool,(∀p∈before,sp p.block=true)->DataW.TrodVars enc P W' sp s.vars (s.fn H (ds++gs)).vars pv)
 (hps:before=pa++pv) (hb:Below W.heap.size W W')
 (hok:∀(j:Nat)(t:TypeId)(r:Value),f.resultTypes[j]? =some t->(v.resultList f.resultTypes.size)[j]? =some r->Value.okWide P W' .any 0 t r):
 s.post enc P f apart fresh handsOn again W args v W':=by
 have hlt:∀p∈before,p.block<W.heap.size:=fun p hp=>hW.lt p hp
 have hold:∀p∈before,(fun b=>decide (b<W.heap.size)) p.block=true:=fun p hp=>by simpa using hlt p hp
 refine⟨ds,gs,before,[],pa,pv,hW,hres _ _ _,hargs _ hold,hvars _ hold,World.keptBut_mono (fun p hp=>⟨hp,?_⟩) (hb.frame (·∈before)),fun _=>?_⟩
 · rw[hps,List.mem_append]at hp;exact Or.inr hp
 · obtain⟨_,_,_,_,_,hz,hn⟩:=hW;refine⟨hok,_,_,([]++pa)++pv,⟨[]++pa,pv,trodAll_append (hargs _ (fun _ _=>rfl)) (hres _ _ _),hvars _ (fun _ _=>rfl),rfl,?_,?_⟩,?_⟩
   · intro b off hp;have hin:MemPlace.cell b off∈before:=by rw[hps];simpa using hp
     rw[hb.frozen (hlt _ hin)];exact hz b off hin
   · intro ha;have:=hn ha;rw[hps]at this;simpa using this
   · intro p hp _;rw[hps];simpa using hp
end
end
section
open Go.RowKit Go.WideShapes Go.ChangeShapes Go.Deep Go.Joins
section
variable {H:Type} {enc:TypeId×Value->H} {P:Program} {w:World} {base:Nat} {spare:Nat->Bool} {held:Bool}
theorem LQ {t e:TypeId}{fs:Array Field}{fuel:Nat}{cs:List Value}{x:DataW H×List MemPlace}(ht:P.underlying t=some (.slice e))(he:P.underlying e=some (.struct fs))
 (hone:oneCellFields P fs=true) (hC:P.cellsOf e=fs.size) (h:DataW.trod enc P w base spare held fuel t cs=some x):
 (cs=[.slice none 0 0]/\x=(.nil,[]))\/
 ∃(a:Addr)(len cap m:Nat)(D:Nat->DataW H)(Pl:Nat->List MemPlace),cs=[.slice (some a) len cap]/\base<=a.block/\len<=cap/\cap<=maxLen/\m=(if spare a.block then cap else len)/\
  x=(.slice ((List.range len).map D) ((List.range (m-len)).map fun j=>D (len+j)),MemPlace.row a (m*fs.size)++(List.range m).flatMap Pl)/\
  ∀i,i<m->∃(ys:List (DataW H×List MemPlace))(n:Nat),D i=.agg (ys.map (·.1))/\Pl i=ys.flatMap (·.2)/\ys.length=fs.size/\
   ∀(j:Nat)(f:Field),fs[j]? =some f->∃(v:Value)(y:DataW H×List MemPlace),w.cell? (a.add (i*fs.size+j))=some v/\ys[j]? =some y/\DataW.trod enc P w base spare held n f.type [v]=some y:=by
 rcases open_slice ht h with h0|⟨a,len,cap,m,n,D,Pl,hcs,hb,hl,hm,hmm,hx,hi⟩
 · exact .inl h0
 · refine .inr ⟨a,len,cap,m,D,Pl,hcs,hb,hl,hm,hmm,by rw[hC]at hx;exact hx,fun i him=>?_⟩;obtain⟨cs',hc,ht'⟩:=hi i him;rw[hC]at hc;obtain⟨ys,n',hn',hy,hlen,hyl,hf⟩:=DataW.trod_struct he ht';obtain⟨_,hcl,hat⟩:=World.cells?_some hc;simp only[Prod.mk.injEq]at hy;refine⟨ys,n',hy.1,hy.2,hyl,fun j f hj=>?_⟩;obtain⟨ho,hk⟩:=hone_of hone j f hj;have hjl:j<fs.size:=(Array.getElem?_eq_some_iff.1 hj).1;have hcell:=hat j hjl;have hv:cs'[j]? =some (cs'[j]'(by omega)):=List.getElem?_eq_getElem (by omega);have h1:=hf j f hj;rw[ho,hk]at h1;have hone':(cs'.drop j).take 1=[cs'[j]'(by omega)]:=by
    rw[List.drop_eq_getElem_cons (by omega)];rfl
   rw[hone']at h1;have hys:ys[j]? =some (ys[j]'(by omega)):=List.getElem?_eq_getElem (by omega);refine⟨_,_,?_,hys,h1.trans hys⟩;rw[<-Go.Deep.add_add,hcell,hv]
theorem CW {α:Type}{R:Nat->α->Prop}:∀{n:Nat},(∀i,i<n->∃x,R i x)->∃l:List α,l.length=n/\∀i (hi:i<l.length),R i l[i]
 |0,_=>⟨[],rfl,fun i hi=>by cases hi⟩
 |n+1,h=>by
  obtain⟨l,hl,hR⟩:=CW (n:=n) fun i hi=>h i (by omega)
  obtain⟨x,hx⟩:=h n (by omega);refine⟨l++[x],by simp[hl],fun i hi=>?_⟩;by_cases hin:i<l.length
  · rw[List.getElem_append_left hin];exact hR i hin
  · have:i=l.length:=by simp at hi;omega
    subst this;rw[List.getElem_append_right (Nat.le_refl _)];simp only[Nat.sub_self,List.getElem_cons_zero,hl];exact hx
theorem DI {a:Addr}{cs:List Value}(h:∀j u,cs[j]? =some u->w.cell? (a.add j)=some u):Cells w (some a) cs:=by
 cases cs with
 |nil=>exact .inl rfl
 |cons u0 r=>
  have h0:=World.cell?_spot (h 0 u0 rfl);obtain⟨b,off,sp⟩:=a;have hsp:sp=none:=by
   cases sp with
   |none=>rfl
   |some s=>simp[Addr.add]at h0;try (split at h0<;>simp_all)
  subst hsp;exact .inr ⟨b,off,rfl,fun j u hu=>by have:=h j u hu;rwa [Bo]at this⟩
theorem LO {α:Type}{f:α->Value}{R:α->Prop}{t e:TypeId}{fuel:Nat}{v:Value}{x:DataW H×List MemPlace}(ht:P.underlying t=some (.slice e))(hc:P.cellsOf e=1)
 (hf:∀{n:Nat}{v:Value}{y:DataW H×List MemPlace},DataW.trod enc P w base spare held n e [v]=some y->∃x,v=f x/\R x) (h:DataW.trod enc P w base spare held fuel t [v]=some x):
 ∃(A:Option Addr)(c:Nat)(l:List α),v=.slice A l.length c/\Cells w A (l.map f)/\(A=none->c=0)/\l.length<=c/\c<=maxLen/\∀x∈l,R x:=by
 rcases open_slice1 ht hc h with ⟨h0,_⟩|⟨a,len,cap,m,n,V,D,Pl,hcs,_,hl,hm,hmm,_,hi⟩
 · injection h0 with h0
   exact⟨none,0,[],h0,.inl rfl,fun _=>rfl,Nat.le_refl _,Nat.zero_le _,fun x hx=>by cases hx⟩
 · injection hcs with hcs
   have hlm:len<=m:=by rw[hmm];split<;>omega
   obtain⟨l,hl',hR⟩:=CW (α:=α) (n:=len) (R:=fun i x=>w.cell? (a.add i)=some (f x)/\R x) fun i h=>by
    obtain⟨hcell,ht'⟩:=hi i (by omega);obtain⟨x,hx,hRx⟩:=hf ht';exact⟨x,by rw[hcell,hx],hRx⟩
   subst hl';refine⟨some a,cap,l,hcs,DI fun j u hu=>?_,(by intro h;cases h),hl,hm,fun x hx=>?_⟩
   · rw[List.getElem?_map]at hu;obtain⟨y,hy,rfl⟩:=Option.map_eq_some_iff.1 hu;obtain⟨hj,rfl⟩:=List.getElem?_eq_some_iff.1 hy;exact(hR j hj).1
   · obtain⟨j,hj,rfl⟩:=List.getElem_of_mem hx;exact(hR j hj).2
abbrev okInt (x:Int):Prop:= -9223372036854775808<=x/\x<=9223372036854775807
theorem Ca {x:Int}(h:(Lit.int .i64 x).wf=true):okInt x:=by
 have:=bounds_i64 h;exact⟨by omega,by omega⟩
theorem LN {t e:TypeId}{fuel:Nat}{v:Value}{x:DataW H×List MemPlace}(ht:P.underlying t=some (.slice e))(he:P.underlying e=some (.int .i64))(hc:P.cellsOf e=1)(h:DataW.trod enc P w base spare held fuel t [v]=some x):
 ∃(A:Option Addr)(c:Nat)(l:List Int),v=.slice A l.length c/\Cells w A (intCells l)/\(A=none->c=0)/\l.length<=c/\c<=maxLen/\∀x∈l,okInt x:=
 LO ht hc (fun hy=>by
  obtain⟨n,hn,_,hw⟩:=DataW.trod_int he hy;injection hn with hn
  exact⟨n,hn,Ca hw⟩) h
theorem Mj (l:List (Int×List UInt8))(j:Nat)(u:Value)(h:(putCells l)[j]? =some u):∃i,∃hi:i<l.length,(j=i*2/\u=.int .i64 l[i].1)\/(j=i*2+1/\u=.string (bs l[i].2)):=by
 have hj:=(List.getElem?_eq_some_iff.1 h).1;rw[Cb]at hj;have hi:j/2<l.length:=by omega
 refine⟨j/2,hi,?_⟩;obtain⟨h1,h2⟩:=Ei l (j/2) hi
 rcases Nat.mod_two_eq_zero_or_one j with h0|h0
 · left
   have e:j=j/2*2:=by omega
   rw[<-e,h]at h1;exact⟨e,Option.some.inj h1⟩
 · right
   have e:j=j/2*2+1:=by omega
   rw[<-e,h]at h2;exact⟨e,Option.some.inj h2⟩
theorem LP {t e:TypeId}{fuel:Nat}{v:Value}{x:DataW H×List MemPlace}{fs:Array Field}(ht:P.underlying t=some (.slice e))(he:P.underlying e=some (.struct fs))
 (hone:oneCellFields P fs=true) (hC:P.cellsOf e=2) {f0 f1:Field} (hfs:fs=#[f0,f1]) (h0:P.underlying f0.type=some (.int .i64)) (h1:P.underlying f1.type=some .string) (h:DataW.trod enc P w base spare held fuel t [v]=some x):
 ∃(A:Option Addr)(c:Nat)(l:List (Int×List UInt8)),v=.slice A l.length c/\Cells w A (putCells l)/\(A=none->c=0)/\l.length<=c/\c<=maxLen/\∀x∈l,okInt x.1/\x.2.length<=maxLen:=by
 subst hfs
 rcases LQ ht he hone hC h with ⟨h0,_⟩|⟨a,len,cap,m,D,Pl,hcs,_,hl,hm,hmm,_,hi⟩
 · injection h0 with h0
   exact⟨none,0,[],h0,.inl rfl,fun _=>rfl,Nat.le_refl _,Nat.zero_le _,fun x hx=>by cases hx⟩
 · injection hcs with hcs
   have hlm:len<=m:=by rw[hmm];split<;>omega
   obtain⟨l,hl',hR⟩:=CW (α:=Int×List UInt8) (n:=len) (R:=fun i x=>w.cell? (a.add (i*2))=some (.int .i64 x.1)/\w.cell? (a.add (i*2+1))=some (.string (bs x.2))/\okInt x.1/\x.2.length<=maxLen) fun i h=>by
    obtain⟨ys,n,_,_,_,hf⟩:=hi i (by omega);obtain⟨v0,y0,c0,_,t0⟩:=hf 0 f0 rfl;obtain⟨v1,y1,c1,_,t1⟩:=hf 1 f1 rfl;obtain⟨k,hk,_,hw⟩:=DataW.trod_int h0 t0;obtain⟨s,hs,_,hw'⟩:=DataW.trod_string h1 t1;injection hk with hk
    injection hs with hs
    obtain⟨sl,rfl⟩:=CK s;rw[Ac]at hw';subst hk;subst hs
    exact⟨(k,sl),c0,c1,Ca hw,hw'⟩
   subst hl';refine⟨some a,cap,l,hcs,DI fun j u hu=>?_,(by intro h;cases h),hl,hm,fun x hx=>?_⟩
   · obtain⟨i,hi,⟨rfl,rfl⟩|⟨rfl,rfl⟩⟩:=Mj l j u hu
     · exact(hR i hi).1
     · exact(hR i hi).2.1
   · obtain⟨j,hj,rfl⟩:=List.getElem_of_mem hx;exact(hR j hj).2.2
structure IsDk0 (w:World) (D:Dk) (p q:Pl):Prop where
 cache:Cells w p.a (putCells D.cache)
 bad:Cells w q.a (intCells D.bad)
 pn:p.a=none->p.c=0
 qn:q.a=none->q.c=0
 pc:D.cache.length<=p.c
 qc:D.bad.length<=q.c
 pm:p.c<=maxLen
 qm:q.c<=maxLen
 data:D.data.length<=maxLen
 fuse:okInt D.fuse
 strs:∀x∈D.cache,x.2.length<=maxLen
 ats:∀x∈D.cache,okInt x.1
 bads:∀x∈D.bad,okInt x
theorem IsDk0.below {w w':World}{D:Dk}{p q:Pl}(h:IsDk0 w D p q)(hb:Below w.heap.size w w'):IsDk0 w' D p q:=
 {h with cache:=h.cache.below hb,bad:=h.bad.below hb}
theorem IsDk0.full {w:World}{D:Dk}{p q:Pl}(h:IsDk0 w D p q)(h1:D.cache.length<=1099511627776)(h2:D.bad.length<=17592186044416)(h3:D.data.length<=140737488355328):IsDk w D p q:=
 {h with cl:=h1,bl:=h2,data:=h3}
theorem HV (hl:laidOutB P=true){W W':World}{sp:Nat->Bool}(hb:Below W.heap.size W W'):∀{ts:List TypeId}{vs:List Value}{ds:List (DataW H)}{ps:List MemPlace},ts.all (fun t=>P.readableRec t&&decide (t<P.types.size))=true->
 DataW.TrodAll enc P W 0 (fun _=>true) true ts vs ds ps->(∀x∈ps,x.block<W.heap.size)->(∀x∈ps,sp x.block=true)->DataW.TrodAll enc P W' 0 sp true ts vs ds ps
 |[],[],[],_,_,h,_,_=>h
 |t::ts,_::_,_::_,_,ht,⟨p,q,h1,h2,e⟩,hlt,hs=>by
  subst e;simp only[List.all_cons,Bool.and_eq_true,decide_eq_true_eq]at ht;exact⟨p,q,WideElems.Trod_stays hl ht.1.1 ht.1.2 h1 (fun x hx=>hb.same (hlt x (List.mem_append_left _ hx))) (fun x hx=>hs x (List.mem_append_left _ hx)),
   HV hl hb ht.2 h2 (fun x hx=>hlt x (List.mem_append_right _ hx)) (fun x hx=>hs x (List.mem_append_right _ hx)),rfl⟩
end
section
variable {H:Type} {enc:TypeId×Value->H} {P:Program} {w:World} {base:Nat} {spare:Nat->Bool} {held:Bool}
theorem Oj {t e:TypeId}{fuel:Nat}{A:Option Addr}{n c:Nat}{x:DataW H×List MemPlace}(ht:P.underlying t=some (.slice e))(h:DataW.trod enc P w base spare held fuel t [.slice A n c]=some x)
 (hw:(x.1.weights P t).all (·<=reachBytes)=true):n*P.bytesOf e<=reachBytes:=by
 rcases open_slice ht h with ⟨h0,_⟩|⟨a,len,cap,m,k,D,Pl,hcs,_,hl,hm,hmm,hx,_⟩
 · simp only[List.cons.injEq,Value.slice.injEq,and_true]at h0;rw[h0.2.1];simp
 · simp only[List.cons.injEq,Value.slice.injEq,and_true]at hcs;rw[hx]at hw;simp only[DataW.weights,ht,List.all_cons,Bool.and_eq_true,decide_eq_true_eq,List.length_map,List.length_range]at hw;rw[hcs.2.1];exact Nat.le_trans (Nat.mul_le_mul_right _ (Nat.le_add_right _ _)) hw.1
theorem PJ {ts:List TypeId}{ds:List (DataW H)}{j:Nat}{t:TypeId}{d:DataW H}(h:(DataW.weightsEach P ts ds).all (·<=reachBytes)=true)(ht:ts[j]? =some t)(hd:ds[j]? =some d):(d.weights P t).all (·<=reachBytes)=true:=
 List.all_eq_true.2 fun n hn=>List.all_eq_true.1 h n (DataW.weights_mem_each ht hd n hn)
end
end
section
open Go.RowKit Go.Shelf Go.WideShapes Go.ChangeShapes Go.Deep Go.Joins
section
variable {H:Type} {enc:TypeId×Value->H} {P:Program} {w:World} {base:Nat} {spare:Nat->Bool} {held:Bool}
end
section
variable {H:Type} {enc:TypeId×Value->H} {P:Program} {w:World} {base:Nat} {spare:Nat->Bool} {held:Bool}
end
section
variable {H:Type} {enc:TypeId×Value->H} {P:Program} {w:World} {base:Nat} {spare:Nat->Bool} {held:Bool}
end
section
variable {H:Type} {enc:TypeId×Value->H} {P:Program} {w:World} {base:Nat} {spare:Nat->Bool} {held:Bool}
end
section
variable {H:Type} {enc:TypeId×Value->H} {P:Program} {w:World} {base:Nat} {spare:Nat->Bool} {held:Bool}
def dmCells (m:Dm):List Value:=.string (bs m.name):: .bool m.use::m.bits.map .bool
abbrev dmval (m:Dm):Value:=.agg (dmCells m).toArray
theorem AH {m:Dm}(h:m.bits.length=64):(dmCells m).length=66:=by simp[dmCells,h]
end
end
section
open Go.RowKit Go.Shelf
attribute [local go_sem] Ad Ag Ah Ac Aj Ai
theorem F6 {s:List UInt8}{i:Nat}(hi:i<s.length)(h:okByte s[i]=false):nameOk s=false:=by
 have:s.all okByte=false:=by
  rw[List.all_eq_false];exact⟨s[i],List.getElem_mem hi,by rw[h];simp⟩
 simp[nameOk,this]
theorem Ly {s:List UInt8}(h:∀j (hj:j<s.length),okByte s[j]=true):nameOk s=(!s.isEmpty&&decide (s.length<=8)):=by
 have:s.all okByte=true:=by
  rw[List.all_eq_true];intro x hx;obtain⟨j,hj,rfl⟩:=List.getElem_of_mem hx;exact h j hj
 simp[nameOk,this]
theorem Nc (s:List UInt8)(hm:s.length<=maxLen)(w:World):
 Calls Tryz.prog 30 #[.string (bs s)] w fun e w'=>e=.returned (.bool (nameOk s))/\w=w':=by
 have hm':=hm;unfold maxLen at hm';go_enter Tryz.func30,Tryz.ntmps30;go_wp2_with fail
 go_loop [3] (fun x=>∃i:Nat,i<=s.length/\x=.int .i64 i/\Hid (∀j (hj:j<s.length),j<i->okByte s[j]=true)) (fun x=>s.length-(intOf x).toNat)
 case atStart=>exact⟨0,Nat.zero_le _,rfl,hid (fun j hj h0=>by omega)⟩
 case round=>
  obtain⟨i,hi,rfl,hok⟩:=hrel;by_cases hlt:i<s.length
  · have hb:=(s[i]).toNat_lt;by_cases h1:s[i].toNat<33
    · have d1:decide ((s[i].toNat:Int)<33)=true:=decide_eq_true (by omega);have Hw:=hid (F6 hlt (by unfold okByte;rw[decide_eq_false (by omega)];rfl));go_wp2_with fail
      go_ret
      exact⟨by rw[Hw.out];rfl,rfl⟩
    · have d1:decide ((s[i].toNat:Int)<33)=false:=decide_eq_false (by omega);by_cases h2:126<s[i].toNat
      · have d2:decide ((126:Int)<(s[i].toNat:Int))=true:=decide_eq_true (by omega);have Hw:=hid (F6 hlt (by unfold okByte;rw[decide_eq_true (by omega),decide_eq_false (by omega)];rfl));go_wp2_with fail
        go_ret
        exact⟨by rw[Hw.out];rfl,rfl⟩
      · have d2:decide ((126:Int)<(s[i].toNat:Int))=false:=decide_eq_false (by omega);have Hy:=hid (show okByte s[i]=true by unfold okByte;rw[decide_eq_true (by omega),decide_eq_true (by omega)];rfl);go_wp2_with fail
        go_round
        case rel=>exact⟨i+1,by omega,by go_num,hid (fun j hj hji=>by
         rcases Nat.lt_or_ge j i with h'|h'
         · exact hok.out j hj h'
         · obtain rfl:j=i:=by omega
           exact Hy.out)⟩
        case measure=>simp[intOf];omega
  · have Hw:=hid (Ly fun j hj=>hok.out j hj (by omega));clear hok;obtain rfl:i=s.length:=by omega
    by_cases hs:s=[]
    · subst hs;go_wp2_with fail
      go_ret
      exact⟨by rw[Hw.out];rfl,rfl⟩
    · have hse:s.isEmpty=false:=by cases s with
       |nil=>exact absurd rfl hs
       |cons a l=>rfl
      have d3:(s==[])=false:=by cases s with
       |nil=>exact absurd rfl hs
       |cons a l=>rfl
      have d4:(s !=[])=true:=by cases s with
       |nil=>exact absurd rfl hs
       |cons a l=>rfl
      by_cases h8:s.length<=8
      · have d1:decide ((s.length:Int)<=8)=true:=decide_eq_true (by omega);have d2:decide (s.length<=8)=true:=decide_eq_true h8;have Hw2:=hid (show nameOk s=true by rw[Hw.out,d2,hse];rfl);clear hs hse;go_wp2_with fail
        go_ret
        exact⟨by rw[Hw2.out];rfl,rfl⟩
      · have d1:decide ((s.length:Int)<=8)=false:=decide_eq_false (by omega);have d2:decide (s.length<=8)=false:=decide_eq_false h8;have Hw2:=hid (show nameOk s=false by rw[Hw.out,d2];simp);clear hs hse;go_wp2_with fail
        go_ret
        exact⟨by rw[Hw2.out];rfl,rfl⟩
theorem NF (c:Nat):Lib.repeatL [0] c=List.replicate c 0:=by
 induction c with
 |zero=>simp[Lib.repeatL]
 |succ c ih=>simp[Lib.repeatL,ih,List.replicate_succ]
theorem NX (n:Nat)(hn:n<=100)(w:World):Calls Tryz.prog 113 #[.int .i64 n] w fun e w'=>e=.returned (.string (bs (List.replicate n 0)))/\Below w.heap.size w w':=by
 have hrep:=fun W=>Tryz.strings_Repeat (bs [0]) n W (by omega) (by rw[Ac];simp;omega)
 rw[AY,NF,Ad]at hrep;generalize List.replicate n (0:UInt8)=Z at*;have hB:=Below.refl w.heap.size w;go_enter Tryz.func113,Tryz.ntmps113;go_wp2_with fail
 go_at_call 106;refine((hrep _)).mono ?_;rintro e w1 ⟨rfl,hb1⟩;replace hB:=bt hB hb1;go_wp2_with fail
 go_ret
 exact⟨rfl,hB⟩
theorem Mu (k:Int)(w:World):Calls Tryz.prog 92 #[.int .i64 k] w fun e w'=>e=.returned (.bool (decide (0<=k/\k<256)))/\Below w.heap.size w w':=by
 by_cases h0:0<=k
 · have h1:decide (0<=k)=true:=decide_eq_true h0;by_cases h:k<256
   · have h2:decide (k<256)=true:=decide_eq_true h;have Hw:=hid (show decide (0<=k/\k<256)=true from decide_eq_true ⟨h0,h⟩);clear h0 h;go_enter Tryz.func92,Tryz.ntmps92;go_wp2_with fail
     go_ret
     exact⟨by rw[Hw.out];rfl,Below.refl _ _⟩
   · have h2:decide (k<256)=false:=decide_eq_false h;have Hw:=hid (show decide (0<=k/\k<256)=false from decide_eq_false (by omega));clear h0 h;go_enter Tryz.func92,Tryz.ntmps92;go_wp2_with fail
     go_ret
     exact⟨by rw[Hw.out];rfl,Below.refl _ _⟩
 · have h1:decide (0<=k)=false:=decide_eq_false h0;have Hw:=hid (show decide (0<=k/\k<256)=false from decide_eq_false (by omega));clear h0;go_enter Tryz.func92,Tryz.ntmps92;go_wp2_with fail
   go_ret
   exact⟨by rw[Hw.out];rfl,Below.refl _ _⟩
theorem GB (L:Pn)(p q:Pl)(w:World)(hL:IsPn w L p q)(k:Int)(s:List UInt8)(hs:s.length<=9223372036854775807)(h:sectorOk k=false\/s.length≠64):
 Calls Tryz.prog 50 #[pval L p q,.int .i64 k,.string (bs s)] w fun e w'=>RetPn w.heap.size L p q (L.set k s) e w'/\Below w.heap.size w w':=by
 have ho:=fun W=>Eo k W
 have Hz:=hid (fun(W:World)(hb:Below w.heap.size w W)=>hL.below hb);clear hL;obtain⟨A1,c1⟩:=p;obtain⟨A2,c2⟩:=q;have b0:=Below.refl w.heap.size w;have z:=Blk.new w 63 #[.slice A1 L.targets.length c1,.slice A2 L.data.length c2];have zk:=blk2 z;have b0_1:=Ya b0 z;have r:=Yd b0_1 63 #[.slice none 0 0,.slice none 0 0];simp only[Ys]at r;have rk:=blk2 r;have rkf:=r.fz;have b0_2:=Ya b0_1 r;have z_3:=Yc z b0_2;cases h1:sectorOk k with
 |false=>
  have Hw:=hid (show L.set k s=(L,10) by simp[Pn.set,h1]);rw[h1]at ho;clear h;go_enter Tryz.func50,Tryz.ntmps50;go_wp2_with fail
  go_at_call 90;refine((ho _)).mono ?_;rintro e w1 ⟨rfl,hb1⟩;replace b0:=bt b0_2 hb1;replace z:=z_3.below hb1 z_3.lt;replace zk:=blk2 z;replace r:=r.below hb1 r.lt;replace rk:=blk2 r;replace rkf:=r.fz;clear b0_1 b0_2 z_3;have lt:=r.lt;go_wp2_with fail
  rw[Hw.out];have yy:=blk2 (Ae r (.slice A1 L.targets.length c1) (.slice A2 L.data.length c2));have b9:=Af b0 (g:=w.heap.size+1) (by omega) (.slice A1 L.targets.length c1) (.slice A2 L.data.length c2);refine bodyPost_ret (v:=.tuple #[pval L ⟨A1,c1⟩ ⟨A2,c2⟩,.int .i64 10]) (by simp[results,Tryz.results50,go_sem,yy]) rfl ?_;exact⟨⟨_,_,rfl,Hz.out _ b9,fun _ _ h=>h⟩,b9⟩
 |true=>
  have h2:s.length≠64:=by rcases h with h|h;(rw[h1]at h;cases h);exact h
  have Hw:=hid (show L.set k s=(L,11) by simp[Pn.set,h1,h2]);have n0:((s.length:Int) !=64)=true:=by simp;omega
  rw[h1]at ho;clear h h2;go_enter Tryz.func50,Tryz.ntmps50;go_wp2_with fail
  go_at_call 90;refine((ho _)).mono ?_;rintro e w1 ⟨rfl,hb1⟩;replace b0:=bt b0_2 hb1;replace z:=z_3.below hb1 z_3.lt;replace zk:=blk2 z;replace r:=r.below hb1 r.lt;replace rk:=blk2 r;replace rkf:=r.fz;clear b0_1 b0_2 z_3;have lt:=r.lt;go_wp2_with fail
  rw[Hw.out];have yy:=blk2 (Ae r (.slice A1 L.targets.length c1) (.slice A2 L.data.length c2));have b9:=Af b0 (g:=w.heap.size+1) (by omega) (.slice A1 L.targets.length c1) (.slice A2 L.data.length c2);refine bodyPost_ret (v:=.tuple #[pval L ⟨A1,c1⟩ ⟨A2,c2⟩,.int .i64 11]) (by simp[results,Tryz.results50,go_sem,yy]) rfl ?_;exact⟨⟨_,_,rfl,Hz.out _ b9,fun _ _ h=>h⟩,b9⟩
theorem Nk (L:Pn)(p q:Pl)(w:World)(hL:IsPn w L p q)(k:Int)(hk: -9223372036854775808<=k/\k<=9223372036854775807)(s:List UInt8)(h1:sectorOk k=true)(h2:s.length=64)(ht:L.targets.length<=1000000)(he:L.targets.length=L.data.length):
 Calls Tryz.prog 50 #[pval L p q,.int .i64 k,.string (bs s)] w fun e w'=>RetPn w.heap.size L p q (L.set k s) e w'/\Below w.heap.size w w':=by
 have ho:=fun W=>Eo k W
 rw[h1]at ho;have hfd:=fun(W:World)(hb:Below w.heap.size w W)=>En L p q k W (hL.below hb) (by omega)
 have n0:((s.length:Int) !=64)=false:=by simp;omega
 have hd:L.data.length<=1000000:=by omega
 have Hz:=hid (fun(W:World)(hb:Below w.heap.size w W)=>hL.below hb);have hats:=hL.ats;have hstrs:=hL.strs;have hpn:=hL.pn;have hqn:=hL.qn;clear hL;obtain⟨A1,c1⟩:=p;obtain⟨A2,c2⟩:=q;simp only at hpn hqn;obtain⟨i1,j1,iz1,iz2,iz3⟩:=info_parts Tryz.infoIntP;obtain⟨i2,j2,jz1,jz2,jz3⟩:=info_parts Tryz.infoStrP;have He:=hid he;have H2:=hid h2;clear he h2;have b0:=Below.refl w.heap.size w;have z:=Blk.new w 63 #[.slice A1 L.targets.length c1,.slice A2 L.data.length c2];have zk:=blk2 z;have b0_1:=Ya b0 z;have r:=Yd b0_1 63 #[.slice none 0 0,.slice none 0 0];simp only[Ys]at r;have b0_2:=Ya b0_1 r;have z_3:=Yc z b0_2;go_enter Tryz.func50,Tryz.ntmps50;go_wp2_with fail
 go_at_call 90;refine((ho _)).mono ?_;rintro e w1 ⟨rfl,hb1⟩;replace b0:=bt b0_2 hb1;replace z:=z_3.below hb1 z_3.lt;replace zk:=blk2 z;replace r:=r.below hb1 r.lt;clear b0_1 b0_2 z_3;have lt1:=r.lt;have i0:=Hz.out _ b0;go_wp2_with (first|(at_builtin;refine A6 rfl (.tmp 19) (.tmp 21) 23 rfl w1.heap.size 3 i1 (.int .i64 0) 1 8 Tryz.underlying23 j1 iz1 iz2 iz3 rfl (by decide) _ 0 [] rfl (World.ownsRow_nil _ _ _ _) A1 L.targets.length c1 (intCells L.targets) rfl i0.targets (by rw[Cr];simp) hpn (Gb _) (by unfold maxLen;omega) (by omega) (Nat.le_refl _) ?_;intro v1 w2 hown1 hb2;rw[Nat.zero_add,List.nil_append]at hown1;obtain⟨V1,C1,rfl,f1,g1,e1⟩:=Az hown1;have b2:=bt b0 hb2;have z2:=z.below hb2 z.lt;have zk2:=blk2 z2;have r2:=r.below hb2 r.lt)|(at_builtin;refine A6 rfl (.tmp 23) (.tmp 25) 61 rfl w2.heap.size 9 i2 (.string ⟨#[]⟩) 1 16 Tryz.underlying61 j2 jz1 jz2 jz3 rfl (by decide) _ 0 [] rfl (World.ownsRow_nil _ _ _ _) A2 L.data.length c2 (strCells L.data) rfl (Hz.out _ b2).data (by rw[strCells_length];simp) hqn (C8 _) (by unfold maxLen;omega) (by omega) (Nat.le_refl _) ?_;intro v2 w3 hown2 hb3;rw[Nat.zero_add,List.nil_append]at hown2;obtain⟨V2,C2,rfl,f2,g2',e2⟩:=Az hown2;have b3:=bt b2 hb3;have z3:=z2.below hb3 z2.lt;have zk3:=blk2 z3;have r3:=r2.below hb3 r2.lt))
 have o1:=AD hown1 hb3;have w1l:=hb2.size;have w2l:=hb3.size;have o2:=Bb hown2 w1l;clear hown1 hown2 z zk r z2 zk2 r2 i0 b0 b2;by_cases hm:k∈L.targets
 · obtain⟨i,hi,m1,m2,m3⟩:=Pn.find_in hm;have hid2:i<L.data.length:=by have:=He.out;omega
   have Hw:=hid (show L.set k s=(⟨L.targets,L.data.set i s⟩,0) by rw[Pn.set,if_neg (by rw[h1];simp),if_neg (by have:=H2.out;omega),if_pos hm,m3]);have hf:=hfd _ b3;rw[m1]at hf;clear m1 m2 m3 hm hfd;go_at_call 91;refine hf.mono ?_;rintro e w4 ⟨rfl,hb4⟩;have b4:=bt b3 hb4;have z4:=z3.below hb4 z3.lt;have r4:=r3.below hb4 r3.lt;have p1:=AD o1 hb4;have p2:=AD o2 hb4;have w3l:=hb4.size;obtain⟨g2,rfl⟩:∃g2,V2=some ⟨g2,0,none⟩:=by
    rcases p2.2 with ⟨_,h⟩|⟨g2,cap,cur,h,_⟩
    · omega
    · injection h with h;exact⟨g2,h⟩
   have hg2:=(p2.lt g2 rfl).1;have ng1:¬w.heap.size+1=g2:=by omega
   have ng2:¬g2=w.heap.size+1:=by omega
   have cst:=p2.cellAt i (by omega);rw[show(strCells L.data)[i]? =some (.string (bs L.data[i])) by simp[strCells,hid2]]at cst;have fst:=p2.frozenAt i;have st:=(p2.stored i (.string (bs s))).1;have zk4:=blk2 z4;have rk4:=blk2 r4;have rf4:=r4.fz;have r5:=r4.other (a:=⟨g2,i,none⟩) ng1 (.string (bs s));have rk5:=blk2 r5;have rf5:=r5.fz;go_wp2_with fail
   rw[Hw.out];have yy:=blk2 (Ae r5 (.slice V1 L.targets.length C1) (.slice (some ⟨g2,0,none⟩) L.data.length C2));have b9:=Af (b4.setCell (p:=⟨g2,i,none⟩) (by show w.heap.size<=g2;omega) (.string (bs s))) (g:=w.heap.size+1) (by omega) (.slice V1 L.targets.length C1) (.slice (some ⟨g2,0,none⟩) L.data.length C2);have nb:∀b off,V1=some ⟨b,off,none⟩->b≠g2:=by
    rintro b off rfl rfl
    rcases p1.2 with ⟨h,_⟩|⟨g3,cap,cur,h,_,h3,_⟩
    · injection h with h;cases h
    · injection h with h;injection h with h;injection h with h
      subst h
      rcases p2.2 with ⟨h,_⟩|⟨g4,cap',cur',h,_,h4,_⟩
      · injection h with h;cases h
      · injection h with h;injection h with h;injection h with h
        subst h;rw[h3]at h4;injection h4 with h4
        injection h4 with _ h4
        exact absurd h4 (by decide)
   have ct:=(((Cells.of_own p1).setCell (p:=⟨g2,i,none⟩) nb (.string (bs s))).setCell (p:=⟨w.heap.size+1,0,none⟩) (AF p1 lt1) (.slice V1 L.targets.length C1)).setCell (p:=⟨w.heap.size+1,1,none⟩) (AF p1 lt1) (.slice (some ⟨g2,0,none⟩) L.data.length C2);have cd:=((Cells.of_own st).setCell (p:=⟨w.heap.size+1,0,none⟩) (AF st lt1) (.slice V1 L.targets.length C1)).setCell (p:=⟨w.heap.size+1,1,none⟩) (AF st lt1) (.slice (some ⟨g2,0,none⟩) L.data.length C2);rw[show(strCells L.data).set i (.string (bs s))=strCells (L.data.set i s) by simp[strCells,List.map_set]]at cd;refine bodyPost_ret (v:=.tuple #[pval ⟨L.targets,L.data.set i s⟩ ⟨V1,C1⟩ ⟨some ⟨g2,0,none⟩,C2⟩,.int .i64 0]) (by simp[results,Tryz.results50,go_sem,yy]) rfl ?_;refine⟨⟨_,_,rfl,⟨ct,cd,e1,e2,f1,by simpa using f2,g1,g2',hats,fun x hx=>?_⟩,fun g hg _=>⟨AX p1 (by omega),by rw[List.length_set];exact AX p2 (by omega)⟩⟩,b9⟩
   rcases List.mem_or_eq_of_mem_set hx with h|h
   · exact hstrs x h
   · subst h;have:=H2.out;omega
 · have hf:=hfd _ b3;rw[Pn.find_out hm]at hf;clear hfd;go_at_call 91;refine hf.mono ?_;rintro e w4 ⟨rfl,hb4⟩;have b4:=bt b3 hb4;have z4:=z3.below hb4 z3.lt;have r4:=r3.below hb4 r3.lt;have p1:=AD o1 hb4;have p2:=AD o2 hb4;have w3l:=hb4.size;have zk4:=blk2 z4;have rk4:=blk2 r4;have rf4:=r4.fz;by_cases hfull:24<=L.targets.length
   · have Hw:=hid (show L.set k s=(L,16) by rw[Pn.set,if_neg (by rw[h1];simp),if_neg (by have:=H2.out;omega),if_neg hm,if_pos hfull]);clear hm;go_wp2_with fail
     rw[Hw.out];have yy:=blk2 (Ae r4 (.slice A1 L.targets.length c1) (.slice A2 L.data.length c2));have b9:=Af b4 (g:=w.heap.size+1) (by omega) (.slice A1 L.targets.length c1) (.slice A2 L.data.length c2);refine bodyPost_ret (v:=.tuple #[pval L ⟨A1,c1⟩ ⟨A2,c2⟩,.int .i64 16]) (by simp[results,Tryz.results50,go_sem,yy]) rfl ?_;exact⟨⟨_,_,rfl,Hz.out _ b9,fun _ _ h=>h⟩,b9⟩
   · have Hw:=hid (show L.set k s=(⟨L.targets++[k],L.data++[s]⟩,0) by rw[Pn.set,if_neg (by rw[h1];simp),if_neg (by have:=H2.out;omega),if_neg hm,if_neg hfull]);clear hm;go_wp2_with (first|(at_builtin;refine wpList_append_own _ rfl (.tmp 43) (.tmp 45) 23 rfl w1.heap.size 3 i1 (.int .i64 0) 1 8 Tryz.underlying23 j1 iz1 iz2 iz3 rfl (by decide) _ L.targets.length (intCells L.targets) rfl (p1.alloc _) ⟨w4.heap.size,0,none⟩ 1 1 [.int .i64 k] rfl rfl (World.news_of_block (Blk.new w4 3 #[.int .i64 k])) (by simp[Value.oneCell']) (by unfold maxLen;omega) (by omega) (by simp;omega) ?_;intro v5 w5 h5 gr5 _;have gr5:(w4.alloc (.cells #[.int .i64 k] 3)).grownBy w5 (Value.slice V1 L.targets.length C1).ownBlock:=gr5;have q2:=(p2.alloc (.cells #[.int .i64 k] 3)).kept gr5 (Db (p2.alloc (.cells #[.int .i64 k] 3)) (p1.alloc (.cells #[.int .i64 k] 3)) (by decide));have r5:=(r4.alloc (.cells #[.int .i64 k] 3)).kept gr5 (Bg (p1.alloc (.cells #[.int .i64 k] 3)) (r4.alloc (.cells #[.int .i64 k] 3)) (by decide));have b5:=(b4.alloc b4.size (.cells #[.int .i64 k] 3)).trans ((Bf (p1.alloc (.cells #[.int .i64 k] 3)) gr5 (by simp;omega)).mono (by omega));have w5l:=gr5.size;obtain⟨V5,C5,rfl,f5,g5,e5⟩:=Az h5)|(at_builtin;refine wpList_append_own _ rfl (.tmp 47) (.tmp 49) 61 rfl w1.heap.size 9 i2 (.string ⟨#[]⟩) 1 16 Tryz.underlying61 j2 jz1 jz2 jz3 rfl (by decide) _ L.data.length (strCells L.data) rfl (q2.alloc _) ⟨w5.heap.size,0,none⟩ 1 1 [.string (bs s)] rfl rfl (World.news_of_block (Blk.new w5 9 #[.string (bs s)])) (by simp[Value.oneCell']) (by unfold maxLen;omega) (by omega) (by simp at w5l ⊢;omega) ?_;intro v6 w6 h6 gr6 _;have gr6:(w5.alloc (.cells #[.string (bs s)] 9)).grownBy w6 (Value.slice V2 L.data.length C2).ownBlock:=gr6;have h7:=(h5.alloc (.cells #[.string (bs s)] 9)).kept gr6 (Db (h5.alloc (.cells #[.string (bs s)] 9)) (q2.alloc (.cells #[.string (bs s)] 9)) (by decide));have r6:=(r5.alloc (.cells #[.string (bs s)] 9)).kept gr6 (Bg (q2.alloc (.cells #[.string (bs s)] 9)) (r5.alloc (.cells #[.string (bs s)] 9)) (by decide));have b6:=(b5.alloc b5.size (.cells #[.string (bs s)] 9)).trans ((Bf (q2.alloc (.cells #[.string (bs s)] 9)) gr6 (by simp at w5l ⊢;omega)).mono (by omega));obtain⟨V6,C6,rfl,f6,g6,e6⟩:=Az h6;have rk6:=blk2 r6;have rf6:=r6.frozen))
     rw[Hw.out];have yy:=blk2 (Ae r6 (.slice V5 (L.targets.length+1) C5) (.slice V6 (L.data.length+1) C6));have b9:=Af b6 (g:=w.heap.size+1) (by omega) (.slice V5 (L.targets.length+1) C5) (.slice V6 (L.data.length+1) C6);have ct:=((Cells.of_own h7).setCell (p:=⟨w.heap.size+1,0,none⟩) (AF h7 lt1) (.slice V5 (L.targets.length+1) C5)).setCell (p:=⟨w.heap.size+1,1,none⟩) (AF h7 lt1) (.slice V6 (L.data.length+1) C6);have cd:=((Cells.of_own h6).setCell (p:=⟨w.heap.size+1,0,none⟩) (AF h6 lt1) (.slice V5 (L.targets.length+1) C5)).setCell (p:=⟨w.heap.size+1,1,none⟩) (AF h6 lt1) (.slice V6 (L.data.length+1) C6);rw[show intCells L.targets++[Value.int .i64 k]=intCells (L.targets++[k]) by simp[intCells]]at ct;rw[show strCells L.data++[Value.string (bs s)]=strCells (L.data++[s]) by simp[strCells]]at cd;refine bodyPost_ret (v:=.tuple #[pval ⟨L.targets++[k],L.data++[s]⟩ ⟨V5,C5⟩ ⟨V6,C6⟩,.int .i64 0]) (by simp[results,Tryz.results50,go_sem,yy]) rfl ?_;refine⟨⟨_,_,rfl,⟨ct,cd,e5,e6,by simpa using f5,by simpa using f6,g5,g6,fun x hx=>?_,fun x hx=>?_⟩,fun g hg _=>⟨by have:=AX (g:=g) h7 (by omega);simpa using this,by have:=AX (g:=g) h6 (by omega);simpa using this⟩⟩,b9⟩
     · rcases List.mem_append.1 hx with h|h
       · exact hats x h
       · simp at h;subst h;exact hk
     · rcases List.mem_append.1 hx with h|h
       · exact hstrs x h
       · simp at h;subst h;have:=H2.out;omega
theorem Cz (L:Pn)(p q:Pl)(w:World)(hL:IsPn w L p q)(k:Int)(hk: -9223372036854775808<=k/\k<=9223372036854775807)(s:List UInt8)(hs:s.length<=9223372036854775807)(ht:L.targets.length<=1000000)(he:L.targets.length=L.data.length):
 Calls Tryz.prog 50 #[pval L p q,.int .i64 k,.string (bs s)] w fun e w'=>RetPn w.heap.size L p q (L.set k s) e w'/\Below w.heap.size w w':=by
 cases h1:sectorOk k with
 |false=>exact GB L p q w hL k s hs (.inl h1)
 |true=>
  by_cases h2:s.length=64
  · exact Nk L p q w hL k hk s h1 h2 ht he
  · exact GB L p q w hL k s hs (.inr h2)
theorem GA (D:Dk)(L:Pn)(p q p' q':Pl)(w:World)(hD:IsDk w D p q)(hL:IsPn w L p' q')(hf:D.fit=true)(hfl:L.Fit)(k o:Int)(hk: -9223372036854775808<=k/\k<=9223372036854775807)(s:List UInt8)(hs:s.length<=9223372036854775807):
 Calls Tryz.prog 95 #[dval D p q,pval L p' q',.int .i64 k,.int .i64 o,.string (bs s)] w fun e w'=>RetPn w.heap.size L p' q' (Pn.patch D L k o s) e w'/\Below w.heap.size w w':=by
 have hlk:=fun(W:World)(hb:Below w.heap.size w W)=>Cy D L p q p' q' W (hD.below hb) (hL.below hb) k (Dk.fit_parts hf).2.2.1 (by have:=hfl.2.1;omega) hfl.1
 have hst:=fun(W:World)(hb:Below w.heap.size w W)(s:List UInt8)(hs:s.length<=9223372036854775807)=>Cz L p' q' W (hL.below hb) k hk s hs (by have:=hfl.2.1;omega) hfl.1
 have Hap:=hid (fun g (hg:w.heap.size<=g)=>hL.apart hg);obtain⟨b,er,hb⟩:∃b er,Pn.look D L k=(b,er):=⟨_,_,rfl⟩;have hbl:b.length<=64:=by have:=FZ hf hfl k;rw[hb]at this;exact this
 obtain⟨c,f,hc⟩:∃c f,Pn.laidOver b o s=(c,f):=⟨_,_,rfl⟩;have hcl:f=0->c.length<=9223372036854775807:=by
  intro h0;rw[Pn.laidOver]at hc
  split at hc
  · injection hc with h1 h2;omega
  · injection hc with h1 h2
    rw[<-h1,Da _ _ _ (by omega)];omega
 have hov:=fun(W:World)=>El b s o W (by omega) hs
 rw[hc]at hov;simp only[hb]at hlk;have Hp:=hid (show Pn.patch D L k o s=if er≠0 then(L,er)else if f≠0 then(L,f)else L.set k c by rw[Pn.patch,hb,hc]);have Hz:=hid (fun(W:World)(hb:Below w.heap.size w W)=>hL.below hb);clear hb hc hD hL hf hfl;obtain⟨A1,c1⟩:=p;obtain⟨A2,c2⟩:=q;obtain⟨B1,d1⟩:=p';obtain⟨B2,d2⟩:=q';have b0:=Below.refl w.heap.size w;have x:=Blk.new w 25 #[.string (bs D.data),.slice A1 D.cache.length c1,.int .i64 D.fuse,.bool D.off,.slice A2 D.bad.length c2];have b0_1:=Ya b0 x;have z:=Yd b0_1 63 #[.slice B1 L.targets.length d1,.slice B2 L.data.length d2];simp only[Ys]at z;have zk:=blk2 z;have b0_2:=Ya b0_1 z;have x_3:=Yc x b0_2;have r:=Yd b0_2 63 #[.slice none 0 0,.slice none 0 0];simp only[Ys]at r;have rk:=blk2 r;have rkf:=r.fz;have b0_4:=Ya b0_2 r;have x_5:=Yc x_3 b0_4;have xk_5:=blk5 x_5;have z_6:=Yc z b0_4;have zk_6:=blk2 z_6;go_enter Tryz.func95,Tryz.ntmps95;go_wp2_with fail
 go_at_call 71;refine((hlk _ b0_4)).mono ?_;rintro e w1 ⟨rfl,hb1⟩;replace b0:=bt b0_4 hb1;replace x:=x_5.below hb1 x_5.lt;replace z:=z_6.below hb1 z_6.lt;replace zk:=blk2 z;replace r:=r.below hb1 r.lt;replace rk:=blk2 r;replace rkf:=r.fz;clear b0_1 b0_2 x_3 b0_4 xk_5 x_5 zk_6 z_6;by_cases h1:er=0
 case neg=>
  have n1:(er !=0)=true:=by simpa using h1
  have Hr:=hid (show Pn.patch D L k o s=(L,er) by rw[Hp.out,if_pos h1]);clear h1;go_wp2_with fail
  rw[Hr.out];have yy:=blk2 (Ae r (.slice B1 L.targets.length d1) (.slice B2 L.data.length d2));have b9:=Af b0 (g:=w.heap.size+1+1) (by omega) (.slice B1 L.targets.length d1) (.slice B2 L.data.length d2);refine bodyPost_ret (v:=.tuple #[pval L ⟨B1,d1⟩ ⟨B2,d2⟩,.int .i64 er]) (by simp[results,Tryz.results95,go_sem,yy]) rfl ?_;exact⟨⟨_,_,rfl,Hz.out _ b9,fun _ _ h=>h⟩,b9⟩
 subst h1;go_wp2_with fail
 go_at_call 61;refine((hov _)).mono ?_;rintro e w2 ⟨rfl,hb2⟩;replace b0:=bt b0 hb2;replace x:=x.below hb2 x.lt;replace z:=z.below hb2 z.lt;replace zk:=blk2 z;replace r:=r.below hb2 r.lt;replace rk:=blk2 r;replace rkf:=r.fz;have lt3:=r.lt;by_cases h2:f=0
 case neg=>
  have n1:(f !=0)=true:=by simpa using h2
  have Hr:=hid (show Pn.patch D L k o s=(L,f) by rw[Hp.out,if_neg (by simp),if_pos h2]);clear h2;go_wp2_with fail
  rw[Hr.out];have yy:=blk2 (Ae r (.slice B1 L.targets.length d1) (.slice B2 L.data.length d2));have b9:=Af b0 (g:=w.heap.size+1+1) (by omega) (.slice B1 L.targets.length d1) (.slice B2 L.data.length d2);refine bodyPost_ret (v:=.tuple #[pval L ⟨B1,d1⟩ ⟨B2,d2⟩,.int .i64 f]) (by simp[results,Tryz.results95,go_sem,yy]) rfl ?_;exact⟨⟨_,_,rfl,Hz.out _ b9,fun _ _ h=>h⟩,b9⟩
 subst h2;have hcl':=hcl rfl;have Hr:=hid (show Pn.patch D L k o s=L.set k c by rw[Hp.out,if_neg (by simp),if_neg (by simp)]);clear hcl;go_wp2_with fail
 go_at_call 50;refine((hst _ b0 c hcl')).mono ?_;rintro e w3 ⟨⟨p3,q3,rfl,i3,o3⟩,hb3⟩;replace b0:=bt b0 hb3;replace x:=x.below hb3 x.lt;replace z:=z.below hb3 z.lt;replace zk:=blk2 z;replace r:=r.below hb3 r.lt;replace rk:=blk2 r;replace rkf:=r.fz;go_wp2_with fail
 rw[Hr.out];have ho:=o3 (w.heap.size+1+1) lt3 (Hap.out _ (by omega));have yy:=blk2 (Ae r (.slice p3.a (L.set k c).1.targets.length p3.c) (.slice q3.a (L.set k c).1.data.length q3.c));have b9:=Af b0 (g:=w.heap.size+1+1) (by omega) (.slice p3.a (L.set k c).1.targets.length p3.c) (.slice q3.a (L.set k c).1.data.length q3.c);refine bodyPost_ret (v:=.tuple #[pval (L.set k c).1 p3 q3,.int .i64 (L.set k c).2]) (by simp[results,Tryz.results95,go_sem,yy]) rfl ?_;exact⟨⟨_,_,rfl,i3.off2 ho _ _,fun g hg h=>o3 g (by omega) h⟩,b9⟩
end
section
open Go.RowKit Go.Shelf
theorem Cells.grown {w w':World}{A:Option Addr}{cs:List Value}{G n:Nat}(h:Cells w A cs)(hg:w.grownBy w' (some G))(ho:Off G A n)(hn:n=0->cs=[]):Cells w' A cs:=by
 rcases ho with h0|ho
 · exact .inl (hn h0)
 rcases h with h|⟨b,off,e,hc⟩
 · exact .inl h
 · refine .inr ⟨b,off,e,fun j u hu=>?_⟩;have h1:=hc j u hu;have h2:=AZ h1;rw[World.cell?_of_block (w:=w) (a:=⟨b,off+j,none⟩) (hg.block b h2 (by intro e';injection e' with e';exact ho b off e e'))];exact h1
theorem IsPn.grown {w w':World}{L:Pn}{p q:Pl}{G:Nat}(h:IsPn w L p q)(hg:w.grownBy w' (some G))(ho:PnOff G L p q):IsPn w' L p q:=
 {h with targets:=h.targets.grown hg ho.1 (fun e=>by rw[List.length_eq_zero_iff.1 e];rfl),data:=h.data.grown hg ho.2 (fun e=>by rw[List.length_eq_zero_iff.1 e];rfl)}
theorem IsDk.grown {w w':World}{D:Dk}{p q:Pl}{G:Nat}(h:IsDk w D p q)(hg:w.grownBy w' (some G))(ho:DkOff G D p q):IsDk w' D p q:=
 {h with cache:=h.cache.grown hg ho.1 (fun e=>by rw[List.length_eq_zero_iff.1 e];rfl),bad:=h.bad.grown hg ho.2 (fun e=>by rw[List.length_eq_zero_iff.1 e];rfl)}
theorem Ky {w w':World}(h:Below w.heap.size w w')(G:Nat):w.grownBy w' (some G):=⟨h.os,h.tape,h.output,h.size,fun k hk _=>h.block k hk⟩
theorem DT {a b:World}{G B:Nat}(h:a.grownBy b (some G))(hB:B<=G)(hs:B<=a.heap.size):Below B a b:=⟨h.os,h.tape,h.output,h.size,fun k hk=>h.block k (by omega) (by intro e;injection e with e;omega)⟩
theorem Blk.grown {a b:World}{G k:Nat}{t:TypeId}{cs:Array Value}(h:Blk a k t cs)(hg:a.grownBy b (some G))(hk:k≠G):Blk b k t cs:=h.kept hg (by intro e;injection e with e;exact hk e)
theorem Bj {w w':World}{g:Nat}(h:w.grownBy w' (some g))(o:Nat)(v:Value):w.grownBy (w'.setCell ⟨g,o,none⟩ v) (some g):=
 ⟨h.os,h.tape,h.output,by simpa using h.size,fun k hk hne=>(Below.heap_setCell w' ⟨g,o,none⟩ v k (fun e=>hne (by rw[e]))).trans (h.block k hk hne)⟩
theorem DU {w w':World}{g:Nat}(h:w.grownBy w' (some g))(v0 v1 v2 v3 v4 v5:Value):
 w.grownBy ((((((w'.setCell ⟨g,0,none⟩ v0).setCell ⟨g,1,none⟩ v1).setCell ⟨g,2,none⟩ v2).setCell ⟨g,3,none⟩ v3).setCell ⟨g,4,none⟩ v4).setCell ⟨g,5,none⟩ v5) (some g):=
 Bj (Bj (Bj (Bj (Bj (Bj h 0 v0) 1 v1) 2 v2) 3 v3) 4 v4) 5 v5
theorem Cq {w w1 w2:World}{g:Nat}(h:w.grownBy w1 (some g))(h2:Below w1.heap.size w1 w2):w.grownBy w2 (some g):=
 ⟨h2.os.trans h.os,h2.tape.trans h.tape,h2.output.trans h.output,Nat.le_trans h.size h2.size,fun k hk hne=>(h2.block k (Nat.lt_of_lt_of_le hk h.size)).trans (h.block k hk hne)⟩
theorem FG (w:World)(g:Nat):w.grownBy w (some g):=⟨rfl,rfl,rfl,Nat.le_refl _,fun _ _ _=>rfl⟩
section
variable {P:Program} {Q:Exit->Act->World->Prop}
theorem Gd {o:Oper}{a:Act}{w w':World}{f:FuncId}{args:Array Value}{K:Act->World->Prop}(hr:(execOp a.eval o).run P w=.ok (.enter f args) w')
 (h:Calls P f args w' fun e w''=>∃v,e=.returned v/\K (a.put o.dst v) w''):o.wp P a w K Q:=by
 simp only[Oper.wp,hr,Oper.upon];refine h.mono ?_;rintro e w'' ⟨v,rfl,hv⟩;exact hv
end
attribute [local go_sem] Ad Ag Ah Ac Aj Ai
theorem Mx (L:Pn)(p q:Pl)(w:World)(hL:IsPn w L p q)(ht:L.targets.length<=1000000)(he:L.targets.length=L.data.length)(l n:Nat)(hl:l<256)(hn:n<4294967296):
 Calls Tryz.prog 51 #[pval L p q,rval l n] w fun e w'=>RetPn w.heap.size L p q (L.set 1 (rtHead l n)) e w'/\Below w.heap.size w w':=by
 have hc:=fun W=>Gs l W
 rw[decide_eq_true hl]at hc;have hh:=fun W=>Gu l n (by omega) hn W
 have hs:=fun(W:World)(hb:Below w.heap.size w W)=>Cz L p q W (hL.below hb) 1 (by decide) (rtHead l n) (by rw[NQ];decide) ht he
 have oP:∀B,w.heap.size<=B->PnOff B L p q:=fun B hB=>hL.apart hB
 generalize rtHead l n=T at*;generalize L.set 1 T=R at*;clear hL ht he hl;obtain⟨B1,b1⟩:=p;obtain⟨B2,b2⟩:=q;have hB:=Below.refl w.heap.size w;have z:=Blk.new w 63 #[.slice B1 L.targets.length b1,.slice B2 L.data.length b2];have zk:=blk2 z;have hB_1:=Ya hB z;have y:=Yd hB_1 95 #[.int .i64 l,.int .u32 n];simp only[Ys]at y;have yk:=blk2 y;have hB_2:=Ya hB_1 y;have z_3:=Yc z hB_2;have r:=Yd hB_2 63 #[.slice none 0 0,.slice none 0 0];simp only[Ys]at r;have rk:=blk2 r;have rkf:=r.fz;have hB_4:=Ya hB_2 r;have z_5:=Yc z_3 hB_4;have zk_5:=blk2 z_5;have y_6:=Yc y hB_4;have yk_6:=blk2 y_6;go_enter Tryz.func51,Tryz.ntmps51;go_wp2_with fail
 generalize (((w.alloc (.cells #[.slice B1 L.targets.length b1,.slice B2 L.data.length b2] 63)).alloc (.cells #[.int .i64 l,.int .u32 n] 95)).alloc (.cells #[.slice none 0 0,.slice none 0 0] 63))=V at hB_4 z_5 zk_5 y_6 yk_6 r rk rkf ⊢;clear hB_1 hB_2 z_3 hB z y zk yk;have hB:=hB_4;have z:=z_5;have zk:=zk_5;have y:=y_6;have yk:=yk_6;clear hB_4 z_5 zk_5 y_6 yk_6;go_at_call 92;refine(hc _).mono ?_;rintro e w5 ⟨rfl,rfl⟩;have nz:w.heap.size≠w.heap.size+1+1:=by omega
 have ny:w.heap.size+1≠w.heap.size+1+1:=by omega
 have KZ:=fun(W:World)(hW:w5.grownBy W (some (w.heap.size+1+1)))=>blk2 (z.grown hW nz)
 have KY:=fun(W:World)(hW:w5.grownBy W (some (w.heap.size+1+1)))=>blk2 (y.grown hW ny)
 have hBs:=hB.size;go_wp2_with fail
 have s0:w5.grownBy w5.drew (some (w.heap.size+1+1)):=Ky (Below.refl _ _).drew _;have r0:=r.drew;refine AT (S:=fun W=>w5.grownBy W (some (w.heap.size+1+1))) (late:=fun _=>false) (by kernel_rfl) ?_;generalize w5.drew=U0 at s0 r0 ⊢;simp only[Nat.reduceAdd,Yn];refine Yu 0 (some 11) (pval L ⟨B1,b1⟩ ⟨B2,b2⟩) rfl (fun W hW=>by have h9:=KZ W hW;go_simp) s0 ?_;simp only[Yf];refine Yu 1 (some 12) (rval l n) rfl (fun W hW=>by have h9:=KY W hW;go_simp) s0 ?_;simp only[Yf];refine Yo 2 (fun K' hK=>?_);refine Gd (f:=93) (args:=#[rval l n]) (w':=U0) (by go_simp) ((hh U0).mono ?_);rintro e U1 ⟨rfl,hb1⟩;refine⟨_,rfl,?_⟩;show K' (Act.put _ (some 13) _) _;have s1:=Cq s0 hb1;have r1:=r0.below hb1 r0.lt;refine hK _ _ (fun _ _=>s1) ?_;simp only[Yf];refine Yo 3 (fun K' hK=>?_);refine Gd (f:=50) (args:=#[pval L ⟨B1,b1⟩ ⟨B2,b2⟩,.int .i64 1,.string (bs T)]) (w':=U1) (by go_simp) ((hs U1 (hB.trans (DT s1 (by omega) hBs))).mono ?_);rintro e U2 ⟨⟨p6,q6,rfl,i6,o6⟩,hb2⟩;refine⟨_,rfl,?_⟩;show K' (Act.put _ (some 14) _) _;have s2:=Cq s1 hb2;have or6:=o6 (w.heap.size+1+1) r1.lt (oP _ (by omega));have r2:=r1.below hb2 r1.lt;have hBU:=hB.trans (DT s2 (by omega) hBs);have O6:∀g,g<w.heap.size->PnOff g L ⟨B1,b1⟩ ⟨B2,b2⟩->PnOff g R.1 p6 q6:=fun g h1 h2=>o6 g (by have:=s1.size;omega) h2
 refine hK _ _ (fun _ _=>s2) ?_;simp only[Yf];refine Yt 4 15 (pval R.1 p6 q6) ?_;simp only[Yf];refine Yt 5 16 (.int .i64 R.2) ?_;simp only[Yf];refine Yo 6 (fun K' hK=>?_);refine Aw (w':=(U2.setCell ⟨w.heap.size+1+1,0,none⟩ (.slice p6.a R.1.targets.length p6.c)).setCell ⟨w.heap.size+1+1,1,none⟩ (.slice q6.a R.1.data.length q6.c)) (by have f1:=r2.frozen;have z1:=blk2 r2;have qq:=r2.set 0 (.slice p6.a R.1.targets.length p6.c);have uf2:=qq.frozen;have u1:=blk2 qq;go_simp) ?_;show K' (Act.put _ none _) _;have s3:=Bj (Bj s2 0 (.slice p6.a R.1.targets.length p6.c)) 1 (.slice q6.a R.1.data.length q6.c);have yy:=blk2 (Ae r2 (.slice p6.a R.1.targets.length p6.c) (.slice q6.a R.1.data.length q6.c));have i8:=i6.off2 or6 (.slice p6.a R.1.targets.length p6.c) (.slice q6.a R.1.data.length q6.c);have b8:=Af hBU (g:=w.heap.size+1+1) (by omega) (.slice p6.a R.1.targets.length p6.c) (.slice q6.a R.1.data.length q6.c);refine hK _ _ (fun _ _=>s3) ?_
 try simp only[Yf]
 refine Yt 7 5 (.int .i64 R.2) ?_;simp only[Yf];refine Ar (by kernel_rfl) ?_ _;go_wp2_with fail
 refine bodyPost_ret (v:=.tuple #[pval R.1 p6 q6,.int .i64 R.2]) (by simp[results,Tryz.results51,go_sem,yy]) rfl ?_;exact⟨⟨p6,q6,rfl,i8,O6⟩,b8⟩
theorem Mw (L:Pn)(p q:Pl)(w:World)(hL:IsPn w L p q)(ht:L.targets.length<=1000000)(he:L.targets.length=L.data.length)(l:Int)(n:Nat)(hn:n<4294967296):
 Calls Tryz.prog 51 #[pval L p q,.agg #[.int .i64 l,.int .u32 n]] w fun e w'=>RetPn w.heap.size L p q (Pn.rtSet L l n) e w'/\Below w.heap.size w w':=by
 by_cases h:l<0\/256<=l
 · have hc:=fun W=>Mu l W
   rw[decide_eq_false (show¬(0<=l/\l<256) by omega)]at hc;have Hr:=hid (show Pn.rtSet L l n=(L,10) by rw[Pn.rtSet,if_pos h]);have hz:=hL;have hap:=fun g (hg:w.heap.size<=g)=>hL.apart hg
   clear hL h ht he hn;obtain⟨A1,a1⟩:=p;obtain⟨A2,a2⟩:=q;have hB:=Below.refl w.heap.size w;have x:=Blk.new w 63 #[.slice A1 L.targets.length a1,.slice A2 L.data.length a2];have xk:=blk2 x;have hB_1:=Ya hB x;have y:=Yd hB_1 95 #[.int .i64 l,.int .u32 n];simp only[Ys]at y;have hB_2:=Ya hB_1 y;have x_3:=Yc x hB_2;have r:=Yd hB_2 63 #[.slice none 0 0,.slice none 0 0];simp only[Ys]at r;have rk:=blk2 r;have rkf:=r.fz;have hB_4:=Ya hB_2 r;have x_5:=Yc x_3 hB_4;have y_6:=Yc y hB_4;have yk_6:=blk2 y_6;go_enter Tryz.func51,Tryz.ntmps51;go_wp2_with fail
   go_at_call 92;refine((hc _)).mono ?_;rintro e w1 ⟨rfl,hb1⟩;replace hB:=bt hB_4 hb1;replace x:=x_5.below hb1 x_5.lt;replace xk:=blk2 x;replace y:=y_6.below hb1 y_6.lt;replace r:=r.below hb1 r.lt;replace rk:=blk2 r;replace rkf:=r.fz;clear hB_1 hB_2 x_3 hB_4 x_5 yk_6 y_6;go_wp2_with fail
   have i0:=hz.below hB;have yy:=blk2 (Ae r (.slice A1 L.targets.length a1) (.slice A2 L.data.length a2));have i2:=i0.off2 (g:=w.heap.size+1+1) (hap _ (by omega)) (.slice A1 L.targets.length a1) (.slice A2 L.data.length a2);have b8:=Af hB (g:=w.heap.size+1+1) (by omega) (.slice A1 L.targets.length a1) (.slice A2 L.data.length a2);refine bodyPost_ret (v:=.tuple #[pval L ⟨A1,a1⟩ ⟨A2,a2⟩,.int .i64 10]) (by simp[results,Tryz.results51,go_sem,yy]) rfl ?_;rw[Hr.out];exact⟨⟨⟨A1,a1⟩,⟨A2,a2⟩,rfl,i2,fun g _ h=>h⟩,b8⟩
 · obtain⟨l,rfl⟩:=Int.eq_ofNat_of_zero_le (show 0<=l by omega);refine(Mx L p q w hL ht he l n (by omega) hn).mono ?_;rintro e w' ⟨h1,h2⟩;rw[show Pn.rtSet L l n=L.set 1 (rtHead l n) by rw[Pn.rtSet,if_neg h,Int.toNat_natCast]];exact⟨h1,h2⟩
end
end Go.Proofs.YtmiilfnchfdfcaaGreatDoor
