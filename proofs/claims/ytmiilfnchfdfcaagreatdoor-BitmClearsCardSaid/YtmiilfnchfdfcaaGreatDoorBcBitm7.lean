/- Bc: Bitm5, Bitm4, Bitm7. -/
import Derived.Test.YtmiilfnchfdfcaaGreatDoorBcBitm3
set_option maxRecDepth 100000
set_option maxHeartbeats 40000000
set_option linter.unusedVariables false
namespace Go.Proofs.YtmiilfnchfdfcaaGreatDoor
section
open Go.RowKit Go.Shelf
attribute [local go_sem] Ad Af Ag Ac Ai Ah
theorem ID (x:Im)(p q r:Pl)(w:World)(hI:IsIm w x p q r)(ok:x.Ok)(nm:List UInt8)(hnm:nm.length<=maxLen):
 Calls Tryz.prog 9 #[imval x p q r,.string (bs nm)] w fun e w'=>RetIm w.heap.size x p q r (x.bmAdd nm) e w'/\Below w.heap.size w w':=by
 have hna:=fun(W:World)=>F6 nm hnm W
 have hn1:=fun(W:World)(hb:Below w.heap.size w W)=>Cj x.maps r nm hnm W (hI.m.below hb)
 have hmp:=fun(W:World)(hb:Below w.heap.size w W)=>Cy x.d Pn.none p q ⟨none,0⟩ ⟨none,0⟩ W (hI.d.below hb) (AO _) ok.d Pn.none_fit
 have hml:=CW x.d Pn.none;have hcl:=fun(W:World)(hb:Below w.heap.size w W)=>EX x.maps r W (hI.m.below hb) (by have:=ok.maps;omega)
 have hfr:=fun(W:World)=>DE nm W
 have Hpt:=hid (fun(W:World)(hb:Below w.heap.size w W)=>IJ x p q r W (hI.below hb) ok [] (by unfold maxLen;simp) (dmFresh nm) (Ba nm) hnm 17);have Hap:=hid (fun g (hg:w.heap.size<=g)=>hI.apart hg);have HC:=hid (show x.bmAdd nm=if x.br=true then(x,24)else if nameOk nm=false then(x,19)else if 0<=dmFind x.maps nm then(x,20)else if 2<=x.maps.length then(x,17)
  else if(Pn.maps x.d Pn.none).2=0/\0<=dmFind (Pn.maps x.d Pn.none).1 nm then(x,20)
  else if(x.bmPut [] (dmFresh nm) 17).2=0 then((x.bmPut [] (dmFresh nm) 17).1.withMaps (x.maps++[dmFresh nm]),0)else x.bmPut [] (dmFresh nm) 17 from rfl)
 have hkr:=Cm x.maps nm;have h64M:=Ba nm;have h64N:∀m∈x.maps++[dmFresh nm],m.bits.length=64:=fun m hm=>by
  rcases List.mem_append.1 hm with h|h
  · exact hI.m.bits m h
  · rw[List.mem_singleton.1 h];exact Ba nm
 have hnmN:∀m∈x.maps++[dmFresh nm],m.name.length<=maxLen:=fun m hm=>by
  rcases List.mem_append.1 hm with h|h
  · exact hI.m.name m h
  · rw[List.mem_singleton.1 h];exact hnm
 have hmls:=ok.maps;obtain⟨i0,hi,hz0,hz1,hz2⟩:=info_parts Tryz.infoDmap3;have hne:nameR nm=if nameOk nm=true then(nm++List.replicate (8-nm.length) 0,0)else([],19):=rfl
 generalize x.bmPut [] (dmFresh nm) 17=DN at*;generalize dmFresh nm=M at*;generalize dmFind x.maps nm=k at*;generalize Pn.maps x.d Pn.none=MM at*;obtain⟨l,em⟩:=MM;simp only at hmp hml HC;have hn2:=fun(W:World)(R:Pl)(i:IsMs W l R)=>Cj l R nm hnm W i
 have hkr2:=Cm l nm;generalize dmFind l nm=k2 at*;obtain⟨hd,hm⟩:=hI;clear ok;obtain⟨D,g,h,⟨seq,pos⟩,maps,br⟩:=x;simp only at hd hm hmp hn1 hcl Hap HC hkr h64N hnmN hmls;obtain⟨⟨F,g9,h9,⟨s9,o9⟩,m9,b9⟩,ed⟩:=DN;simp only at HC;obtain⟨A1,a1⟩:=p;obtain⟨A2,a2⟩:=q;obtain⟨A3,a3⟩:=r;have a36:=Tryz.dm_agg;have z36:=Tryz.dm_siz;have or0:=Hap.out (w.heap.size+1) (by omega);have ord:=or0.1;have orm:=or0.2;replace hmls:=hid hmls;have hB:=Below.refl w.heap.size w;have x:=Blk.new w 33 #[.string (bs D.data),.slice A1 D.cache.length a1,.int .i64 D.fuse,.bool D.off,.slice A2 D.bad.length a2,.int .i64 g,.int .i64 h,.int .u64 seq,.int .i64 pos,.slice A3 maps.length a3,.bool br];have xk:=Aa x;have xkf:=x.fz;have hB_1:=Ya hB x;have hd_2:=hd.below (Yb hB_1);have hm_3:=hm.below (Yb hB_1);have r:=Yd hB_1 33 #[.string (bs []),.slice none 0 0,.int .i64 0,.bool false,.slice none 0 0,.int .i64 0,.int .i64 0,.int .u64 0,.int .i64 0,.slice none 0 0,.bool false];simp only[Ys]at r;have rk:=Aa r;have rkf:=r.fz;have hB_4:=Ya hB_1 r;have hd_5:=hd_2.below (Yb hB_4);have hm_6:=hm_3.below (Yb hB_4);have x_7:=Yc x hB_4;have xk_7:=Aa x_7;have xkf_7:=x_7.fz;go_enter Tryz.func9,Tryz.ntmps9;go_wp2_with fail
 go_at_call 26;refine((hna _)).mono ?_;rintro e w1 ⟨rfl,hb1⟩;replace hB:=bt hB_4 hb1;replace hd:=hd_5.below hb1;replace hm:=hm_6.below hb1;replace x:=x_7.below hb1 x_7.lt;replace xk:=Aa x;replace xkf:=x.fz;replace r:=r.below hb1 r.lt;replace rk:=Aa r;replace rkf:=r.fz;clear hB_1 hd_2 hm_3 hB_4 hd_5 hm_6 xk_7 xkf_7 x_7;have hrl1:=hid (r.lt);cases br with
 |true=>
  have Hr:=hid (HC.out.trans (if_pos rfl));clear HC hn1 hmp hcl Hpt hml hkr hkr2 hn2 h64N hnmN hfr hi hz0 hz1 hz2 hne;have q_hrl1:=hrl1.out;have hB_8:=Ar hB (g:=w.heap.size+1) (by omega) (.string (bs D.data)) (.slice A1 D.cache.length a1) (.int .i64 D.fuse) (.bool D.off) (.slice A2 D.bad.length a2) (.int .i64 g) (.int .i64 h) (.int .u64 seq) (.int .i64 pos) (.slice A3 maps.length a3) (.bool true);have hd_9:=hd.oc hB_8 (by first|assumption|omega);have hm_10:=hm.oc hB_8 (by first|assumption|omega);have x_11:=Yg x hB_8 (by omega);have xk_11:=Aa x_11;have xkf_11:=x_11.fz;have r_12:=Yh r hB_8;have rk_12:=Aa r_12;have rkf_12:=r_12.fz;clear q_hrl1;have yy:=Aa r_12;have bw:=hB_8;have dw:=hd_9;have mw:=hm_10;go_wp2_with fail
  refine bodyPost_ret (v:=.tuple #[imval ⟨D,g,h,⟨seq,pos⟩,maps,true⟩ ⟨A1,a1⟩ ⟨A2,a2⟩ ⟨A3,a3⟩,.int .i64 24]) (by simp[results,Tryz.results9,go_sem,yy]) rfl ?_;rw[Hr.out];exact⟨⟨⟨A1,a1⟩,⟨A2,a2⟩,⟨A3,a3⟩,rfl,⟨dw,mw⟩,fun _ _ h=>h⟩,bw⟩
 |false=>
 cases hok:nameOk nm with
 |false=>
  rw[hok]at hne;have n1:((nameR nm).2 !=0)=true:=by rw[hne];rfl
  have Hr:=hid (HC.out.trans ((if_neg (by simp)).trans (if_pos hok)));have e19:(nameR nm).2=19:=by rw[hne];rfl
  generalize nameR nm=NR at*;obtain⟨nb,en⟩:=NR;simp only at n1 e19;subst e19;clear HC hn1 hmp hcl Hpt hml hkr hkr2 hn2 h64N hnmN hfr hi hz0 hz1 hz2 hne hok;have q_hrl1:=hrl1.out;have hB_8:=Ar hB (g:=w.heap.size+1) (by omega) (.string (bs D.data)) (.slice A1 D.cache.length a1) (.int .i64 D.fuse) (.bool D.off) (.slice A2 D.bad.length a2) (.int .i64 g) (.int .i64 h) (.int .u64 seq) (.int .i64 pos) (.slice A3 maps.length a3) (.bool false);have hd_9:=hd.oc hB_8 (by first|assumption|omega);have hm_10:=hm.oc hB_8 (by first|assumption|omega);have x_11:=Yg x hB_8 (by omega);have xk_11:=Aa x_11;have xkf_11:=x_11.fz;have r_12:=Yh r hB_8;have rk_12:=Aa r_12;have rkf_12:=r_12.fz;clear q_hrl1;have yy:=Aa r_12;have bw:=hB_8;have dw:=hd_9;have mw:=hm_10;go_wp2_with fail
  refine bodyPost_ret (v:=.tuple #[imval ⟨D,g,h,⟨seq,pos⟩,maps,false⟩ ⟨A1,a1⟩ ⟨A2,a2⟩ ⟨A3,a3⟩,.int .i64 19]) (by simp[results,Tryz.results9,go_sem,yy]) rfl ?_;rw[Hr.out];exact⟨⟨⟨A1,a1⟩,⟨A2,a2⟩,⟨A3,a3⟩,rfl,⟨dw,mw⟩,fun _ _ h=>h⟩,bw⟩
 |true=>
 rw[hok]at hne;have e0:(nameR nm).2=0:=by rw[hne];rfl
 generalize nameR nm=NR at*;obtain⟨nb,en⟩:=NR;simp only at e0;subst e0;clear hne;replace HC:=hid (HC.out.trans ((if_neg (by simp)).trans (if_neg (by rw[hok];simp))));clear hok;go_wp2_with fail
 go_at_call 27;refine((hn1 _ hB)).mono ?_;rintro e w2 ⟨rfl,hb2⟩;replace hB:=bt hB hb2;replace hd:=hd.below hb2;replace hm:=hm.below hb2;replace x:=x.below hb2 x.lt;replace xk:=Aa x;replace xkf:=x.fz;replace r:=r.below hb2 r.lt;replace rk:=Aa r;replace rkf:=r.fz;have hrl2:=hid (r.lt);clear hn1;by_cases hk:0<=k
 · have d0:decide ((0:Int)<=k)=true:=decide_eq_true hk;have Hr:=hid (HC.out.trans (if_pos hk));clear HC hmp hcl Hpt hml hkr hkr2 hn2 h64N hnmN hfr hi hz0 hz1 hz2 hk;have q_hrl1:=hrl1.out;have q_hrl2:=hrl2.out;have hB_8:=Ar hB (g:=w.heap.size+1) (by omega) (.string (bs D.data)) (.slice A1 D.cache.length a1) (.int .i64 D.fuse) (.bool D.off) (.slice A2 D.bad.length a2) (.int .i64 g) (.int .i64 h) (.int .u64 seq) (.int .i64 pos) (.slice A3 maps.length a3) (.bool false);have hd_9:=hd.oc hB_8 (by first|assumption|omega);have hm_10:=hm.oc hB_8 (by first|assumption|omega);have x_11:=Yg x hB_8 (by omega);have xk_11:=Aa x_11;have xkf_11:=x_11.fz;have r_12:=Yh r hB_8;have rk_12:=Aa r_12;have rkf_12:=r_12.fz;clear q_hrl1 q_hrl2;have yy:=Aa r_12;have bw:=hB_8;have dw:=hd_9;have mw:=hm_10;go_wp2_with fail
   refine bodyPost_ret (v:=.tuple #[imval ⟨D,g,h,⟨seq,pos⟩,maps,false⟩ ⟨A1,a1⟩ ⟨A2,a2⟩ ⟨A3,a3⟩,.int .i64 20]) (by simp[results,Tryz.results9,go_sem,yy]) rfl ?_;rw[Hr.out];exact⟨⟨⟨A1,a1⟩,⟨A2,a2⟩,⟨A3,a3⟩,rfl,⟨dw,mw⟩,fun _ _ h=>h⟩,bw⟩
 have d0:decide ((0:Int)<=k)=false:=decide_eq_false hk;replace HC:=hid (HC.out.trans (if_neg hk));clear hk hkr;by_cases hl2:2<=maps.length
 · have d1:decide ((2:Int)<=(maps.length:Int))=true:=decide_eq_true (by omega);have d2:decide (2<=maps.length)=true:=decide_eq_true hl2;have d3:(2:Int)<=(maps.length:Int):=by omega
   have Hr:=hid (HC.out.trans (if_pos hl2));clear HC hmp hcl Hpt hml hkr2 hn2 h64N hnmN hfr hi hz0 hz1 hz2 hl2;have q_hrl1:=hrl1.out;have q_hrl2:=hrl2.out;have hB_8:=Ar hB (g:=w.heap.size+1) (by omega) (.string (bs D.data)) (.slice A1 D.cache.length a1) (.int .i64 D.fuse) (.bool D.off) (.slice A2 D.bad.length a2) (.int .i64 g) (.int .i64 h) (.int .u64 seq) (.int .i64 pos) (.slice A3 maps.length a3) (.bool false);have hd_9:=hd.oc hB_8 (by first|assumption|omega);have hm_10:=hm.oc hB_8 (by first|assumption|omega);have x_11:=Yg x hB_8 (by omega);have xk_11:=Aa x_11;have xkf_11:=x_11.fz;have r_12:=Yh r hB_8;have rk_12:=Aa r_12;have rkf_12:=r_12.fz;clear q_hrl1 q_hrl2;have yy:=Aa r_12;have bw:=hB_8;have dw:=hd_9;have mw:=hm_10;go_wp2_with fail
   refine bodyPost_ret (v:=.tuple #[imval ⟨D,g,h,⟨seq,pos⟩,maps,false⟩ ⟨A1,a1⟩ ⟨A2,a2⟩ ⟨A3,a3⟩,.int .i64 17]) (by simp[results,Tryz.results9,go_sem,yy]) rfl ?_;rw[Hr.out];exact⟨⟨⟨A1,a1⟩,⟨A2,a2⟩,⟨A3,a3⟩,rfl,⟨dw,mw⟩,fun _ _ h=>h⟩,bw⟩
 have d1:decide ((2:Int)<=(maps.length:Int))=false:=decide_eq_false (by omega);have d2:decide (2<=maps.length)=false:=decide_eq_false hl2;have d3:¬(2:Int)<=(maps.length:Int):=by omega
 replace HC:=hid (HC.out.trans (if_neg hl2));have hl1:maps.length<2:=by omega
 clear hl2;go_wp2_with fail
 go_at_call 28;refine((hmp _ hB)).mono ?_;rintro e w3 ⟨⟨v,rfl,hv⟩,hb3⟩;replace hB:=bt hB hb3;replace hd:=hd.below hb3;replace hm:=hm.below hb3;replace x:=x.below hb3 x.lt;replace xk:=Aa x;replace xkf:=x.fz;replace r:=r.below hb3 r.lt;replace rk:=Aa r;replace rkf:=r.fz;have hrl3:=hid (r.lt);obtain⟨AL,cl,rfl,_,_,_⟩:=Ay hv;have iL:=IsMs.of_own rfl hv hml.2.1 hml.2.2;clear hv hmp hml;by_cases he:em=0
 rotate_left
 · have n1:(em==0)=false:=beq_eq_false_iff_ne.2 he;clear hkr2 hn2 iL;go_wp2_with fail
   generalize w3=V at hB hd hm x xk xkf r rk rkf ⊢;have xr:=x;have rr:=r;have hB7:=hB;have hd7:=hd;have hm7:=hm;have KX:=fun(W:World)(hW:Below V.heap.size V W)=>Aa (xr.below hW xr.lt)
   have HA:=hid (show Im.bmAdd ⟨D,g,h,⟨seq,pos⟩,maps,false⟩ nm=if ed=0 then(Im.withMaps ⟨F,g9,h9,⟨s9,o9⟩,m9,b9⟩ (maps++[M]),0)else(⟨F,g9,h9,⟨s9,o9⟩,m9,b9⟩,ed) by rw[HC.out];exact(if_neg (fun h=>he h.1)));clear HC xk xkf rk rkf x r
   go_cut [7,10] (fun s7 s10 W=>∃(gz:Nat)(p9 q9 r9:Pl),s10=.pointer (some ⟨gz,0,none⟩)/\s7=.int .i64 ed/\V.heap.size<=gz/\Blk W gz 33 #[.string (bs F.data),.slice p9.a F.cache.length p9.c,.int .i64 F.fuse,.bool F.off,.slice q9.a F.bad.length q9.c,.int .i64 g9,.int .i64 h9,.int .u64 s9,.int .i64 o9,.slice r9.a m9.length r9.c,.bool b9]/\IsIm W ⟨F,g9,h9,⟨s9,o9⟩,m9,b9⟩ p9 q9 r9/\ImOff gz ⟨F,g9,h9,⟨s9,o9⟩,m9,b9⟩ p9 q9 r9/\(∀g',g'<V.heap.size->ImOff g' ⟨D,g,h,⟨seq,pos⟩,maps,false⟩ ⟨A1,a1⟩ ⟨A2,a2⟩ ⟨A3,a3⟩->ImOff g' ⟨F,g9,h9,⟨s9,o9⟩,m9,b9⟩ p9 q9 r9)/\Below V.heap.size V W)
   case first=>
    have s:Below V.heap.size V V.drew:=(Below.refl _ _).drew;refine AQ (S:=fun W=>Below V.heap.size V W) (late:=fun _=>false) (by kernel_rfl) ?_;generalize V.drew=U at s ⊢;simp only[Nat.reduceAdd,Yn];refine Yu 0 (some 55) (.agg #[.string (bs D.data),.slice A1 D.cache.length a1,.int .i64 D.fuse,.bool D.off,.slice A2 D.bad.length a2,.int .i64 g,.int .i64 h,.int .u64 seq,.int .i64 pos,.slice A3 maps.length a3,.bool false]) rfl (by kernel_rfl) (fun _ _ _ h=>h) (fun W hW=>by have h:=KX W hW;go_simp) s ?_;simp only[Yf];refine Yt 1 56 (.string (bs nm)) rfl (by kernel_rfl) (fun _ _ _ h=>h) (fun W=>by first|rfl|go_simp) ?_;simp only[Yf];have bz:=trivial;have i5:=trivial
    repeat' first
     |refine Be 2 7 (by decide+kernel) rfl rfl rfl rfl (fun K' hK=>?_) (fun K' hK=>?_)
     |refine Be 3 7 (by decide+kernel) rfl rfl rfl rfl (fun K' hK=>?_) (fun K' hK=>?_)
     |refine AT 7 (by decide+kernel) rfl rfl (fun K' hK=>?_)
     |refine AT 2 (by decide+kernel) rfl rfl (fun K' hK=>?_)
     |refine AT 3 (by decide+kernel) rfl rfl (fun K' hK=>?_)
     |refine AT 8 (by decide+kernel) rfl rfl (fun K' hK=>?_)
     |(refine up 2 ?_
      refine oper_enter' (f:=23) (args:=#[.string (bs nm)]) (w':=U) (by go_simp) ((hfr U).mono ?_);rintro e U ⟨rfl,hb⟩;refine⟨_,rfl,?_⟩;show K' (Act.put _ (some 57) _) _;replace s:=s.trans (hb.mono s.size)
      (try replace bz:=Blk.below bz hb (Blk.lt bz))
      refine hK _ _ (fun _ _=>s) ?_;simp only[Yf])
     |(refine up 3 ?_
      refine oper_enter' (f:=29) (args:=#[.agg #[.string (bs D.data),.slice A1 D.cache.length a1,.int .i64 D.fuse,.bool D.off,.slice A2 D.bad.length a2,.int .i64 g,.int .i64 h,.int .u64 seq,.int .i64 pos,.slice A3 maps.length a3,.bool false],.string (bs []),dmval M,.int .i64 17]) (w':=U) (by go_simp) ((Hpt.out U (bt hB7 s)).mono ?_);clear i5;rintro e U ⟨⟨⟨P5,e5⟩,⟨Q5,f5⟩,⟨R5,g5⟩,rfl,i5,o5⟩,hb⟩;refine⟨_,rfl,?_⟩;show K' (Act.put _ (some 58) _) _;have O5:∀g',g'<V.heap.size->ImOff g' ⟨D,g,h,⟨seq,pos⟩,maps,false⟩ ⟨A1,a1⟩ ⟨A2,a2⟩ ⟨A3,a3⟩->ImOff g' ⟨F,g9,h9,⟨s9,o9⟩,m9,b9⟩ ⟨P5,e5⟩ ⟨Q5,f5⟩ ⟨R5,g5⟩:=fun g' h1 h2=>o5 g' (Nat.lt_of_lt_of_le h1 s.size) h2
      (try (have hz:Blk _ _ _ _:=bz;have og:ImOff gz ⟨F,g9,h9,⟨s9,o9⟩,m9,b9⟩ ⟨P5,e5⟩ ⟨Q5,f5⟩ ⟨R5,g5⟩:=o5 gz bz.lt (Hap.out gz (by have:=hB7.size;omega))))
      replace s:=s.trans (hb.mono s.size)
      (try replace bz:=Blk.below bz hb (Blk.lt bz))
      refine hK _ _ (fun _ _=>s) ?_;simp only[Yf];refine Yt 4 54 (.tuple #[.agg #[.string (bs F.data),.slice P5 F.cache.length e5,.int .i64 F.fuse,.bool F.off,.slice Q5 F.bad.length f5,.int .i64 g9,.int .i64 h9,.int .u64 s9,.int .i64 o9,.slice R5 m9.length g5,.bool b9],.int .i64 ed]) rfl (by kernel_rfl) (fun _ _ _ h=>h) (fun W=>by first|rfl|go_simp) ?_;simp only[Yf];refine Yt 5 59 (.agg #[.string (bs F.data),.slice P5 F.cache.length e5,.int .i64 F.fuse,.bool F.off,.slice Q5 F.bad.length f5,.int .i64 g9,.int .i64 h9,.int .u64 s9,.int .i64 o9,.slice R5 m9.length g5,.bool b9]) rfl (by kernel_rfl) (fun _ _ _ h=>h) (fun W=>by first|rfl|go_simp) ?_;simp only[Yf];refine Yt 6 60 (.int .i64 ed) rfl (by kernel_rfl) (fun _ _ _ h=>h) (fun W=>by first|rfl|go_simp) ?_;simp only[Yf])
     |(refine up 7 ?_
      have hb:=CZ U (.cells #[.string (bs []),.slice none 0 0,.int .i64 0,.bool false,.slice none 0 0,.int .i64 0,.int .i64 0,.int .u64 0,.int .i64 0,.slice none 0 0,.bool false] 33);refine AF (v:=.pointer (some ⟨U.heap.size,0,none⟩)) (w':=U.alloc (.cells #[.string (bs []),.slice none 0 0,.int .i64 0,.bool false,.slice none 0 0,.int .i64 0,.int .i64 0,.int .u64 0,.int .i64 0,.slice none 0 0,.bool false] 33)) (by go_simp) ?_;show K' (Act.put _ (some 10) _) _;have gz0:V.heap.size<=U.heap.size:=s.size;replace bz:=Blk.new U 33 #[.string (bs []),.slice none 0 0,.int .i64 0,.bool false,.slice none 0 0,.int .i64 0,.int .i64 0,.int .u64 0,.int .i64 0,.slice none 0 0,.bool false]
      (try (have hz:IsIm _ _ _ _ _:=i5;have og:=i5.apart (Nat.le_refl U.heap.size)))
      replace s:=s.trans (hb.mono s.size)
      (try replace i5:=IsIm.below i5 hb)
      refine hK _ _ (fun _ _=>s) ?_;clear hb;generalize U.heap.size=gz at*;generalize U.alloc (.cells #[.string (bs []),.slice none 0 0,.int .i64 0,.bool false,.slice none 0 0,.int .i64 0,.int .i64 0,.int .u64 0,.int .i64 0,.slice none 0 0,.bool false] 33)=U at*;simp only[Yf])
     |(refine up 8 ?_
      have Yy:=BD bz (.string (bs F.data)) (.slice P5 F.cache.length e5) (.int .i64 F.fuse) (.bool F.off) (.slice Q5 F.bad.length f5) (.int .i64 g9) (.int .i64 h9) (.int .u64 s9) (.int .i64 o9) (.slice R5 m9.length g5) (.bool b9);refine Yq Yy (by have H:=Yk11 bz Yy;go_simp) ?_;show K' (Act.put _ none _) _;have bw:Below V.heap.size V ((((((((((((U.setCell ⟨gz,0,none⟩ (.string (bs F.data))).setCell ⟨gz,1,none⟩ (.slice P5 F.cache.length e5)).setCell ⟨gz,2,none⟩ (.int .i64 F.fuse)).setCell ⟨gz,3,none⟩ (.bool F.off)).setCell ⟨gz,4,none⟩ (.slice Q5 F.bad.length f5)).setCell ⟨gz,5,none⟩ (.int .i64 g9)).setCell ⟨gz,6,none⟩ (.int .i64 h9)).setCell ⟨gz,7,none⟩ (.int .u64 s9)).setCell ⟨gz,8,none⟩ (.int .i64 o9)).setCell ⟨gz,9,none⟩ (.slice R5 m9.length g5)).setCell ⟨gz,10,none⟩ (.bool b9))):=AY (P:=fun W=>Below V.heap.size V W) (fun W o v h=>h.setCell (p:=⟨gz,o,none⟩) gz0 v) s (.string (bs F.data)) (.slice P5 F.cache.length e5) (.int .i64 F.fuse) (.bool F.off) (.slice Q5 F.bad.length f5) (.int .i64 g9) (.int .i64 h9) (.int .u64 s9) (.int .i64 o9) (.slice R5 m9.length g5) (.bool b9);have bz11:=Yy;have i11:IsIm ((((((((((((U.setCell ⟨gz,0,none⟩ (.string (bs F.data))).setCell ⟨gz,1,none⟩ (.slice P5 F.cache.length e5)).setCell ⟨gz,2,none⟩ (.int .i64 F.fuse)).setCell ⟨gz,3,none⟩ (.bool F.off)).setCell ⟨gz,4,none⟩ (.slice Q5 F.bad.length f5)).setCell ⟨gz,5,none⟩ (.int .i64 g9)).setCell ⟨gz,6,none⟩ (.int .i64 h9)).setCell ⟨gz,7,none⟩ (.int .u64 s9)).setCell ⟨gz,8,none⟩ (.int .i64 o9)).setCell ⟨gz,9,none⟩ (.slice R5 m9.length g5)).setCell ⟨gz,10,none⟩ (.bool b9))) ⟨F,g9,h9,⟨s9,o9⟩,m9,b9⟩ ⟨P5,e5⟩ ⟨Q5,f5⟩ ⟨R5,g5⟩:=AY (P:=fun W=>IsIm W ⟨F,g9,h9,⟨s9,o9⟩,m9,b9⟩ ⟨P5,e5⟩ ⟨Q5,f5⟩ ⟨R5,g5⟩) (fun W o v h=>h.off (a:=⟨gz,o,none⟩) og v) i5 (.string (bs F.data)) (.slice P5 F.cache.length e5) (.int .i64 F.fuse) (.bool F.off) (.slice Q5 F.bad.length f5) (.int .i64 g9) (.int .i64 h9) (.int .u64 s9) (.int .i64 o9) (.slice R5 m9.length g5) (.bool b9);refine hK _ _ (fun _ _=>bw) ?_
      (try simp only[Yf])
      refine Yt 9 7 (.int .i64 ed) rfl (by kernel_rfl) (fun _ _ _ h=>h) (fun W=>by first|rfl|go_simp) ?_
      (try simp only[Yf])
      refine AA (by kernel_rfl) ?_ _;go_wp2_with fail
      go_meet
      exact⟨gz,⟨P5,e5⟩,⟨Q5,f5⟩,⟨R5,g5⟩,rfl,rfl,gz0,bz11,i11,og,O5,bw⟩)
   case rest=>
    obtain⟨gz,⟨P5,e5⟩,⟨Q5,f5⟩,⟨R5,g5⟩,rfl,rfl,gz0,yb,i5,OZ,O5,hV⟩:=hcut;have x:=xr.below hV xr.lt;have r:=rr.below hV rr.lt;have hB:=bt hB7 hV;have hlr:=rr.lt;have hgz:=hB7.size;have hlz:=yb.lt;have or5:=O5 (w.heap.size+1) hlr ⟨ord,orm⟩;have oF:=or5.1;have oM:=or5.2;have O6:=hid (fun g' (h1:g'<w.heap.size) h2=>O5 g' (by omega) h2);have i5d:=i5.d;have i5m:=i5.m;clear O5 or5 KX hV;by_cases he:ed=0
    rotate_left
    · have n1:(ed==0)=false:=beq_eq_false_iff_ne.2 he;have Hr:=hid (HA.out.trans (if_neg he));clear HA he xr rr hB7 hd7 hm7 i5;have yk:=Aa yb;have rk:=Aa r;have rkf:=r.fz;have hB_1:=Ar hB (g:=w.heap.size+1) (by omega) (.string (bs F.data)) (.slice P5 F.cache.length e5) (.int .i64 F.fuse) (.bool F.off) (.slice Q5 F.bad.length f5) (.int .i64 g9) (.int .i64 h9) (.int .u64 s9) (.int .i64 o9) (.slice R5 m9.length g5) (.bool b9);have i5d_2:=i5d.oc hB_1 (by first|assumption|omega);have i5m_3:=i5m.oc hB_1 (by first|assumption|omega);have yb_4:=Yg yb hB_1 (by omega);have yk_4:=Aa yb_4;have r_5:=Yh r hB_1;have rk_5:=Aa r_5;have rkf_5:=r_5.fz;have yy:=Aa r_5;have bw:=hB_1;have dw:=i5d_2;have mw:=i5m_3;go_wp2_with fail
      refine bodyPost_ret (v:=.tuple #[imval ⟨F,g9,h9,⟨s9,o9⟩,m9,b9⟩ ⟨P5,e5⟩ ⟨Q5,f5⟩ ⟨R5,g5⟩,.int .i64 ed]) (by simp[results,Tryz.results9,go_sem,yy]) rfl ?_;rw[Hr.out];exact⟨⟨⟨P5,e5⟩,⟨Q5,f5⟩,⟨R5,g5⟩,rfl,⟨dw,mw⟩,O6.out⟩,bw⟩
    subst he;replace OZ:=hid OZ;have Hr:=hid (HA.out.trans (if_pos rfl));have hcl2:=hcl wc hB;have xk:=Aa x;have xkf:=x.fz;clear HA hcl;go_wp2_with fail
    go_at_call 22;refine hcl2.mono ?_;rintro e w6 ⟨v6,rfl,hv6,hb6⟩;clear hcl2;go_wp2_with fail
    go_at_call 23;refine(hfr _).mono ?_;rintro e w7 ⟨rfl,hb7⟩;have hv7:=AD hv6 hb7;have hb67:=bt hb6 hb7;have hs67:=hb67.size;clear hv6 xk xkf;have MC:=AG h64M;go_upto_region 16 with (first|(refine EG rfl _ (Tryz.run_bsd _ rfl M h64M rfl _) ?_)|(at_builtin;refine wpList_append_own _ rfl _ _ 31 rfl wc.heap.size 42 i0 (dmval Dm.zero) 66 88 Tryz.underlying31 hi hz0 hz1 hz2 rfl (by decide) _ _ _ rfl (hv7.alloc _) ⟨w7.heap.size,0,none⟩ 1 1 (dmCells M) rfl MC (World.news_of_block (Blk.new w7 42 (dmCells M).toArray)) (BF M) (by unfold maxLen;omega) (by omega) (by simp;omega) ?_;intro v5 w8 h5 gr5 _;have b8:=(hb67.alloc hs67 (.cells (dmCells M).toArray 42)).trans (Bb (hv7.alloc (.cells (dmCells M).toArray 42)) gr5 (by simp;omega));obtain⟨A8,c8,rfl,_,_,_⟩:=Ay h5;have y8:=yb.below b8 hlz;have yk8:=Aa y8;have yf8:=y8.frozen))
    rw[Cn]at h5;have hV9:=hlz;have r8:=(r.below b8 (by omega)).other (a:=⟨gz,9,none⟩) (by show¬w.heap.size+1=gz;omega) (.slice A8 (maps.length+1) c8);have y9:=y8.set 9 (.slice A8 (maps.length+1) c8);simp only[Ye]at y9;have d9:=(i5d.below b8).off (a:=⟨gz,9,none⟩) (OZ.out).1 (.slice A8 (maps.length+1) c8);have l9:(maps++[M]).length=maps.length+1:=by simp
    have q9:∀g',g'<wc.heap.size->MsOff g' (maps++[M]) ⟨A8,c8⟩:=fun g' h=>.inr (AE h5 h)
    have mm9:=(IsMs.of_own (l:=maps++[M]) l9.symm h5 h64N hnmN).off (a:=⟨gz,9,none⟩) (q9 gz hlz) (.slice A8 (maps.length+1) c8);have B9:=(bt hB b8).setCell (p:=⟨gz,9,none⟩) (by show w.heap.size<=gz;omega) (.slice A8 (maps.length+1) c8);have qr:=q9 (w.heap.size+1) (by omega);have Q9:=hid (fun g' (h1:g'<w.heap.size)=>q9 g' (by omega));generalize w8.setCell ⟨gz,9,none⟩ (.slice A8 (maps.length+1) c8)=w9 at*;clear h5 gr5 b8 y8 yk8 yf8 hb67 hb6 hb7 hv7 yb x r hB i5d i5m i5 q9
    skip
    have yk:=Aa y9;have rk:=Aa r8;have rkf:=r8.fz;have B9_1:=Ar B9 (g:=w.heap.size+1) (by omega) (.string (bs F.data)) (.slice P5 F.cache.length e5) (.int .i64 F.fuse) (.bool F.off) (.slice Q5 F.bad.length f5) (.int .i64 g9) (.int .i64 h9) (.int .u64 s9) (.int .i64 o9) (.slice A8 (maps.length+1) c8) (.bool b9);have d9_2:=d9.oc B9_1 (by first|assumption|omega);have mm9_3:=mm9.oc B9_1 (by first|assumption|omega);have y9_4:=Yg y9 B9_1 (by omega);have yk_4:=Aa y9_4;have r8_5:=Yh r8 B9_1;have rk_5:=Aa r8_5;have rkf_5:=r8_5.fz;have yy:=Aa r8_5;have bw:=B9_1;have dw:=d9_2;have mw:=mm9_3;go_wp2_with fail
    refine bodyPost_ret (v:=.tuple #[imval ⟨F,g9,h9,⟨s9,o9⟩,maps++[M],b9⟩ ⟨P5,e5⟩ ⟨Q5,f5⟩ ⟨A8,c8⟩,.int .i64 0]) (by simp[results,Tryz.results9,go_sem,yy]) rfl ?_;rw[Hr.out];simp only[Im.withMaps]
    exact⟨⟨⟨P5,e5⟩,⟨Q5,f5⟩,⟨A8,c8⟩,rfl,⟨dw,mw⟩,fun g' h1 h2=>⟨(O6.out g' h1 h2).1,Q9.out g' h1⟩⟩,bw⟩
 subst he;go_wp2_with fail
 go_at_call 27;refine((hn2 _ _ iL)).mono ?_;rintro e w4 ⟨rfl,hb4⟩;replace hB:=bt hB hb4;replace hd:=hd.below hb4;replace hm:=hm.below hb4;replace x:=x.below hb4 x.lt;replace xk:=Aa x;replace xkf:=x.fz;replace r:=r.below hb4 r.lt;replace rk:=Aa r;replace rkf:=r.fz;replace iL:=iL.below hb4;have hrl4:=hid (r.lt);clear hn2;by_cases hk:0<=k2
 · have d9:decide ((0:Int)<=k2)=true:=decide_eq_true hk;have Hr:=hid (HC.out.trans (if_pos ⟨by first|trivial|rfl,hk⟩));clear HC hcl Hpt hkr2 h64N hnmN hfr hi hz0 hz1 hz2 hk;have q_hrl1:=hrl1.out;have q_hrl2:=hrl2.out;have q_hrl3:=hrl3.out;have q_hrl4:=hrl4.out;have hB_8:=Ar hB (g:=w.heap.size+1) (by omega) (.string (bs D.data)) (.slice A1 D.cache.length a1) (.int .i64 D.fuse) (.bool D.off) (.slice A2 D.bad.length a2) (.int .i64 g) (.int .i64 h) (.int .u64 seq) (.int .i64 pos) (.slice A3 maps.length a3) (.bool false);have hd_9:=hd.oc hB_8 (by first|assumption|omega);have hm_10:=hm.oc hB_8 (by first|assumption|omega);have x_11:=Yg x hB_8 (by omega);have xk_11:=Aa x_11;have xkf_11:=x_11.fz;have r_12:=Yh r hB_8;have rk_12:=Aa r_12;have rkf_12:=r_12.fz;clear q_hrl1 q_hrl2 q_hrl3 q_hrl4;have yy:=Aa r_12;have bw:=hB_8;have dw:=hd_9;have mw:=hm_10;go_wp2_with fail
   refine bodyPost_ret (v:=.tuple #[imval ⟨D,g,h,⟨seq,pos⟩,maps,false⟩ ⟨A1,a1⟩ ⟨A2,a2⟩ ⟨A3,a3⟩,.int .i64 20]) (by simp[results,Tryz.results9,go_sem,yy]) rfl ?_;rw[Hr.out];exact⟨⟨⟨A1,a1⟩,⟨A2,a2⟩,⟨A3,a3⟩,rfl,⟨dw,mw⟩,fun _ _ h=>h⟩,bw⟩
 have d9:decide ((0:Int)<=k2)=false:=decide_eq_false hk;go_wp2_with fail
 generalize w4=V at hB hd hm x xk xkf r rk rkf ⊢;have xr:=x;have rr:=r;have hB7:=hB;have hd7:=hd;have hm7:=hm;have KX:=fun(W:World)(hW:Below V.heap.size V W)=>Aa (xr.below hW xr.lt)
 have HA:=hid (show Im.bmAdd ⟨D,g,h,⟨seq,pos⟩,maps,false⟩ nm=if ed=0 then(Im.withMaps ⟨F,g9,h9,⟨s9,o9⟩,m9,b9⟩ (maps++[M]),0)else(⟨F,g9,h9,⟨s9,o9⟩,m9,b9⟩,ed) by rw[HC.out];exact(if_neg (fun h=>by have:=h.2;omega)));clear HC xk xkf rk rkf x r
 go_cut [7,10] (fun s7 s10 W=>∃(gz:Nat)(p9 q9 r9:Pl),s10=.pointer (some ⟨gz,0,none⟩)/\s7=.int .i64 ed/\V.heap.size<=gz/\Blk W gz 33 #[.string (bs F.data),.slice p9.a F.cache.length p9.c,.int .i64 F.fuse,.bool F.off,.slice q9.a F.bad.length q9.c,.int .i64 g9,.int .i64 h9,.int .u64 s9,.int .i64 o9,.slice r9.a m9.length r9.c,.bool b9]/\IsIm W ⟨F,g9,h9,⟨s9,o9⟩,m9,b9⟩ p9 q9 r9/\ImOff gz ⟨F,g9,h9,⟨s9,o9⟩,m9,b9⟩ p9 q9 r9/\(∀g',g'<V.heap.size->ImOff g' ⟨D,g,h,⟨seq,pos⟩,maps,false⟩ ⟨A1,a1⟩ ⟨A2,a2⟩ ⟨A3,a3⟩->ImOff g' ⟨F,g9,h9,⟨s9,o9⟩,m9,b9⟩ p9 q9 r9)/\Below V.heap.size V W)
 case first=>
  have s:Below V.heap.size V V.drew:=(Below.refl _ _).drew;refine AQ (S:=fun W=>Below V.heap.size V W) (late:=fun _=>false) (by kernel_rfl) ?_;generalize V.drew=U at s ⊢;simp only[Nat.reduceAdd,Yn];refine Yu 0 (some 55) (.agg #[.string (bs D.data),.slice A1 D.cache.length a1,.int .i64 D.fuse,.bool D.off,.slice A2 D.bad.length a2,.int .i64 g,.int .i64 h,.int .u64 seq,.int .i64 pos,.slice A3 maps.length a3,.bool false]) rfl (by kernel_rfl) (fun _ _ _ h=>h) (fun W hW=>by have h:=KX W hW;go_simp) s ?_;simp only[Yf];refine Yt 1 56 (.string (bs nm)) rfl (by kernel_rfl) (fun _ _ _ h=>h) (fun W=>by first|rfl|go_simp) ?_;simp only[Yf];have bz:=trivial;have i5:=trivial
  repeat' first
   |refine Be 2 7 (by decide+kernel) rfl rfl rfl rfl (fun K' hK=>?_) (fun K' hK=>?_)
   |refine Be 3 7 (by decide+kernel) rfl rfl rfl rfl (fun K' hK=>?_) (fun K' hK=>?_)
   |refine AT 7 (by decide+kernel) rfl rfl (fun K' hK=>?_)
   |refine AT 2 (by decide+kernel) rfl rfl (fun K' hK=>?_)
   |refine AT 3 (by decide+kernel) rfl rfl (fun K' hK=>?_)
   |refine AT 8 (by decide+kernel) rfl rfl (fun K' hK=>?_)
   |(refine up 2 ?_
    refine oper_enter' (f:=23) (args:=#[.string (bs nm)]) (w':=U) (by go_simp) ((hfr U).mono ?_);rintro e U ⟨rfl,hb⟩;refine⟨_,rfl,?_⟩;show K' (Act.put _ (some 57) _) _;replace s:=s.trans (hb.mono s.size)
    (try replace bz:=Blk.below bz hb (Blk.lt bz))
    refine hK _ _ (fun _ _=>s) ?_;simp only[Yf])
   |(refine up 3 ?_
    refine oper_enter' (f:=29) (args:=#[.agg #[.string (bs D.data),.slice A1 D.cache.length a1,.int .i64 D.fuse,.bool D.off,.slice A2 D.bad.length a2,.int .i64 g,.int .i64 h,.int .u64 seq,.int .i64 pos,.slice A3 maps.length a3,.bool false],.string (bs []),dmval M,.int .i64 17]) (w':=U) (by go_simp) ((Hpt.out U (bt hB7 s)).mono ?_);clear i5;rintro e U ⟨⟨⟨P5,e5⟩,⟨Q5,f5⟩,⟨R5,g5⟩,rfl,i5,o5⟩,hb⟩;refine⟨_,rfl,?_⟩;show K' (Act.put _ (some 58) _) _;have O5:∀g',g'<V.heap.size->ImOff g' ⟨D,g,h,⟨seq,pos⟩,maps,false⟩ ⟨A1,a1⟩ ⟨A2,a2⟩ ⟨A3,a3⟩->ImOff g' ⟨F,g9,h9,⟨s9,o9⟩,m9,b9⟩ ⟨P5,e5⟩ ⟨Q5,f5⟩ ⟨R5,g5⟩:=fun g' h1 h2=>o5 g' (Nat.lt_of_lt_of_le h1 s.size) h2
    (try (have hz:Blk _ _ _ _:=bz;have og:ImOff gz ⟨F,g9,h9,⟨s9,o9⟩,m9,b9⟩ ⟨P5,e5⟩ ⟨Q5,f5⟩ ⟨R5,g5⟩:=o5 gz bz.lt (Hap.out gz (by have:=hB7.size;omega))))
    replace s:=s.trans (hb.mono s.size)
    (try replace bz:=Blk.below bz hb (Blk.lt bz))
    refine hK _ _ (fun _ _=>s) ?_;simp only[Yf];refine Yt 4 54 (.tuple #[.agg #[.string (bs F.data),.slice P5 F.cache.length e5,.int .i64 F.fuse,.bool F.off,.slice Q5 F.bad.length f5,.int .i64 g9,.int .i64 h9,.int .u64 s9,.int .i64 o9,.slice R5 m9.length g5,.bool b9],.int .i64 ed]) rfl (by kernel_rfl) (fun _ _ _ h=>h) (fun W=>by first|rfl|go_simp) ?_;simp only[Yf];refine Yt 5 59 (.agg #[.string (bs F.data),.slice P5 F.cache.length e5,.int .i64 F.fuse,.bool F.off,.slice Q5 F.bad.length f5,.int .i64 g9,.int .i64 h9,.int .u64 s9,.int .i64 o9,.slice R5 m9.length g5,.bool b9]) rfl (by kernel_rfl) (fun _ _ _ h=>h) (fun W=>by first|rfl|go_simp) ?_;simp only[Yf];refine Yt 6 60 (.int .i64 ed) rfl (by kernel_rfl) (fun _ _ _ h=>h) (fun W=>by first|rfl|go_simp) ?_;simp only[Yf])
   |(refine up 7 ?_
    have hb:=CZ U (.cells #[.string (bs []),.slice none 0 0,.int .i64 0,.bool false,.slice none 0 0,.int .i64 0,.int .i64 0,.int .u64 0,.int .i64 0,.slice none 0 0,.bool false] 33);refine AF (v:=.pointer (some ⟨U.heap.size,0,none⟩)) (w':=U.alloc (.cells #[.string (bs []),.slice none 0 0,.int .i64 0,.bool false,.slice none 0 0,.int .i64 0,.int .i64 0,.int .u64 0,.int .i64 0,.slice none 0 0,.bool false] 33)) (by go_simp) ?_;show K' (Act.put _ (some 10) _) _;have gz0:V.heap.size<=U.heap.size:=s.size;replace bz:=Blk.new U 33 #[.string (bs []),.slice none 0 0,.int .i64 0,.bool false,.slice none 0 0,.int .i64 0,.int .i64 0,.int .u64 0,.int .i64 0,.slice none 0 0,.bool false]
    (try (have hz:IsIm _ _ _ _ _:=i5;have og:=i5.apart (Nat.le_refl U.heap.size)))
    replace s:=s.trans (hb.mono s.size)
    (try replace i5:=IsIm.below i5 hb)
    refine hK _ _ (fun _ _=>s) ?_;clear hb;generalize U.heap.size=gz at*;generalize U.alloc (.cells #[.string (bs []),.slice none 0 0,.int .i64 0,.bool false,.slice none 0 0,.int .i64 0,.int .i64 0,.int .u64 0,.int .i64 0,.slice none 0 0,.bool false] 33)=U at*;simp only[Yf])
   |(refine up 8 ?_
    have Yy:=BD bz (.string (bs F.data)) (.slice P5 F.cache.length e5) (.int .i64 F.fuse) (.bool F.off) (.slice Q5 F.bad.length f5) (.int .i64 g9) (.int .i64 h9) (.int .u64 s9) (.int .i64 o9) (.slice R5 m9.length g5) (.bool b9);refine Yq Yy (by have H:=Yk11 bz Yy;go_simp) ?_;show K' (Act.put _ none _) _;have bw:Below V.heap.size V ((((((((((((U.setCell ⟨gz,0,none⟩ (.string (bs F.data))).setCell ⟨gz,1,none⟩ (.slice P5 F.cache.length e5)).setCell ⟨gz,2,none⟩ (.int .i64 F.fuse)).setCell ⟨gz,3,none⟩ (.bool F.off)).setCell ⟨gz,4,none⟩ (.slice Q5 F.bad.length f5)).setCell ⟨gz,5,none⟩ (.int .i64 g9)).setCell ⟨gz,6,none⟩ (.int .i64 h9)).setCell ⟨gz,7,none⟩ (.int .u64 s9)).setCell ⟨gz,8,none⟩ (.int .i64 o9)).setCell ⟨gz,9,none⟩ (.slice R5 m9.length g5)).setCell ⟨gz,10,none⟩ (.bool b9))):=AY (P:=fun W=>Below V.heap.size V W) (fun W o v h=>h.setCell (p:=⟨gz,o,none⟩) gz0 v) s (.string (bs F.data)) (.slice P5 F.cache.length e5) (.int .i64 F.fuse) (.bool F.off) (.slice Q5 F.bad.length f5) (.int .i64 g9) (.int .i64 h9) (.int .u64 s9) (.int .i64 o9) (.slice R5 m9.length g5) (.bool b9);have bz11:=Yy;have i11:IsIm ((((((((((((U.setCell ⟨gz,0,none⟩ (.string (bs F.data))).setCell ⟨gz,1,none⟩ (.slice P5 F.cache.length e5)).setCell ⟨gz,2,none⟩ (.int .i64 F.fuse)).setCell ⟨gz,3,none⟩ (.bool F.off)).setCell ⟨gz,4,none⟩ (.slice Q5 F.bad.length f5)).setCell ⟨gz,5,none⟩ (.int .i64 g9)).setCell ⟨gz,6,none⟩ (.int .i64 h9)).setCell ⟨gz,7,none⟩ (.int .u64 s9)).setCell ⟨gz,8,none⟩ (.int .i64 o9)).setCell ⟨gz,9,none⟩ (.slice R5 m9.length g5)).setCell ⟨gz,10,none⟩ (.bool b9))) ⟨F,g9,h9,⟨s9,o9⟩,m9,b9⟩ ⟨P5,e5⟩ ⟨Q5,f5⟩ ⟨R5,g5⟩:=AY (P:=fun W=>IsIm W ⟨F,g9,h9,⟨s9,o9⟩,m9,b9⟩ ⟨P5,e5⟩ ⟨Q5,f5⟩ ⟨R5,g5⟩) (fun W o v h=>h.off (a:=⟨gz,o,none⟩) og v) i5 (.string (bs F.data)) (.slice P5 F.cache.length e5) (.int .i64 F.fuse) (.bool F.off) (.slice Q5 F.bad.length f5) (.int .i64 g9) (.int .i64 h9) (.int .u64 s9) (.int .i64 o9) (.slice R5 m9.length g5) (.bool b9);refine hK _ _ (fun _ _=>bw) ?_
    (try simp only[Yf])
    refine Yt 9 7 (.int .i64 ed) rfl (by kernel_rfl) (fun _ _ _ h=>h) (fun W=>by first|rfl|go_simp) ?_
    (try simp only[Yf])
    refine AA (by kernel_rfl) ?_ _;go_wp2_with fail
    go_meet
    exact⟨gz,⟨P5,e5⟩,⟨Q5,f5⟩,⟨R5,g5⟩,rfl,rfl,gz0,bz11,i11,og,O5,bw⟩)
 case rest=>
  obtain⟨gz,⟨P5,e5⟩,⟨Q5,f5⟩,⟨R5,g5⟩,rfl,rfl,gz0,yb,i5,OZ,O5,hV⟩:=hcut;have x:=xr.below hV xr.lt;have r:=rr.below hV rr.lt;have hB:=bt hB7 hV;have hlr:=rr.lt;have hgz:=hB7.size;have hlz:=yb.lt;have or5:=O5 (w.heap.size+1) hlr ⟨ord,orm⟩;have oF:=or5.1;have oM:=or5.2;have O6:=hid (fun g' (h1:g'<w.heap.size) h2=>O5 g' (by omega) h2);have i5d:=i5.d;have i5m:=i5.m;clear O5 or5 KX hV;by_cases he:ed=0
  rotate_left
  · have n1:(ed==0)=false:=beq_eq_false_iff_ne.2 he;have Hr:=hid (HA.out.trans (if_neg he));clear HA he xr rr hB7 hd7 hm7 i5;have yk:=Aa yb;have rk:=Aa r;have rkf:=r.fz;have hB_1:=Ar hB (g:=w.heap.size+1) (by omega) (.string (bs F.data)) (.slice P5 F.cache.length e5) (.int .i64 F.fuse) (.bool F.off) (.slice Q5 F.bad.length f5) (.int .i64 g9) (.int .i64 h9) (.int .u64 s9) (.int .i64 o9) (.slice R5 m9.length g5) (.bool b9);have i5d_2:=i5d.oc hB_1 (by first|assumption|omega);have i5m_3:=i5m.oc hB_1 (by first|assumption|omega);have yb_4:=Yg yb hB_1 (by omega);have yk_4:=Aa yb_4;have r_5:=Yh r hB_1;have rk_5:=Aa r_5;have rkf_5:=r_5.fz;have yy:=Aa r_5;have bw:=hB_1;have dw:=i5d_2;have mw:=i5m_3;go_wp2_with fail
    refine bodyPost_ret (v:=.tuple #[imval ⟨F,g9,h9,⟨s9,o9⟩,m9,b9⟩ ⟨P5,e5⟩ ⟨Q5,f5⟩ ⟨R5,g5⟩,.int .i64 ed]) (by simp[results,Tryz.results9,go_sem,yy]) rfl ?_;rw[Hr.out];exact⟨⟨⟨P5,e5⟩,⟨Q5,f5⟩,⟨R5,g5⟩,rfl,⟨dw,mw⟩,O6.out⟩,bw⟩
  subst he;replace OZ:=hid OZ;have Hr:=hid (HA.out.trans (if_pos rfl));have hcl2:=hcl wc hB;have xk:=Aa x;have xkf:=x.fz;clear HA hcl;go_wp2_with fail
  go_at_call 22;refine hcl2.mono ?_;rintro e w6 ⟨v6,rfl,hv6,hb6⟩;clear hcl2;go_wp2_with fail
  go_at_call 23;refine(hfr _).mono ?_;rintro e w7 ⟨rfl,hb7⟩;have hv7:=AD hv6 hb7;have hb67:=bt hb6 hb7;have hs67:=hb67.size;clear hv6 xk xkf;have MC:=AG h64M;go_upto_region 16 with (first|(refine EG rfl _ (Tryz.run_bsd _ rfl M h64M rfl _) ?_)|(at_builtin;refine wpList_append_own _ rfl _ _ 31 rfl wc.heap.size 42 i0 (dmval Dm.zero) 66 88 Tryz.underlying31 hi hz0 hz1 hz2 rfl (by decide) _ _ _ rfl (hv7.alloc _) ⟨w7.heap.size,0,none⟩ 1 1 (dmCells M) rfl MC (World.news_of_block (Blk.new w7 42 (dmCells M).toArray)) (BF M) (by unfold maxLen;omega) (by omega) (by simp;omega) ?_;intro v5 w8 h5 gr5 _;have b8:=(hb67.alloc hs67 (.cells (dmCells M).toArray 42)).trans (Bb (hv7.alloc (.cells (dmCells M).toArray 42)) gr5 (by simp;omega));obtain⟨A8,c8,rfl,_,_,_⟩:=Ay h5;have y8:=yb.below b8 hlz;have yk8:=Aa y8;have yf8:=y8.frozen))
  rw[Cn]at h5;have hV9:=hlz;have r8:=(r.below b8 (by omega)).other (a:=⟨gz,9,none⟩) (by show¬w.heap.size+1=gz;omega) (.slice A8 (maps.length+1) c8);have y9:=y8.set 9 (.slice A8 (maps.length+1) c8);simp only[Ye]at y9;have d9:=(i5d.below b8).off (a:=⟨gz,9,none⟩) (OZ.out).1 (.slice A8 (maps.length+1) c8);have l9:(maps++[M]).length=maps.length+1:=by simp
  have q9:∀g',g'<wc.heap.size->MsOff g' (maps++[M]) ⟨A8,c8⟩:=fun g' h=>.inr (AE h5 h)
  have mm9:=(IsMs.of_own (l:=maps++[M]) l9.symm h5 h64N hnmN).off (a:=⟨gz,9,none⟩) (q9 gz hlz) (.slice A8 (maps.length+1) c8);have B9:=(bt hB b8).setCell (p:=⟨gz,9,none⟩) (by show w.heap.size<=gz;omega) (.slice A8 (maps.length+1) c8);have qr:=q9 (w.heap.size+1) (by omega);have Q9:=hid (fun g' (h1:g'<w.heap.size)=>q9 g' (by omega));generalize w8.setCell ⟨gz,9,none⟩ (.slice A8 (maps.length+1) c8)=w9 at*;clear h5 gr5 b8 y8 yk8 yf8 hb67 hb6 hb7 hv7 yb x r hB i5d i5m i5 q9
  skip
  have yk:=Aa y9;have rk:=Aa r8;have rkf:=r8.fz;have B9_1:=Ar B9 (g:=w.heap.size+1) (by omega) (.string (bs F.data)) (.slice P5 F.cache.length e5) (.int .i64 F.fuse) (.bool F.off) (.slice Q5 F.bad.length f5) (.int .i64 g9) (.int .i64 h9) (.int .u64 s9) (.int .i64 o9) (.slice A8 (maps.length+1) c8) (.bool b9);have d9_2:=d9.oc B9_1 (by first|assumption|omega);have mm9_3:=mm9.oc B9_1 (by first|assumption|omega);have y9_4:=Yg y9 B9_1 (by omega);have yk_4:=Aa y9_4;have r8_5:=Yh r8 B9_1;have rk_5:=Aa r8_5;have rkf_5:=r8_5.fz;have yy:=Aa r8_5;have bw:=B9_1;have dw:=d9_2;have mw:=mm9_3;go_wp2_with fail
  refine bodyPost_ret (v:=.tuple #[imval ⟨F,g9,h9,⟨s9,o9⟩,maps++[M],b9⟩ ⟨P5,e5⟩ ⟨Q5,f5⟩ ⟨A8,c8⟩,.int .i64 0]) (by simp[results,Tryz.results9,go_sem,yy]) rfl ?_;rw[Hr.out];simp only[Im.withMaps]
  exact⟨⟨⟨P5,e5⟩,⟨Q5,f5⟩,⟨A8,c8⟩,rfl,⟨dw,mw⟩,fun g' h1 h2=>⟨(O6.out g' h1 h2).1,Q9.out g' h1⟩⟩,bw⟩
theorem Gh {base:Nat}{e:TypeId}{size n g cap:Nat}:∀(vs:List Value)(j:Nat){w:World}{xs:List Value},w.ownsRow base e size (.slice (some ⟨g,0,none⟩) n cap) n xs->j+vs.length<=xs.length->
 (w.setCells g j vs).ownsRow base e size (.slice (some ⟨g,0,none⟩) n cap) n (xs.take j++vs++xs.drop (j+vs.length))
 |[],j,w,xs,h,_=>by simpa[World.setCells]using h
 |v::r,j,w,xs,h,hj=>by
  rw[List.length_cons]at hj;have h1:=Gh r (j+1) (Gg h j (by omega) v) (by rw[List.length_set];omega);have e:(xs.set j v).take (j+1)++r++(xs.set j v).drop (j+1+r.length)=xs.take j++(v::r)++xs.drop (j+(v::r).length):=by
   rw[List.drop_set_of_lt (by omega),List.length_cons,List.take_succ_eq_append_getElem (by rw[List.length_set];omega),List.getElem_set_self,List.take_set_of_le (Nat.le_refl _),List.append_assoc,List.append_assoc,List.append_assoc,show j+1+r.length=j+(r.length+1) by omega];rfl
  rw[e]at h1;exact h1
theorem J1:∀(l:List Dm),(∀m∈l,m.bits.length=64)->∀(i:Nat),i<l.length->∀m:Dm,(dmRows l).take (i*66)++dmCells m++(dmRows l).drop (i*66+66)=dmRows (l.set i m):=fun l=>by
 induction l with
 |nil=>intro _ i hi;simp at hi
 |cons x l ih=>
  intro h64 i hi m;have hx:=AG (h64 x (by simp));have e:dmRows (x::l)=dmCells x++dmRows l:=rfl;cases i with
  |zero=>
   rw[e,Nat.zero_mul,Nat.zero_add,List.take_zero,List.nil_append,List.drop_append_of_le_length (by omega),<-hx,List.drop_length,List.nil_append];rfl
  |succ i=>
   have hh:=ih (fun m hm=>h64 m (by simp[hm])) i (by simpa using hi) m;rw[e,List.set_cons_succ];show _=dmCells x++dmRows (l.set i m);rw[<-hh,show(i+1)*66=(dmCells x).length+i*66 by omega,List.take_append,List.drop_append,List.take_of_length_le (by omega),List.drop_eq_nil_of_le (by omega),List.nil_append,show(dmCells x).length+i*66-(dmCells x).length=i*66 by omega,show(dmCells x).length+i*66+66-(dmCells x).length=i*66+66 by omega];simp only[List.append_assoc]
theorem LV {w:World}{base:Nat}{e:TypeId}{size n g cap:Nat}{xs:List Value}(h:w.ownsRow base e size (.slice (some ⟨g,0,none⟩) n cap) n xs)(o k:Nat)(hk:o+k<=xs.length):w.there g o k:=
 fun j hj=>⟨by rw[Ge h (o+j) (by omega)];rfl,Gf h (o+j)⟩
theorem IsMs.offCells {l:List Dm}{r:Pl}{g:Nat}(ho:MsOff g l r):∀(vs:List Value)(o:Nat){w:World},IsMs w l r->IsMs (w.setCells g o vs) l r
 |[],_,_,h=>h
 |v::r,o,_,h=>IsMs.offCells ho r (o+1) (h.off (a:=⟨g,o,none⟩) ho v)
theorem IsMs.offD {w:World}{l:List Dm}{r:Pl}(h:IsMs w l r){g:Nat}(ho:MsOff g l r)(b:Dm):IsMs (w.setCells g 0 (dmCells b)) l r:=IsMs.offCells ho (dmCells b) 0 h
def RowMs (w:World)(base:Nat)(t:TypeId)(l:List Dm)(g n c:Nat):Prop:=w.ownsRow base t 66 (.slice (some ⟨g,0,none⟩) n c) n (dmRows l)
theorem RowMs.below {w w':World}{base:Nat}{t:TypeId}{l:List Dm}{g n c:Nat}(h:RowMs w base t l g n c)(hb:Below w.heap.size w w'):RowMs w' base t l g n c:=AD h hb
theorem RowMs.cell {w:World}{base:Nat}{t:TypeId}{l:List Dm}{g n c:Nat}(h:RowMs w base t l g n c){G:Nat}(hG:G≠g)(o:Nat)(v:Value):RowMs (w.setCell ⟨G,o,none⟩ v) base t l g n c:=
 World.ownsRow.kept h (Bv w G o v) (.inr (by intro e;injection e with e;exact hG e.symm))
theorem IF (x:Im)(p q r:Pl)(w:World)(hI:IsIm w x p q r)(ok:x.Ok)(nm:List UInt8)(hnm:nm.length<=maxLen):
 Calls Tryz.prog 7 #[imval x p q r,.string (bs nm)] w fun e w'=>RetIm w.heap.size x p q r (x.bmClear nm) e w'/\Below w.heap.size w w':=by
 have hal:=fun(W:World)(hb:Below w.heap.size w W)=>IE x p q r W (hI.below hb) nm hnm
 have hcl:=fun(W:World)(hb:Below w.heap.size w W)=>EX x.maps r W (hI.m.below hb) (by have:=ok.maps;omega)
 have Hap:=hid (fun g (hg:w.heap.size<=g)=>hI.apart hg);have HC:=hid (show x.bmClear nm=if x.br=true then(x,24)else if dmFind x.maps nm<0 then(x,21)else(x.withMaps (x.maps.set (dmFind x.maps nm).toNat (dmFresh nm)),0)from rfl);have hkr:=Cm x.maps nm;have h64:=hI.m.bits;have hnms:=hI.m.name;have hml:=ok.maps;generalize dmFind x.maps nm=k at*;obtain⟨hd,hm⟩:=hI;clear ok;obtain⟨D,g,h,⟨seq,pos⟩,maps,br⟩:=x;simp only[Im.withMaps]at hd hm hal hcl Hap HC hkr h64 hnms hml;obtain⟨A1,a1⟩:=p;obtain⟨A2,a2⟩:=q;obtain⟨A3,a3⟩:=r;have z36:=Tryz.dm_siz;have or0:=Hap.out (w.heap.size+1) (by omega);have ord:=or0.1;have orm:=or0.2;have ord0:=(Hap.out w.heap.size (Nat.le_refl _)).1;have hB:=Below.refl w.heap.size w;have x:=Blk.new w 33 #[.string (bs D.data),.slice A1 D.cache.length a1,.int .i64 D.fuse,.bool D.off,.slice A2 D.bad.length a2,.int .i64 g,.int .i64 h,.int .u64 seq,.int .i64 pos,.slice A3 maps.length a3,.bool br];have xk:=Aa x;have xkf:=x.fz;have hB_1:=Ya hB x;have hd_2:=hd.below (Yb hB_1);have hm_3:=hm.below (Yb hB_1);have r:=Yd hB_1 33 #[.string (bs []),.slice none 0 0,.int .i64 0,.bool false,.slice none 0 0,.int .i64 0,.int .i64 0,.int .u64 0,.int .i64 0,.slice none 0 0,.bool false];simp only[Ys]at r;have rk:=Aa r;have rkf:=r.fz;have hB_4:=Ya hB_1 r;have hd_5:=hd_2.below (Yb hB_4);have hm_6:=hm_3.below (Yb hB_4);have x_7:=Yc x hB_4;have xk_7:=Aa x_7;have xkf_7:=x_7.fz;cases br with
 |true=>
  rw[if_pos rfl,if_pos rfl]at hal;have Hr:=hid (HC.out.trans (if_pos rfl));have n1:((24:Int) !=0)=true:=by decide
  clear HC hcl hkr;go_enter Tryz.func7,Tryz.ntmps7;go_wp2_with fail
  go_at_call 21;refine((hal _ hB_4)).mono ?_;rintro e w1 ⟨rfl,hb1⟩;replace hB:=bt hB_4 hb1;replace hd:=hd_5.below hb1;replace hm:=hm_6.below hb1;replace x:=x_7.below hb1 x_7.lt;replace xk:=Aa x;replace xkf:=x.fz;replace r:=r.below hb1 r.lt;replace rk:=Aa r;replace rkf:=r.fz;clear hB_1 hd_2 hm_3 hB_4 hd_5 hm_6 xk_7 xkf_7 x_7;have hrl1:=hid (r.lt);have hB_8:=Ar hB (g:=w.heap.size+1) (by omega) (.string (bs D.data)) (.slice A1 D.cache.length a1) (.int .i64 D.fuse) (.bool D.off) (.slice A2 D.bad.length a2) (.int .i64 g) (.int .i64 h) (.int .u64 seq) (.int .i64 pos) (.slice A3 maps.length a3) (.bool true);have hd_9:=hd.oc hB_8 (by first|assumption|omega);have hm_10:=hm.oc hB_8 (by first|assumption|omega);have r_12:=Yh r hB_8;have yy:=Aa r_12;have bw:=hB_8;have dw:=hd_9;have mw:=hm_10;go_wp2_with fail
  refine bodyPost_ret (v:=.tuple #[imval ⟨D,g,h,⟨seq,pos⟩,maps,true⟩ ⟨A1,a1⟩ ⟨A2,a2⟩ ⟨A3,a3⟩,.int .i64 24]) (by simp[results,Tryz.results7,go_sem,yy]) rfl ?_;rw[Hr.out];exact⟨⟨⟨A1,a1⟩,⟨A2,a2⟩,⟨A3,a3⟩,rfl,⟨dw,mw⟩,fun _ _ h=>h⟩,bw⟩
 |false=>
 rw[if_neg (show¬(false=true) by simp),if_neg (show¬(false=true) by simp)]at hal;by_cases hk:k<0
 · rw[if_pos hk,if_pos hk]at hal;have Hr:=hid (HC.out.trans ((if_neg (by simp)).trans (if_pos hk)));clear HC hcl hkr hk;go_enter Tryz.func7,Tryz.ntmps7;go_wp2_with fail
   go_at_call 21;refine((hal _ hB_4)).mono ?_;rintro e w1 ⟨rfl,hb1⟩;replace hB:=bt hB_4 hb1;replace hd:=hd_5.below hb1;replace hm:=hm_6.below hb1;replace x:=x_7.below hb1 x_7.lt;replace xk:=Aa x;replace xkf:=x.fz;replace r:=r.below hb1 r.lt;replace rk:=Aa r;replace rkf:=r.fz;clear hB_1 hd_2 hm_3 hB_4 hd_5 hm_6 xk_7 xkf_7 x_7;have hrl1:=hid (r.lt);have hB_8:=Ar hB (g:=w.heap.size+1) (by omega) (.string (bs D.data)) (.slice A1 D.cache.length a1) (.int .i64 D.fuse) (.bool D.off) (.slice A2 D.bad.length a2) (.int .i64 g) (.int .i64 h) (.int .u64 seq) (.int .i64 pos) (.slice A3 maps.length a3) (.bool false);have hd_9:=hd.oc hB_8 (by first|assumption|omega);have hm_10:=hm.oc hB_8 (by first|assumption|omega);have r_12:=Yh r hB_8;have yy:=Aa r_12;have bw:=hB_8;have dw:=hd_9;have mw:=hm_10;go_wp2_with fail
   refine bodyPost_ret (v:=.tuple #[imval ⟨D,g,h,⟨seq,pos⟩,maps,false⟩ ⟨A1,a1⟩ ⟨A2,a2⟩ ⟨A3,a3⟩,.int .i64 21]) (by simp[results,Tryz.results7,go_sem,yy]) rfl ?_;rw[Hr.out];exact⟨⟨⟨A1,a1⟩,⟨A2,a2⟩,⟨A3,a3⟩,rfl,⟨dw,mw⟩,fun _ _ h=>h⟩,bw⟩
 rw[if_neg hk,if_neg hk]at hal;obtain⟨i,rfl⟩:=Int.eq_ofNat_of_zero_le (show 0<=k by omega);have hi:i<maps.length:=by omega
 have HC2:=hid (HC.out.trans ((if_neg (by simp)).trans (if_neg hk)));rw[Int.toNat_natCast]at HC2;clear HC hkr hk;go_enter Tryz.func7,Tryz.ntmps7;go_wp2_with fail
 go_at_call 21;refine((hal _ hB_4)).mono ?_;rintro e w1 ⟨rfl,hb1⟩;replace hB:=bt hB_4 hb1;replace hd:=hd_5.below hb1;replace hm:=hm_6.below hb1;replace x:=x_7.below hb1 x_7.lt;replace xk:=Aa x;replace xkf:=x.fz;replace r:=r.below hb1 r.lt;replace rk:=Aa r;replace rkf:=r.fz;clear hB_1 hd_2 hm_3 hB_4 hd_5 hm_6 xk_7 xkf_7 x_7;have hrl1:=hid (r.lt);clear hal;obtain⟨ms,hms⟩:∃ms,maps.set i (dmFresh nm)=ms:=⟨_,rfl⟩;have hl:ms.length=maps.length:=by rw[<-hms,List.length_set]
 have hb64:∀m∈ms,m.bits.length=64:=fun m hm=>by
  rw[<-hms]at hm
  rcases List.mem_or_eq_of_mem_set hm with h|rfl
  · exact h64 m h
  · exact Ba nm
 have hbnm:∀m∈ms,m.name.length<=maxLen:=fun m hm=>by
  rw[<-hms]at hm
  rcases List.mem_or_eq_of_mem_set hm with h|rfl
  · exact hnms m h
  · exact hnm
 have Hr:=hid (show Im.bmClear ⟨D,g,h,⟨seq,pos⟩,maps,false⟩ nm=(⟨D,g,h,⟨seq,pos⟩,ms,false⟩,0) by rw[HC2.out,hms]);clear HC2;go_wp2_with fail
 go_at_call 22;refine(hcl _ hB).mono ?_;rintro e w2 ⟨v,rfl,hv,hb2⟩;have hB2:=bt hB hb2;have x2:=(x).below hb2 (x).lt;have r2:=(r).below hb2 (r).lt;have d2:=(hd).below hb2;rw[<-hl]at hv;obtain⟨AC,cC,rfl,_,_,_⟩:=Ay hv;obtain⟨gC,hgC,hgB,hrl66⟩:∃gC,AC=some ⟨gC,0,none⟩/\w.heap.size+1<gC/\(dmRows maps).length=maps.length*66:=by
  rcases hv.2 with ⟨h',h0⟩|⟨g',cap,cur,h',hb,_⟩
  · omega
  · injection h' with h' _ _
    refine⟨g',h',?_,Bu h64⟩;have:=hrl1.out;omega
 subst hgC;replace hl:=hid hl;replace hms:=hid hms;clear hB x xk r rk hd hm hcl xkf rkf;have xk:=Aa x2;have xkf:=x2.fz;have rk:=Aa r2;have rkf:=r2.fz;have hB2_1:=(hB2).setCell (p:=⟨w.heap.size,9,none⟩) (by show _<=(w.heap.size:Nat);omega) (.slice (some ⟨gC,0,none⟩) ms.length cC);have d2_2:=d2.o1 hB2_1 (by first|assumption|omega);have x2_3:=(x2).set 9 (.slice (some ⟨gC,0,none⟩) ms.length cC);simp only[Ye]at x2_3;have xk_3:=Aa x2_3;have xkf_3:=x2_3.fz;have r2_4:=Yx r2 hB2_1 (by omega);have rk_4:=Aa r2_4;have rkf_4:=r2_4.fz;have hw:=RowMs.cell (show RowMs w2 _ _ maps gC ms.length cC from hv) (G:=w.heap.size) (by omega) 9 (.slice (some ⟨gC,0,none⟩) ms.length cC);clear hv;go_wp2_with fail
 generalize (w2.setCell ⟨w.heap.size,9,none⟩ (.slice (some ⟨gC,0,none⟩) ms.length cC))=V at hB2_1 d2_2 x2_3 xk_3 xkf_3 r2_4 rk_4 rkf_4 hw ⊢;clear hB2 d2 x2 r2 xk rk xkf rkf;have hB2:=hB2_1;have d2:=d2_2;have x2:=x2_3;have xk:=xk_3;have xkf:=xkf_3;have r2:=r2_4;have rk:=rk_4;have rkf:=rkf_4;clear hB2_1 d2_2 x2_3 xk_3 xkf_3 r2_4 rk_4 rkf_4;have hi2:i<ms.length:=by have:=hl.out;omega
 have xr:=x2;have rr:=r2;have dr:=d2;have hv:V.ownsRow _ _ _ _ _ _:=hw;have oC:DkOff gC D ⟨A1,a1⟩ ⟨A2,a2⟩:=(Hap.out gC (by omega)).1;have KX:=fun(W:World)(hW:Below V.heap.size V W)=>Aa (xr.below hW xr.lt)
 have s0:Below V.heap.size V V.drew:=(Below.refl _ _).drew;refine AQ (S:=fun W=>Below V.heap.size V W) (late:=fun i=>i==6) (by kernel_rfl) ?_;generalize V.drew=U0 at s0 ⊢;simp only[Nat.reduceAdd,Yn];refine Yt 0 22 (.pointer (some ⟨w.heap.size,9,none⟩)) rfl (by kernel_rfl) (fun _ _ _ h=>h) (fun W=>by first|rfl|go_simp) ?_;simp only[Yf];refine Yu 1 (some 23) (.slice (some ⟨gC,0,none⟩) ms.length cC) rfl (by kernel_rfl) (fun _ _ _ h=>h) (fun W hW=>by have h:=KX W hW;go_simp) s0 ?_;simp only[Yf];refine Yt 2 24 (.int .i64 (i:Int)) rfl (by kernel_rfl) (fun _ _ _ h=>h) (fun W=>by first|rfl|go_simp) ?_;simp only[Yf];refine Yt 3 25 (.string (bs nm)) rfl (by kernel_rfl) (fun _ _ _ h=>h) (fun W=>by first|rfl|go_simp) ?_;simp only[Yf];refine Ak (i:=4) (by kernel_rfl) rfl rfl (fun K' hK=>?_);refine oper_enter' (f:=23) (args:=#[.string (bs nm)]) (w':=U0) (by go_simp) ((DE nm U0).mono ?_);rintro e U1 ⟨rfl,hb0⟩;refine⟨_,rfl,?_⟩;show K' (Act.put _ (some 26) _) _;have s1:=s0.trans (hb0.mono s0.size);have o1:=AD hv s1;have st:=Tryz.dm_store (dmFresh nm) (Ba nm) (LV o1 (i*dmN) 66 (by rw[hrl66];unfold dmN;omega));have dl:=AS (Ba nm);have o2:=Gh (dmCells (dmFresh nm)) (i*dmN) o1 (by rw[hrl66,dl];unfold dmN;omega);rw[dl]at o2;have e8:=hid (show i*dmN=i*66 from rfl);rw[show i*dmN+dmN=i*66+66 from rfl,e8.out,J1 maps h64 i hi,hms.out]at o2;have b9:=below_setCells' (B:=w.heap.size) (g:=gC) (by omega) (dmCells (dmFresh nm)) (i*66) (bt hB2 s1);have x9:Blk (U1.setCells gC (i*66) (dmCells (dmFresh nm))) w.heap.size 33 _:=(BK (by omega) (dmCells (dmFresh nm)) (i*66) U1).trans (xr.below s1 xr.lt);have rr9:Blk (U1.setCells gC (i*66) (dmCells (dmFresh nm))) (w.heap.size+1) 33 _:=(BK (by omega) (dmCells (dmFresh nm)) (i*66) U1).trans (rr.below s1 rr.lt);have d9:=IsDk.offCells oC (dmCells (dmFresh nm)) (i*66) (dr.below s1);refine hK _ _ (fun _ _=>s1) ?_;simp only[Yf];generalize dmFresh nm=M at*;refine Yt 5 27 (.pointer (some ⟨gC,i*dmN,none⟩)) rfl (by kernel_rfl) (fun _ _ _ h=>h) (fun W=>by first|rfl|go_simp) ?_;simp only[Yf];refine Ak (i:=6) (by kernel_rfl) rfl rfl (fun K' hK=>?_);refine Av (w':=U1.setCells gC (i*66) (dmCells M)) (by rw[<-e8.out];go_simp) ?_;show K' (Act.put _ none _) _;refine hK _ _ (fun h=>absurd h (by decide)) ?_
 try simp only[Yf]
 refine AA (by kernel_rfl) ?_ _;generalize U1.setCells gC (i*66) (dmCells M)=Uz at o2 b9 x9 rr9 d9 ⊢;have mm:=IsMs.of_own rfl o2 hb64 hbnm;have Q9:∀g',g'<w.heap.size+2->MsOff g' ms ⟨some ⟨gC,0,none⟩,cC⟩:=fun g' h=>.inr (fun b off e=>by injection e with e;injection e with e1 _;omega)
 have qr:=Q9 (w.heap.size+1) (by omega);replace Q9:=hid Q9;clear KX xr rr dr hv hw o1 s0 s1 x2 r2 d2 hB2 xk xkf rk rkf o2 st;have xk2:=Aa x9;have rk2:=Aa rr9;have rk2f:=rr9.fz;have b9_1:=Ar b9 (g:=w.heap.size+1) (by omega) (.string (bs D.data)) (.slice A1 D.cache.length a1) (.int .i64 D.fuse) (.bool D.off) (.slice A2 D.bad.length a2) (.int .i64 g) (.int .i64 h) (.int .u64 seq) (.int .i64 pos) (.slice (some ⟨gC,0,none⟩) ms.length cC) (.bool false);have d9_2:=d9.oc b9_1 (by first|assumption|omega);have mm_3:=mm.oc b9_1 (by first|assumption|omega);have rr9_5:=Yh rr9 b9_1;have yy:=Aa rr9_5;have bw:=b9_1;have dw:=d9_2;have mw:=mm_3;go_wp2_with fail
 refine bodyPost_ret (v:=.tuple #[imval ⟨D,g,h,⟨seq,pos⟩,ms,false⟩ ⟨A1,a1⟩ ⟨A2,a2⟩ ⟨some ⟨gC,0,none⟩,cC⟩,.int .i64 0]) (by simp[results,Tryz.results7,go_sem,yy]) rfl ?_;rw[Hr.out];exact⟨⟨⟨A1,a1⟩,⟨A2,a2⟩,⟨some ⟨gC,0,none⟩,cC⟩,rfl,⟨dw,mw⟩,fun g' h1 h2=>⟨h2.1,Q9.out g' (by omega)⟩⟩,bw⟩
end
section
open Go.RowKit Go.Shelf
attribute [local go_sem] Ad Af Ag Ac Ai Ah Oper.semAt_some
def thereN (l:List Dm)(j:Nat):List (Nat×Dm):=((Im.numbered l).take j).filter fun p=>decide (p.2.name≠[])
def thereL (l:List Dm):List (Nat×Dm):=(Im.numbered l).filter fun p=>decide (p.2.name≠[])
def thEnc (Z:List (Nat×Dm))(i:Fin Z.length):Array Value:=#[.int .i64 (Z[i.val].1:Nat),dmval Z[i.val].2]
theorem BU (l:List Dm):(Im.numbered l).length=l.length:=by simp[Im.numbered]
theorem Ec (l:List Dm){j:Nat}(h:j<l.length):(Im.numbered l)[j]'(by rw[BU];exact h)=(j,l[j]):=by simp[Im.numbered,List.getD,h]
theorem Pk (l:List Dm):thereN l l.length=thereL l:=by
 unfold thereN thereL;rw[List.take_of_length_le (by rw[BU];exact Nat.le_refl _)]
theorem HH {l:List Dm}{j:Nat}(h:j<l.length)(hn:l[j].name≠[]):thereN l (j+1)=thereN l j++[(j,l[j])]:=by
 unfold thereN;rw[List.take_succ_eq_append_getElem (by rw[BU];exact h),List.filter_append,Ec l h];simp[hn]
theorem Po {l:List Dm}{j:Nat}(h:j<l.length)(hn:l[j].name=[]):thereN l (j+1)=thereN l j:=by
 unfold thereN;rw[List.take_succ_eq_append_getElem (by rw[BU];exact h),List.filter_append,Ec l h];simp[hn]
theorem HJ (l:List Dm)(j:Nat):∃r,thereL l=thereN l j++r:=⟨((Im.numbered l).drop j).filter fun p=>decide (p.2.name≠[]),by
 unfold thereL thereN;rw[<-List.filter_append,List.take_append_drop]⟩
theorem Pm {l:List Dm}{j:Nat}(h:j<l.length)(hn:l[j].name≠[]):∃hp:(thereN l j).length<(thereL l).length,(thereL l)[(thereN l j).length]=(j,l[j]):=by
 obtain⟨r,hr⟩:=HJ l (j+1);rw[HH h hn,List.append_assoc]at hr;have e:(thereL l)[(thereN l j).length]? =some (j,l[j]):=by rw[hr];simp
 obtain⟨h1,h2⟩:=List.getElem?_eq_some_iff.1 e;exact⟨h1,h2⟩
theorem HK {l:List Dm}{p:Nat×Dm}(h:p∈thereL l):∃hj:p.1<l.length,p.2=l[p.1]/\p.2.name≠[]:=by
 unfold thereL at h;rw[List.mem_filter]at h;obtain⟨h1,h2⟩:=h;obtain⟨j,hj,e⟩:=List.getElem_of_mem h1;rw[BU]at hj;rw[Ec l hj]at e;subst e;exact⟨hj,rfl,by simpa using h2⟩
theorem Pq (l:List Dm):(thereL l).length<=l.length:=by
 unfold thereL;exact Nat.le_trans (List.length_filter_le _ _) (by rw[BU];exact Nat.le_refl _)
theorem Pr (n:Nat)(hn:1<=n)(l:List Dm)(R:Pl)(B0 Bp:Nat)(w:World)(h0:B0<=w.heap.size)(hLW:∀W,Below B0 w W->IsMs W l R)(bp:Blk w Bp 31 #[.slice R.a l.length R.c]):
 SeqC 0 Fence.wide n Tryz.prog 84 #[.pointer (some ⟨Bp,0,none⟩)] (thEnc (thereL l)) (KeepB B0 [Bp])
  (fun ys=>picked (thereL l) ys=thereL l) (fun pre=>∃r,thereL l=picked (thereL l) pre++r) (thereL l).length w:=by
 intro lp J Jx W hW hJ hJx hY h0J;have HY:=hid hY;have HM:=hid hLW;have hll:l.length<=maxLen:=by have:=hLW w (Below.refl _ _);exact Nat.le_trans this.cap this.max
 unfold maxLen at hll;have kW:KeepB B0 [Bp] w W:=KeepB.later hW h0 (fun g hg=>by
  simp only[List.mem_cons,List.not_mem_nil,or_false]at hg
  rcases hg with rfl
  exact bp.lt)
 have sW:=hW.size;obtain⟨A3,a3⟩:=R;have in1:Bp∈[Bp]:=by simp
 have bp0:=blk1 (bp.at_ (kW.at_ _ in1));have a36:=Tryz.dm_agg;have z36:=Tryz.dm_siz;have zc:=Tryz.dm_zeros;clear hY hLW;refine callsIn_of_wp Tryz.func84 rfl trivial ?_ rfl;simp only[Tryz.ntmps84,Nat.reduceAdd,Nat.reduceSub,Yn]
 gi_wp2_with fail
 gi_loopw [7] (fun x V=>∃j:Nat,j<=l.length/\x=.int .i64 j/\(∃pre,Hid (pre.length=(thereN l j).length/\picked (thereL l) pre=thereN l j)/\J pre V)/\Hid (KeepB B0 [Bp] w V/\W.heap.size<=V.heap.size)) (fun x _=>l.length-(intOf x).toNat)
 case atStart=>exact⟨0,Nat.zero_le _,rfl,⟨[],hid ⟨rfl,rfl⟩,h0J⟩,hid ⟨kW,Nat.le_refl _⟩⟩
 case round=>
  obtain⟨j,hj,rfl,⟨pre,hpp,hJm⟩,hk⟩:=hrel;clear bp0 h0J kW;by_cases hlt:j<l.length
  · have hP:=HM.out wr hk.out.1.below;obtain⟨gb,go,ea,hgb,hcs⟩:=hP.rows (by omega);have ea':A3=some ⟨gb,go,none⟩:=ea;subst ea';have h64:=hP.bits _ (List.getElem_mem hlt);have hnl:=hP.name _ (List.getElem_mem hlt);have k1:=Tryz.dm_load l[j] h64 (hcs j hlt);have Hskip:=hid (fun(hn:l[j].name=[])=>Po hlt hn);have Hyes:=hid (fun(hn:l[j].name≠[])=>And.intro (Pm hlt hn) (HH hlt hn));obtain⟨m,hm⟩:∃m,l[j]=m:=⟨_,rfl⟩;rw[hm]at h64 hnl k1 Hskip Hyes;clear hm hcs hP;have Hj1:=hid (show j+1<=l.length from hlt);have HJm:=hid hJm;clear hJm;have hB:=Below.refl wr.heap.size wr;have v:=Blk.new wr 42 (dmCells Dm.zero).toArray;have hB_1:=hB.alloc hB.size (.cells (dmCells Dm.zero).toArray 42);have s0:=Tryz.dm_put (a:=Dm.zero) m h64 rfl v;have hB_2:=AJ hB_1 (g:=wr.heap.size) (by omega) m;have v_3:=AK v m rfl h64;have vk_3:=Tryz.dm_all m h64 v_3;have HJ1:=hid (OwnFrom.later hJ HJm.out hB_2);have Hk1:=hid (KeepB.later hB_2 (Nat.le_trans h0 (Nat.le_trans sW hk.out.2)) (fun g hg=>by
     simp only[List.mem_cons,List.not_mem_nil,or_false]at hg
     rcases hg with rfl
     have:=bp.lt;have:=hk.out.2;omega):KeepB B0 [Bp] wr _)
    have hB1:=hB_2;obtain⟨nn,hnn⟩:∃nn,m.name=nn:=⟨_,rfl⟩;have vk0:=vk_3;rw[hnn]at hnl Hskip Hyes vk0;have vl:=AS h64;have Hvs:=hid (show wr.heap.size<=_ from hB1.size);cases nn with
    |nil=>
     have Hs:=hid (Hskip.out rfl);clear Hskip Hyes
     gi_wp2_with fail
     refine⟨fun _ h=>(nomatch h),?_⟩
     gi_wp2_with fail
     go_roundw
     case rel=>exact⟨j+1,Hj1.out,by go_num,⟨pre,hid ⟨by rw[Hs.out];exact hpp.out.1,by rw[Hs.out];exact hpp.out.2⟩,HJ1.out⟩,hid ⟨hk.out.1.trans Hk1.out,Nat.le_trans hk.out.2 Hvs.out⟩⟩
     case measure=>have:=Hj1.out;simp[intOf];omega
    |cons c0 t0=>
     obtain⟨⟨hp,hpe⟩,hnx⟩:=Hyes.out (by simp);have Hp2:=hid (show picked (thereL l) (pre++[⟨(thereN l j).length,hp⟩])=thereN l (j+1) by rw[Bz,hpp.out.2,hnx];congr 1;exact congrArg (fun x=>[x]) hpe);have Hp1:=hid (show(pre++[(⟨(thereN l j).length,hp⟩:Fin (thereL l).length)]).length=(thereN l (j+1)).length by rw[hnx,List.length_append,List.length_append,hpp.out.1];rfl);have Hpr:=hid (HJ l (j+1));obtain⟨fn,tmps,assign,body,hy,hR⟩:=HY.out pre ⟨(thereN l j).length,hp⟩ _ HJ1.out (by rw[hpp.out.1];exact hp) (by have:=hk.out.2;have:=hB1.size;omega);simp only[thEnc,hpe]at hy;clear hpe hnx Hskip Hyes
     gi_wp2_with fail
     refine hR.mono ?_;rintro e W3 (⟨rfl,hJ3,hkf,hst3,hk3⟩|⟨rfl,hJx3,_⟩)
     · have HJ3:=hid hJ3;have Hk3:=hid hk3;have Hs3:=hid hst3.1;clear hJ3 hR hy hkf hst3 hk3
       gi_wp2_with fail
       go_roundw
       case rel=>exact⟨j+1,Hj1.out,by go_num,⟨_,hid ⟨Hp1.out,Hp2.out⟩,HJ3.out⟩,hid ⟨(hk.out.1.trans Hk1.out).trans Hk3.out,Nat.le_trans (Nat.le_trans hk.out.2 Hvs.out) Hs3.out⟩⟩
       case measure=>have:=Hj1.out;simp[intOf];omega
     · have HJx:=hid hJx3;clear hJx3 hR hy
       gi_wp2_with fail
       refine bodyPost_ret (results_none rfl _ _ _) rfl ?_;exact⟨⟨_,rfl⟩,.inr ⟨_,by rw[Hp2.out];exact Hpr.out,HJx.out⟩⟩
  · obtain rfl:j=l.length:=by omega
    have HJx:=hid hJm;clear hJm
    gi_wp2_with fail
    go_end0
    exact⟨⟨_,rfl⟩,.inl ⟨_,by rw[hpp.out.2,Pk],HJx.out⟩⟩
theorem Pp (n:Nat)(l:List Dm)(R:Pl)(w:World):
 CallsIn Fence.wide n Tryz.prog 42 #[.slice R.a l.length R.c] w fun e w'=>e=.returned (.func (.func 84) #[] #[.pointer (some ⟨w.heap.size,0,none⟩)])/\
  w'=w.alloc (.cells #[.slice R.a l.length R.c] 31):=by
 refine callsIn_of_wp Tryz.func42 rfl trivial ?_ rfl;simp only[Tryz.ntmps42,Nat.reduceAdd,Nat.reduceSub,Yn]
 gi_wp2
 go_ret
 exact⟨rfl,rfl⟩
end
end Go.Proofs.YtmiilfnchfdfcaaGreatDoor
