/- Bc: Bitm6, Bitm8. -/
import Derived.Test.YtmiilfnchfdfcaaGreatDoorBcBitm7
set_option maxRecDepth 100000
set_option maxHeartbeats 40000000
set_option linter.unusedVariables false
namespace Go.Proofs.YtmiilfnchfdfcaaGreatDoor
section
open Go.RowKit Go.Shelf
attribute [local go_sem] Ad Af Ag Ac Ai Ah
def svN (l ms:List Dm)(e:Int)(i:Nat):Pn×Int:=(ms.take i).foldl (Im.saveStep l) (Pn.none,e)
theorem OG (l:List Dm){ms:List Dm}(e:Int){i:Nat}(h:i<ms.length):svN l ms e (i+1)=Im.saveStep l (svN l ms e i) ms[i]:=by
 unfold svN;rw[List.take_succ_eq_append_getElem h,List.foldl_append];rfl
theorem OF (l ms:List Dm)(e:Int):svN l ms e ms.length=Im.saveAll l ms e:=by
 unfold svN Im.saveAll;rw[List.take_length]
theorem N8 {X:Pn×Int}(h:X.1.Fit)(l:List Dm)(m:Dm):(Im.saveStep l X m).1.Fit:=by
 unfold Im.saveStep
 split
 · exact h
 split
 · exact h
 · exact Pn.dmSet_fit h _ _
theorem G8 (l:List Dm):∀(ms:List Dm)(X:Pn×Int),X.1.Fit->(ms.foldl (Im.saveStep l) X).1.Fit
 |[],_,h=>h
 |m::ms,X,h=>G8 l ms _ (N8 h l m)
theorem IsMs.off2 {w:World}{l:List Dm}{r:Pl}(h:IsMs w l r){g:Nat}(ho:MsOff g l r)(u v:Value):IsMs ((w.setCell ⟨g,0,none⟩ u).setCell ⟨g,1,none⟩ v) l r:=
 (h.off (a:=⟨g,0,none⟩) ho u).off (a:=⟨g,1,none⟩) ho v
theorem IK (x:Im)(p q r:Pl)(w:World)(hI:IsIm w x p q r)(ok:x.Ok):
 Calls Tryz.prog 14 #[imval x p q r] w fun e w'=>RetIm w.heap.size x p q r x.bmSave e w'/\Below w.heap.size w w':=by
 have hmp:=fun(W:World)(hb:Below w.heap.size w W)=>Cy x.d Pn.none p q ⟨none,0⟩ ⟨none,0⟩ W (hI.d.below hb) (AO _) ok.d Pn.none_fit
 have hml:=CW x.d Pn.none;have Hap:=hid (fun g (hg:w.heap.size<=g)=>hI.apart hg);have HC:=hid (show x.bmSave=if x.br=true then(x,24)else if(Im.saveAll (Pn.maps x.d Pn.none).1 x.maps (Pn.maps x.d Pn.none).2).2≠0 then(x,(Im.saveAll (Pn.maps x.d Pn.none).1 x.maps (Pn.maps x.d Pn.none).2).2)
  else if(x.done (Im.saveAll (Pn.maps x.d Pn.none).1 x.maps (Pn.maps x.d Pn.none).2).1).2≠0 then x.done (Im.saveAll (Pn.maps x.d Pn.none).1 x.maps (Pn.maps x.d Pn.none).2).1
  else Im.flushed (x.done (Im.saveAll (Pn.maps x.d Pn.none).1 x.maps (Pn.maps x.d Pn.none).2).1).1 from rfl)
 have hmls:=ok.maps;have H64:=hid hI.m.bits;have Hnm:=hid hI.m.name;generalize Pn.maps x.d Pn.none=MM at*;obtain⟨l,e1⟩:=MM;simp only at hmp hml HC;have Hna:=hid (fun(W:World)(R:Pl)(i:IsMs W l R)(nm:List UInt8)(hnm:nm.length<=maxLen)=>Cj l R nm hnm W i);have Hkr:=hid (fun(nm:List UInt8)=>Cm l nm);have Hst:=hid (fun(W:World)(L:Pn)(p q:Pl)(i:IsPn W L p q)(h:L.Fit)(k:Int)(hk:okInt k)(m:Dm)(h64:m.bits.length=64)(hnm:m.name.length<=maxLen)=>Et L p q W i (by have:=h.2.1;omega) h.1 k m h64 hnm hk);have Hall:=hid (OF l x.maps e1);have Hnext:=hid (fun i (h:i<x.maps.length)=>OG l e1 h);have Hfit:=hid (fun i=>show(svN l x.maps e1 i).1.Fit from G8 l _ _ Pn.none_fit);have Hdn:=hid (fun(W:World)(L:Pn)(p' q':Pl)(hb:Below w.heap.size w W)(i:IsPn W L p' q')(hf:L.Fit)=>DI x L p q r p' q' W (hI.below hb) i ok hf);have Hdok:=hid (fun(L:Pn)=>(ok.done L).1);obtain⟨hd,hm⟩:=hI;clear ok;obtain⟨D,g,h,⟨seq,pos⟩,maps,br⟩:=x;simp only at hd hm hmp hmls Hap HC H64 Hnm Hall Hnext Hfit;obtain⟨A1,a1⟩:=p;obtain⟨A2,a2⟩:=q;obtain⟨A3,a3⟩:=r;have a36:=Tryz.dm_agg;have z36:=Tryz.dm_siz;have zc:=Tryz.dm_zeros;have or0:=Hap.out (w.heap.size+1) (by omega);have ord:=or0.1;have orm:=or0.2;have ox0:=Hap.out w.heap.size (Nat.le_refl _);have oxd:=ox0.1;have oxm:=ox0.2;cases br with
 |true=>
  have Hr:=hid (HC.out.trans (if_pos rfl));clear HC hmp hml H64 Hnm Hna Hkr Hst Hall Hnext Hfit Hdn zc a36 z36;have hB:=Below.refl w.heap.size w;have x:=Blk.new w 33 #[.string (bs D.data),.slice A1 D.cache.length a1,.int .i64 D.fuse,.bool D.off,.slice A2 D.bad.length a2,.int .i64 g,.int .i64 h,.int .u64 seq,.int .i64 pos,.slice A3 maps.length a3,.bool true];have xk:=Aa x;have hB_1:=Ya hB x;have hd_2:=hd.below (Yb hB_1);have hm_3:=hm.below (Yb hB_1);have r:=Yd hB_1 33 #[.string (bs D.data),.slice A1 D.cache.length a1,.int .i64 D.fuse,.bool D.off,.slice A2 D.bad.length a2,.int .i64 g,.int .i64 h,.int .u64 seq,.int .i64 pos,.slice A3 maps.length a3,.bool true];simp only[Ys]at r;have rk:=Aa r;have hB_4:=Ya hB_1 r;have hd_5:=hd_2.below (Yb hB_4);have hm_6:=hm_3.below (Yb hB_4);have x_7:=Yc x hB_4;have xk_7:=Aa x_7;have yy:=rk;have bw:=hB_4;have dw:=hd_5;have mw:=hm_6;go_enter Tryz.func14,Tryz.ntmps14;go_wp2_with fail
  refine bodyPost_ret (v:=.tuple #[imval ⟨D,g,h,⟨seq,pos⟩,maps,true⟩ ⟨A1,a1⟩ ⟨A2,a2⟩ ⟨A3,a3⟩,.int .i64 24]) (by simp[results,Tryz.results14,go_sem,yy]) rfl ?_;rw[Hr.out];exact⟨⟨⟨A1,a1⟩,⟨A2,a2⟩,⟨A3,a3⟩,rfl,⟨dw,mw⟩,fun _ _ h=>h⟩,bw⟩
 |false=>
  have hB:=Below.refl w.heap.size w;have x:=Blk.new w 33 #[.string (bs D.data),.slice A1 D.cache.length a1,.int .i64 D.fuse,.bool D.off,.slice A2 D.bad.length a2,.int .i64 g,.int .i64 h,.int .u64 seq,.int .i64 pos,.slice A3 maps.length a3,.bool false];have xk:=Aa x;have xkf:=x.fz;have hB_1:=Ya hB x;have hd_2:=hd.below (Yb hB_1);have hm_3:=hm.below (Yb hB_1);have r:=Yd hB_1 33 #[.string (bs []),.slice none 0 0,.int .i64 0,.bool false,.slice none 0 0,.int .i64 0,.int .i64 0,.int .u64 0,.int .i64 0,.slice none 0 0,.bool false];simp only[Ys]at r;have rk:=Aa r;have rkf:=r.fz;have hB_4:=Ya hB_1 r;have hd_5:=hd_2.below (Yb hB_4);have hm_6:=hm_3.below (Yb hB_4);have x_7:=Yc x hB_4;have xk_7:=Aa x_7;have xkf_7:=x_7.fz;go_enter Tryz.func14,Tryz.ntmps14;go_wp2_with fail
  go_at_call 28;refine((hmp _ hB_4)).mono ?_;rintro e w1 ⟨⟨v,rfl,hv⟩,hb1⟩;replace hB:=bt hB_4 hb1;replace hd:=hd_5.below hb1;replace hm:=hm_6.below hb1;replace x:=x_7.below hb1 x_7.lt;replace xk:=Aa x;replace xkf:=x.fz;replace r:=r.below hb1 r.lt;replace rk:=Aa r;replace rkf:=r.fz;clear hB_1 hd_2 hm_3 hB_4 hd_5 hm_6 xk_7 xkf_7 x_7;have hrl1:=hid (r.lt);obtain⟨AL,cl,rfl,_,_,_⟩:=Ay hv;have iL:=IsMs.of_own rfl hv hml.2.1 hml.2.2;clear hv hmp;have apd:=(hd).apart (Nat.le_refl w1.heap.size);have apm:=(hm).apart (Nat.le_refl w1.heap.size);have apl:=iL.apart (Nat.le_refl w1.heap.size);have pl:=Blk.new w1 63 #[.slice none 0 0,.slice none 0 0];have plk:=blk2 pl;have plkf:=pl.fz;have hB_8:=Ya hB pl;have hd_9:=hd.below (Yb hB_8);have hm_10:=hm.below (Yb hB_8);have x_11:=Yc x hB_8;have xk_11:=Aa x_11;have r_12:=Yc r hB_8;have iL_13:=iL.below (Yb hB_8);go_wp2_with fail
  go_loopw [5,23] (fun s5 s23 W=>∃(i:Nat)(X:Pn×Int)(P Q:Pl),i<=maps.length/\s23=.int .i64 i/\s5=.int .i64 X.2/\Hid (svN l maps e1 i=X)/\Blk W w.heap.size 33 #[.string (bs D.data),.slice A1 D.cache.length a1,.int .i64 D.fuse,.bool D.off,.slice A2 D.bad.length a2,.int .i64 g,.int .i64 h,.int .u64 seq,.int .i64 pos,.slice A3 maps.length a3,.bool false]/\Blk W (w.heap.size+1) 33 #[.string (bs []),.slice none 0 0,.int .i64 0,.bool false,.slice none 0 0,.int .i64 0,.int .i64 0,.int .u64 0,.int .i64 0,.slice none 0 0,.bool false]/\Blk W w1.heap.size 63 #[.slice P.a X.1.targets.length P.c,.slice Q.a X.1.data.length Q.c]/\IsDk W D ⟨A1,a1⟩ ⟨A2,a2⟩/\IsMs W maps ⟨A3,a3⟩/\IsMs W l ⟨AL,cl⟩/\IsPn W X.1 P Q/\PnOff w1.heap.size X.1 P Q/\Below w.heap.size w W) (fun _ x _=>maps.length-(intOf x).toNat)
  case atStart=>exact⟨0,(Pn.none,e1),⟨none,0⟩,⟨none,0⟩,Nat.zero_le _,rfl,rfl,hid rfl,x_11,r_12,pl,hd_9,hm_10,iL_13,AO _,⟨.inl rfl,.inl rfl⟩,hB_8⟩
  case round=>
   clear x_11 xk_11 r_12 pl plk hd_9 hm_10 iL_13 hB_8 xkf rkf plkf;obtain⟨i,⟨Lp,e⟩,⟨P1,c1⟩,⟨Q1,d1⟩,hi,rfl,rfl,HN,x,r,pl,hd,hm,iL,ip,op,hB⟩:=hrel;simp only at pl ip op;have xk:=Aa x;have xkf:=x.fz;have rk:=Aa r;have rkf:=r.fz;have plk:=blk2 pl;have plkf:=pl.fz;have hpl:=pl.lt;have hr9:=hrl1.out;by_cases hlt:i<maps.length
   · obtain⟨gb,go,ea,hgb,hcs⟩:=hm.rows (by omega);have ea':A3=some ⟨gb,go,none⟩:=ea;subst ea';have h64:=H64.out _ (List.getElem_mem hlt);have hnl:=Hnm.out _ (List.getElem_mem hlt);have k1:=Tryz.dm_load maps[i] h64 (hcs i hlt);have Hn:=hid (Hnext.out i hlt);obtain⟨m,hmm⟩:∃m,maps[i]=m:=⟨_,rfl⟩;rw[hmm]at h64 hnl k1 Hn;replace Hn:=hid (Hn.out.trans (congrArg (fun X=>Im.saveStep l X m) HN.out));have hLf:Lp.Fit:=by have:=Hfit.out i;rw[HN.out]at this;exact this
     replace hLf:=hid hLf;have lM:=AS h64;clear hmm hcs HN;have Hi1:=hid (show i+1<=maps.length from hlt);have odv:=(hd).apart (Nat.le_refl wr.heap.size);have omv:=(hm).apart (Nat.le_refl wr.heap.size);have olv:=(iL).apart (Nat.le_refl wr.heap.size);have opv:=(ip).apart (Nat.le_refl wr.heap.size);have v:=Blk.new wr 42 (dmCells Dm.zero).toArray;have vk:=Tryz.dm_all Dm.zero rfl v;have vkf:=v.fz;have hB_1:=hB.alloc hB.size (.cells (dmCells Dm.zero).toArray 42);have hd_2:=hd.below (Yb hB_1);have hm_3:=hm.below (Yb hB_1);have iL_4:=iL.below (Yb hB_1);have ip_5:=ip.below (Yb hB_1);have x_6:=Yc x hB_1;have r_7:=Yc r hB_1;have pl_8:=Yc pl hB_1;have s0:=Tryz.dm_put (a:=Dm.zero) m h64 rfl v;have hB_9:=AJ hB_1 (g:=wr.heap.size) (by omega) m;have hd_10:=hd_2.offD (g:=wr.heap.size) (by first|assumption|omega) m;have hm_11:=hm_3.offD (g:=wr.heap.size) (by first|assumption|omega) m;have iL_12:=iL_4.offD (g:=wr.heap.size) (by first|assumption|omega) m;have ip_13:=ip_5.offD (g:=wr.heap.size) (by first|assumption|omega) m;have x_14:=AI x_6 (g:=wr.heap.size) (by omega) m;have r_15:=AI r_7 (g:=wr.heap.size) (by omega) m;have pl_16:=AI pl_8 (g:=wr.heap.size) (by omega) m;have v_17:=AK v m rfl h64;have vk_17:=Tryz.dm_all m h64 v_17;go_wp2_with fail
     go_at_call 27;refine((Hna.out _ _ iL_12 m.name hnl)).mono ?_;rintro e w3 ⟨rfl,hb3⟩;replace hB:=bt hB_9 hb3;replace hd:=hd_10.below hb3;replace hm:=hm_11.below hb3;replace iL:=iL_12.below hb3;replace ip:=ip_13.below hb3;replace x:=x_14.below hb3 x_14.lt;replace xk:=Aa x;replace xkf:=x.fz;replace r:=r_15.below hb3 r_15.lt;replace rk:=Aa r;replace rkf:=r.fz;replace pl:=pl_16.below hb3 pl_16.lt;replace plk:=blk2 pl;replace plkf:=pl.fz;replace v:=v_17.below hb3 v_17.lt;replace vk:=Tryz.dm_all m h64 v;replace vkf:=v.fz;clear hB_1 hd_2 hm_3 iL_4 ip_5 x_6 r_7 pl_8 hB_9 hd_10 hm_11 iL_12 ip_13 x_14 r_15 pl_16 vk_17 v_17;have hkr:=Hkr.out m.name;have hst0:Im.saveStep l (Lp,e) m=if e≠0 then(Lp,e)else if dmFind l m.name<0 then(Lp,21)else Pn.dmSet Lp (dmFind l m.name) {m with use:=false}:=rfl
     replace Hn:=hid (Hn.out.trans hst0);clear hst0 s0 k1;generalize dmFind l m.name=k at*;by_cases he:e=0
     rotate_left
     · have n1:(e==0)=false:=beq_eq_false_iff_ne.2 he;have Hr:=hid (Hn.out.trans (if_pos he));clear Hn he;go_wp2_with fail
       go_roundw
       case rel=>exact⟨i+1,(Lp,e),⟨P1,c1⟩,⟨Q1,d1⟩,Hi1.out,by go_num,rfl,Hr,x,r,pl,hd,hm,iL,ip,op,hB⟩
       case measure=>have:=Hi1.out;simp[intOf];omega
     subst he;by_cases hk:k<0
     · have d0:decide (k<0)=true:=decide_eq_true hk;have Hr:=hid (Hn.out.trans ((if_neg (by simp)).trans (if_pos hk)));clear Hn hk hkr;go_wp2_with fail
       go_roundw
       case rel=>exact⟨i+1,(Lp,21),⟨P1,c1⟩,⟨Q1,d1⟩,Hi1.out,by go_num,rfl,Hr,x,r,pl,hd,hm,iL,ip,op,hB⟩
       case measure=>have:=Hi1.out;simp[intOf];omega
     have d0:decide (k<0)=false:=decide_eq_false hk;have Hr:=hid (Hn.out.trans ((if_neg (by simp)).trans (if_neg hk)));have hko:okInt k:=by have:=hml.1;unfold okInt;omega
     clear Hn hk hkr;obtain⟨M2,hM2⟩:∃M2,({m with use:=false}:Dm)=M2:=⟨_,rfl⟩;have h642:M2.bits.length=64:=by rw[<-hM2];exact h64
     have hnl2:M2.name.length<=maxLen:=by rw[<-hM2];exact hnl
     have v9:=CH (v) false;rw[hM2]at v9 Hr;clear hM2;have vkf:=(v).fz;have hst2:=fun(W:World)(p q:Pl)(j:IsPn W Lp p q)=>Hst.out W Lp p q j hLf.out k hko M2 h642 hnl2
     have hB_18:=(hB).setCell (p:=⟨wr.heap.size,1,none⟩) (by show _<=(wr.heap.size:Nat);omega) (.bool false);have hd_19:=hd.o1 hB_18 (by first|assumption|omega);have hm_20:=hm.o1 hB_18 (by first|assumption|omega);have iL_21:=iL.o1 hB_18 (by first|assumption|omega);have ip_22:=ip.o1 hB_18 (by first|assumption|omega);have x_23:=Yx x hB_18 (by omega);have r_24:=Yx r hB_18 (by omega);have pl_25:=Yx pl hB_18 (by omega);have plk_25:=blk2 pl_25;have v9k:=Tryz.dm_all M2 h642 v9;generalize Pn.dmSet Lp k M2=S at hst2 Hr;obtain⟨L2,e2⟩:=S
     try simp only at hst2
     have hpl3:=(pl_25).lt;go_wp2_with fail
     go_at_call 38;refine((hst2 _ _ _ ip_22)).mono ?_;rintro e w4 ⟨⟨⟨P2,c2⟩,⟨Q2,d2⟩,rfl,i2,o2⟩,hb4⟩;replace hB:=bt hB_18 hb4;replace hd:=hd_19.below hb4;replace hm:=hm_20.below hb4;replace iL:=iL_21.below hb4;replace ip:=ip_22.below hb4;replace x:=x_23.below hb4 x_23.lt;replace xk:=Aa x;replace xkf:=x.fz;replace r:=r_24.below hb4 r_24.lt;replace rk:=Aa r;replace rkf:=r.fz;replace pl:=pl_25.below hb4 pl_25.lt;replace plk:=blk2 pl;replace plkf:=pl.fz;replace v9:=v9.below hb4 v9.lt;replace v9k:=Tryz.dm_all M2 h642 v9;clear hB_18 hd_19 hm_20 iL_21 ip_22 x_23 r_24 plk_25 pl_25;have op2:=o2 w1.heap.size hpl3 op;clear o2 hst2;have hB_26:=Ae hB (g:=w1.heap.size) (by omega) (.slice P2 L2.targets.length c2) (.slice Q2 L2.data.length d2);have hd_27:=hd.oa hB_26 (by first|assumption|omega);have hm_28:=hm.oa hB_26 (by first|assumption|omega);have iL_29:=iL.oa hB_26 (by first|assumption|omega);have x_30:=Yk x hB_26 (by omega);have r_31:=Yk r hB_26 (by omega);have pl_32:=Yl pl hB_26;have i2_34:=i2.oa hB_26 (by first|assumption|omega);go_wp2_with fail
     go_roundw
     case rel=>exact⟨i+1,(L2,e2),⟨P2,c2⟩,⟨Q2,d2⟩,Hi1.out,by go_num,rfl,Hr,x_30,r_31,pl_32,hd_27,hm_28,iL_29,i2_34,op2,hB_26⟩
     case measure=>have:=Hi1.out;simp[intOf];omega
   · obtain rfl:i=maps.length:=by omega
     have HS:=Hall.out.symm.trans HN.out;have HC2:=HC.out.trans (if_neg (by simp));rw[HS]at HC2;have hLf:Lp.Fit:=by have:=Hfit.out maps.length;rw[HN.out]at this;exact this
     simp only at HC2;replace HC2:=hid HC2;clear HC HN HS Hnext Hfit Hall Hna Hkr Hst;by_cases he:e=0
     rotate_left
     · have n1:(e !=0)=true:=bne_iff_ne.2 he;have Hr:=hid (HC2.out.trans (if_pos he));clear HC2 he Hdn hLf;have hB_1:=Ar hB (g:=w.heap.size+1) (by omega) (.string (bs D.data)) (.slice A1 D.cache.length a1) (.int .i64 D.fuse) (.bool D.off) (.slice A2 D.bad.length a2) (.int .i64 g) (.int .i64 h) (.int .u64 seq) (.int .i64 pos) (.slice A3 maps.length a3) (.bool false);have hd_2:=hd.oc hB_1 (by first|assumption|omega);have hm_3:=hm.oc hB_1 (by first|assumption|omega);have r_5:=Yh r hB_1;have yy:=Aa r_5;have bw:=hB_1;have dw:=hd_2;have mw:=hm_3;go_wp2_with fail
       refine bodyPost_ret (v:=.tuple #[imval ⟨D,g,h,⟨seq,pos⟩,maps,false⟩ ⟨A1,a1⟩ ⟨A2,a2⟩ ⟨A3,a3⟩,.int .i64 e]) (by simp[results,Tryz.results14,go_sem,yy]) rfl ?_;rw[Hr.out];exact⟨⟨⟨A1,a1⟩,⟨A2,a2⟩,⟨A3,a3⟩,rfl,⟨dw,mw⟩,fun _ _ h=>h⟩,bw⟩
     subst he;have hdn:=fun(W:World)(hb:Below w.heap.size w W)(j:IsPn W Lp ⟨P1,c1⟩ ⟨Q1,d1⟩)=>Hdn.out W Lp _ _ hb j hLf
     have okY:=Hdok.out Lp;replace HC2:=hid (HC2.out.trans (if_neg (by simp)));clear Hdn Hdok hLf;generalize Im.done ⟨D,g,h,⟨seq,pos⟩,maps,false⟩ Lp=DN at*;obtain⟨⟨F,g9,h9,⟨s9,o9⟩,m9,b9⟩,ed⟩:=DN;simp only at HC2 okY;have hfF:=okY.d;clear okY;have hrl9:=(r).lt;go_wp2_with fail
     go_at_call 39;refine((hdn _ hB ip)).mono ?_;rintro e w5 ⟨⟨⟨P5,e5⟩,⟨Q5,f5⟩,⟨R5,g5⟩,rfl,i5,o5⟩,hb5⟩;replace hB:=bt hB hb5;replace hd:=hd.below hb5;replace hm:=hm.below hb5;replace iL:=iL.below hb5;replace ip:=ip.below hb5;replace x:=x.below hb5 x.lt;replace xk:=Aa x;replace xkf:=x.fz;replace r:=r.below hb5 r.lt;replace rk:=Aa r;replace rkf:=r.fz;replace pl:=pl.below hb5 pl.lt;replace plk:=blk2 pl;replace plkf:=pl.fz;have or5:=o5 (w.heap.size+1) (by omega) ⟨ord,orm⟩;have orF:=or5.1;have orM:=or5.2;have ox5:=o5 w.heap.size (by omega) ⟨oxd,oxm⟩;have oxF:=ox5.1;have oxM:=ox5.2;have O5:=hid (fun g' (h1:g'<w.heap.size) h2=>o5 g' (by omega) h2);have i5d:=i5.d;have i5m:=i5.m;clear o5 i5 or5 ox5 hdn;have hx5:=(x).lt;have hr5:=(r).lt;have hB_1:=Ar hB (g:=w.heap.size) (by omega) (.string (bs F.data)) (.slice P5 F.cache.length e5) (.int .i64 F.fuse) (.bool F.off) (.slice Q5 F.bad.length f5) (.int .i64 g9) (.int .i64 h9) (.int .u64 s9) (.int .i64 o9) (.slice R5 m9.length g5) (.bool b9);have x_2:=Yh x hB_1;have xk_2:=Aa x_2;have r_3:=Yg r hB_1 (by omega);have rk_3:=Aa r_3;have rkf_3:=r_3.fz;have i5d_4:=i5d.oc hB_1 (by first|assumption|omega);have i5m_5:=i5m.oc hB_1 (by first|assumption|omega);by_cases he:ed=0
     rotate_left
     · have n1:(ed !=0)=true:=bne_iff_ne.2 he;have Hr:=hid (HC2.out.trans (if_pos he));clear HC2 he;have hB_6:=Ar hB_1 (g:=w.heap.size+1) (by omega) (.string (bs F.data)) (.slice P5 F.cache.length e5) (.int .i64 F.fuse) (.bool F.off) (.slice Q5 F.bad.length f5) (.int .i64 g9) (.int .i64 h9) (.int .u64 s9) (.int .i64 o9) (.slice R5 m9.length g5) (.bool b9);have x_7:=Yg x_2 hB_6 (by omega);have xk_7:=Aa x_7;have xkf_7:=x_7.fz;have r_8:=Yh r_3 hB_6;have i5d_9:=i5d_4.oc hB_6 (by first|assumption|omega);have i5m_10:=i5m_5.oc hB_6 (by first|assumption|omega);have yy:=Aa r_8;have bw:=hB_6;have dw:=i5d_9;have mw:=i5m_10;go_wp2_with fail
       refine bodyPost_ret (v:=.tuple #[imval ⟨F,g9,h9,⟨s9,o9⟩,m9,b9⟩ ⟨P5,e5⟩ ⟨Q5,f5⟩ ⟨R5,g5⟩,.int .i64 ed]) (by simp[results,Tryz.results14,go_sem,yy]) rfl ?_;rw[Hr.out];exact⟨⟨⟨P5,e5⟩,⟨Q5,f5⟩,⟨R5,g5⟩,rfl,⟨dw,mw⟩,O5.out⟩,bw⟩
     subst he;replace HC2:=hid (HC2.out.trans (if_neg (by simp)));have HF:=hid (show Im.flushed ⟨F,g9,h9,⟨s9,o9⟩,m9,b9⟩=if(Dk.flush F).2≠0 then(⟨(Dk.flush F).1,g9,h9,⟨s9,o9⟩,m9,true⟩,(Dk.flush F).2)else(⟨(Dk.flush F).1,g9,h9,⟨s9,o9⟩,[],b9⟩,0)from rfl);have hfl:=fun(W:World)(j:IsDk W F ⟨P5,e5⟩ ⟨Q5,f5⟩)=>Fj F _ _ W j hfF
     replace HC2:=hid (HC2.out.trans HF.out);clear HF hfF;generalize Dk.flush F=FF at*;obtain⟨E,ef⟩:=FF;simp only at hfl HC2;go_wp2_with fail
     go_at_call 40;refine((hfl _ i5d_4)).mono ?_;rintro e w6 ⟨⟨⟨P6,e6⟩,⟨Q6,f6⟩,rfl,i6,o6⟩,hb6⟩;replace hB:=bt hB_1 hb6;replace x:=x_2.below hb6 x_2.lt;replace xk:=Aa x;replace xkf:=x.fz;replace r:=r_3.below hb6 r_3.lt;replace rk:=Aa r;replace rkf:=r.fz;replace i5d:=i5d_4.below hb6;replace i5m:=i5m_5.below hb6;clear hB_1 xk_2 x_2 rk_3 rkf_3 r_3 i5d_4 i5m_5
     skip
     have oxE:=o6 w.heap.size (by simp only[World.size_setCell];omega) oxF;have orE:=o6 (w.heap.size+1) (by simp only[World.size_setCell];omega) orF;have O6:=hid (fun g' (h1:g'<w.heap.size)(h2:DkOff g' F ⟨P5,e5⟩ ⟨Q5,f5⟩)=>o6 g' (by simp only[World.size_setCell];omega) h2);clear o6 hfl;have hB_6:=(((((hB).setCell (p:=⟨w.heap.size,0,none⟩) (by show _<=(w.heap.size:Nat);omega) (.string (bs E.data))).setCell (p:=⟨w.heap.size,1,none⟩) (by show _<=(w.heap.size:Nat);omega) (.slice P6 E.cache.length e6)).setCell (p:=⟨w.heap.size,2,none⟩) (by show _<=(w.heap.size:Nat);omega) (.int .i64 E.fuse)).setCell (p:=⟨w.heap.size,3,none⟩) (by show _<=(w.heap.size:Nat);omega) (.bool E.off)).setCell (p:=⟨w.heap.size,4,none⟩) (by show _<=(w.heap.size:Nat);omega) (.slice Q6 E.bad.length f6);have x_7:=(((((x).set 0 (.string (bs E.data))).set 1 (.slice P6 E.cache.length e6)).set 2 (.int .i64 E.fuse)).set 3 (.bool E.off)).set 4 (.slice Q6 E.bad.length f6);simp only[Ye]at x_7;have xk_7:=Aa x_7;have xkf_7:=x_7.fz;have r_8:=Yi r hB_6 (by omega);have i5m_9:=i5m.ob hB_6 (by first|assumption|omega);have i6_10:=i6.ob hB_6 (by first|assumption|omega);by_cases he:ef=0
     rotate_left
     · have n1:(ef !=0)=true:=bne_iff_ne.2 he;have Hr:=hid (HC2.out.trans (if_pos he));clear HC2 he;have hB_11:=(hB_6).setCell (p:=⟨w.heap.size,10,none⟩) (by show _<=(w.heap.size:Nat);omega) (.bool true);have x_12:=(x_7).set 10 (.bool true);simp only[Ye]at x_12;have xk_12:=Aa x_12;have r_13:=Yx r_8 hB_11 (by omega);have rk_13:=Aa r_13;have rkf_13:=r_13.fz;have i5m_14:=i5m_9.o1 hB_11 (by first|assumption|omega);have i6_15:=i6_10.o1 hB_11 (by first|assumption|omega);have hB_16:=Ar hB_11 (g:=w.heap.size+1) (by omega) (.string (bs E.data)) (.slice P6 E.cache.length e6) (.int .i64 E.fuse) (.bool E.off) (.slice Q6 E.bad.length f6) (.int .i64 g9) (.int .i64 h9) (.int .u64 s9) (.int .i64 o9) (.slice R5 m9.length g5) (.bool true);have r_18:=Yh r_13 hB_16;have i5m_19:=i5m_14.oc hB_16 (by first|assumption|omega);have i6_20:=i6_15.oc hB_16 (by first|assumption|omega);have yy:=Aa r_18;have bw:=hB_16;have dw:=i6_20;have mw:=i5m_19;go_wp2_with fail
       refine bodyPost_ret (v:=.tuple #[imval ⟨E,g9,h9,⟨s9,o9⟩,m9,true⟩ ⟨P6,e6⟩ ⟨Q6,f6⟩ ⟨R5,g5⟩,.int .i64 ef]) (by simp[results,Tryz.results14,go_sem,yy]) rfl ?_;rw[Hr.out];exact⟨⟨⟨P6,e6⟩,⟨Q6,f6⟩,⟨R5,g5⟩,rfl,⟨dw,mw⟩,fun g' h1 h2=>⟨O6.out g' h1 (O5.out g' h1 h2).1,(O5.out g' h1 h2).2⟩⟩,bw⟩
     subst he;have Hr:=hid (HC2.out.trans (if_neg (by simp)));clear HC2;have hB_11:=(hB_6).setCell (p:=⟨w.heap.size,9,none⟩) (by show _<=(w.heap.size:Nat);omega) (.slice none 0 0);have x_12:=(x_7).set 9 (.slice none 0 0);simp only[Ye]at x_12;have xk_12:=Aa x_12;have r_13:=Yx r_8 hB_11 (by omega);have rk_13:=Aa r_13;have rkf_13:=r_13.fz;have i6_14:=i6_10.o1 hB_11 (by first|assumption|omega);have hB_15:=Ar hB_11 (g:=w.heap.size+1) (by omega) (.string (bs E.data)) (.slice P6 E.cache.length e6) (.int .i64 E.fuse) (.bool E.off) (.slice Q6 E.bad.length f6) (.int .i64 g9) (.int .i64 h9) (.int .u64 s9) (.int .i64 o9) (.slice none 0 0) (.bool b9);have r_17:=Yh r_13 hB_15;have i6_18:=i6_14.oc hB_15 (by first|assumption|omega);have yy:=Aa r_17;have bw:=hB_15;have dw:=i6_18;go_wp2_with fail
     refine bodyPost_ret (v:=.tuple #[imval ⟨E,g9,h9,⟨s9,o9⟩,[],b9⟩ ⟨P6,e6⟩ ⟨Q6,f6⟩ ⟨none,0⟩,.int .i64 0]) (by simp[results,Tryz.results14,go_sem,yy]) rfl ?_;rw[Hr.out];exact⟨⟨⟨P6,e6⟩,⟨Q6,f6⟩,⟨none,0⟩,rfl,⟨dw,DZ _⟩,fun g' h1 h2=>⟨O6.out g' h1 (O5.out g' h1 h2).1,LB _ _⟩⟩,bw⟩
end
section
open Go.RowKit Go.Shelf
theorem Lr {p:Nat×Dm}(h:p.2.name=[])(X:(Pn×List Dm)×Int):Im.loadStep X p=X:=by
 unfold Im.loadStep;rw[if_pos h]
 split<;>rfl
theorem Ls {X:(Pn×List Dm)×Int}(h:X.2≠0)(p:Nat×Dm):Im.loadStep X p=X:=if_pos h
theorem D9:∀(N:List (Nat×Dm))(X:(Pn×List Dm)×Int),N.foldl Im.loadStep X=(N.filter fun p=>decide (p.2.name≠[])).foldl Im.loadStep X
 |[],_=>rfl
 |p::N,X=>by
  by_cases h:p.2.name=[]
  · rw[List.foldl_cons,Lr h,List.filter_cons_of_neg (by simpa using h),D9 N X]
  · rw[List.foldl_cons,List.filter_cons_of_pos (by simpa using h),List.foldl_cons,D9 N _]
theorem FW (l:List Dm):Im.loadAll l=(thereL l).foldl Im.loadStep ((Pn.none,[]),0):=D9 _ _
def ldN (Z:List (Nat×Dm))(pre:List (Fin Z.length)):(Pn×List Dm)×Int:=(picked Z pre).foldl Im.loadStep ((Pn.none,[]),0)
theorem Lm (Z:List (Nat×Dm))(pre:List (Fin Z.length))(i:Fin Z.length):ldN Z (pre++[i])=Im.loadStep (ldN Z pre) Z[i.val]:=by
 unfold ldN;rw[Bz,List.foldl_append];rfl
theorem FX:∀(r:List (Nat×Dm))(X:(Pn×List Dm)×Int),X.2≠0->r.foldl Im.loadStep X=X
 |[],_,_=>rfl
 |p::r,X,h=>by rw[List.foldl_cons,Ls h,FX r X h]
theorem Ln (Z:List (Nat×Dm))(pre:List (Fin Z.length)){r:List (Nat×Dm)}(h:Z=picked Z pre++r)(he:(ldN Z pre).2≠0):Z.foldl Im.loadStep ((Pn.none,[]),0)=ldN Z pre:=by
 have h1:=congrArg (fun z=>z.foldl Im.loadStep ((Pn.none,[]),0)) h;refine h1.trans ?_;show(picked Z pre++r).foldl Im.loadStep _=_;rw[List.foldl_append];exact FX r _ he
theorem Fo {m:Dm}(h:m.bits.length=64):(Im.dmLoaded m).bits.length=64:=by
 unfold Im.dmLoaded
 split
 · simp
 · exact h
theorem JY (m:Dm):(Im.dmLoaded m).name=m.name:=by
 unfold Im.dmLoaded
 split<;>rfl
structure LdOk (X:Pn×List Dm) (n:Nat):Prop where
 fit:X.1.Fit
 len:X.2.length<=n
 bits:∀m∈X.2,m.bits.length=64
 name:∀m∈X.2,m.name.length<=maxLen
theorem LdOk.more {L:Pn}{ms:List Dm}{n:Nat}(h:LdOk (L,ms) n){L':Pn}(hf:L'.Fit){m:Dm}(h64:m.bits.length=64)(hn:m.name.length<=maxLen):LdOk (L',ms++[Im.dmLoaded m]) (n+1):=
 ⟨hf,by have:=h.len;simp at this ⊢;exact this,fun o ho=>by
  rcases List.mem_append.1 ho with h1|h1
  · exact h.bits o h1
  · rw[List.mem_singleton.1 h1];exact Fo h64,fun o ho=>by
  rcases List.mem_append.1 ho with h1|h1
  · exact h.name o h1
  · rw[List.mem_singleton.1 h1,JY];exact hn⟩
theorem Lq {X:(Pn×List Dm)×Int}{n:Nat}(h:LdOk X.1 n){p:Nat×Dm}(h64:p.2.bits.length=64)(hn:p.2.name.length<=maxLen):LdOk (Im.loadStep X p).1 (n+1):=by
 have h':LdOk X.1 (n+1):=⟨h.fit,Nat.le_succ_of_le h.len,h.bits,h.name⟩;obtain⟨⟨L,ms⟩,e⟩:=X;unfold Im.loadStep
 split
 · exact h'
 split
 · exact h'
 split
 · exact h.more h.fit h64 hn
 split
 · exact h'
 · exact h.more (Pn.dmSet_fit h.fit _ _) h64 hn
theorem FU (Z:List (Nat×Dm))(hZ:∀p∈Z,p.2.bits.length=64/\p.2.name.length<=maxLen):∀pre:List (Fin Z.length),LdOk (ldN Z pre).1 pre.length:=by
 have key:∀(ps:List (Nat×Dm))(X:(Pn×List Dm)×Int)(n:Nat),LdOk X.1 n->(∀p∈ps,p.2.bits.length=64/\p.2.name.length<=maxLen)->LdOk (ps.foldl Im.loadStep X).1 (n+ps.length):=fun ps=>by
  induction ps with
  |nil=>intro X n h _;exact h
  |cons p ps ih=>
   intro X n h hp;rw[List.foldl_cons,List.length_cons,show n+(ps.length+1)=n+1+ps.length by omega];exact ih _ _ (Lq h (hp p (by simp)).1 (hp p (by simp)).2) (fun q hq=>hp q (by simp[hq]))
 intro pre;have:=key (picked Z pre) ((Pn.none,[]),0) 0 ⟨Pn.none_fit,Nat.le_refl _,fun _ h=>(by cases h),fun _ h=>(by cases h)⟩ (fun p hp=>by
  unfold picked at hp;obtain⟨i,_,rfl⟩:=List.mem_map.1 hp;exact hZ _ (List.getElem_mem _))
 rw[Nat.zero_add,show(picked Z pre).length=pre.length by simp[picked]]at this;exact this
structure LdSt (W:World) (BV B0:Nat) (tp te tm td:TypeId) (X:Pn×List Dm) (P Q:Pl) (v:Value):Prop where
 p:Blk W (B0+1) tp #[.slice P.a X.1.targets.length P.c,.slice Q.a X.1.data.length Q.c]
 e:Blk W B0 te #[.int .i64 0]
 m:Blk W (B0+2) tm #[v]
 own:W.ownsRow BV td 66 v X.2.length (dmRows X.2)
 pn:IsPn W X.1 P Q
 off:∀g,(g<=B0+3\/v.ownBlock=some g)->PnOff g X.1 P Q
theorem LX {W W':World}{row:Option Nat}{base:Nat}{e:TypeId}{size n:Nat}{v:Value}{xs:List Value}(h:W.ownsRow base e size v n xs)(hg:W.grownBy W' row)(hr:∀r,row=some r->∃o:Obj,W.heap[r]? =some o/\o.isCells=false):W'.ownsRow base e size v n xs:=by
 refine h.kept hg ?_
 rcases h.2 with ⟨rfl,_⟩|⟨g,cap,cur,rfl,_,hgb,_⟩
 · exact .inl rfl
 · refine .inr fun e'=>?_
   obtain⟨o,ho,hc⟩:=hr g e'.symm;rw[hgb]at ho;cases ho;cases hc
theorem LdSt.own' (B BV B0:Nat)(tp te tm td:TypeId)(X:Pn×List Dm)(P Q:Pl)(v:Value):OwnFrom B (fun(_:Unit) W=>LdSt W BV B0 tp te tm td X P Q v):=by
 rintro s Y Z row h hy hr;exact⟨(Own.from (Az _ _ (fun _:Unit=>_)) B) () Y Z row h.p hy hr,(Own.from (Az _ _ (fun _:Unit=>_)) B) () Y Z row h.e hy hr,(Own.from (Az _ _ (fun _:Unit=>_)) B) () Y Z row h.m hy hr,
  LX h.own hy (fun r e=>(hr r e).2),h.pn.kept hy (fun r e=>(hr r e).2),h.off⟩
theorem LdSt.below {W W':World}{BV B0:Nat}{tp te tm td:TypeId}{X:Pn×List Dm}{P Q:Pl}{v:Value}(h:LdSt W BV B0 tp te tm td X P Q v)(hb:Below W.heap.size W W'):LdSt W' BV B0 tp te tm td X P Q v:=
 ⟨h.p.below hb h.p.lt,h.e.below hb h.e.lt,h.m.below hb h.m.lt,AD h.own hb,h.pn.below hb,h.off⟩
theorem LdSt.grown {W W':World}{BV B0:Nat}{tp te tm td:TypeId}{X:Pn×List Dm}{P Q:Pl}{v:Value}(h:LdSt W BV B0 tp te tm td X P Q v){g:Nat}(hg:W.grownBy W' (some g))(hB:B0+3<g)(ho:PnOff g X.1 P Q)(hv:v.ownBlock≠some g):LdSt W' BV B0 tp te tm td X P Q v:=
 ⟨h.p.grown hg (by omega),h.e.grown hg (by omega),h.m.grown hg (by omega),h.own.kept hg (.inr (fun e=>hv e)),h.pn.grown hg ho,h.off⟩
theorem Li {W W':World}{g:Nat}{t:TypeId}{cs:Array Value}(hg:W.grownBy W' (some g))(hb:Blk W g t cs):KeepsOthers W W':=
 KeepsOthers.of_grownBy hg fun j o e ho=>by injection e with e;subst e;rw[show W.heap[g]? =_ from hb]at ho;cases ho;rfl
theorem D7 {W W':World}{g B:Nat}{b:Nat}(hg:W.grownBy W' (some g))(hB:B<=g)(hs:B<=W.heap.size)(hb:b≠g)(hbs:b<W.heap.size):KeepB B [b] W W':=
 ⟨DS hg hB hs,fun k hk=>by
  obtain rfl:k=b:=by simpa using hk
  exact hg.block k hbs (fun e=>by injection e with e;exact hb e)⟩
theorem ES {W:World}{g:Nat}{t:TypeId}{cs ds:Array Value}(h:Blk W g t cs)(k:Blk W g t ds):cs=ds:=by
 have:=h.symm.trans k;injection this with this
 injection this
def setTo (m:Dm)(k:Nat):Dm:={m with bits:=List.replicate k true++m.bits.drop k}
theorem Ol (m:Dm):setTo m 0=m:=by simp[setTo]
theorem Oj {m:Dm}{k:Nat}(h:k<m.bits.length):(setTo m k).bits.set k true=(setTo m (k+1)).bits:=by
 unfold setTo;simp only;rw[List.set_append,if_neg (by simp),List.length_replicate,Nat.sub_self,List.drop_eq_getElem_cons h,List.set_cons_zero,List.replicate_succ',List.append_assoc];rfl
theorem Oh {m:Dm}(h:m.bits.length=64)(hu:m.use=true):setTo m 64=Im.dmLoaded m:=by
 unfold setTo Im.dmLoaded;rw[if_pos hu,List.drop_eq_nil_of_le (by omega),List.append_nil,hu]
theorem Oi {m:Dm}(h:m.bits.length=64){k:Nat}(hk:k<=64):(setTo m k).bits.length=64:=by
 unfold setTo;simp;omega
section
variable {F:Fence} {n:Nat} {P:Program}
theorem H8 {w w':World}{ops:Array Oper}{rest:List Oper}{o:Oper}{a:Act}{Q:Exit->Act->World->Prop}{t:TypeId}{k:Nat}{xs:Array (Nat×Operand)}(hg:o.guard=none)(ho:o.op=.buildSlice t k xs)(v:Value)(hr:(execOp a.eval o).run P w=.ok (.value v) w')
 (h:wpListIn F n P ops Q rest (a.put o.dst v) w'):wpListIn F n P ops Q (o::rest) a w:=by
 refine wpListIn_plain hg fun K hK'=>?_
 unfold Oper.wpIn;refine⟨fun f hf=>by simp[Oper.about,ho]at hf,?_⟩;rw[Oper.semAt_plain F _ _ (by rw[ho];intro c hc';cases hc'),hr];exact hK' _ _ h
end
end
end Go.Proofs.YtmiilfnchfdfcaaGreatDoor
