/- By: Img4, Img5, Allocs, Table8. -/
import Derived.Test.YtmiilfnchfdfcaaGreatDoorByImg3
set_option maxRecDepth 100000
set_option maxHeartbeats 40000000
set_option linter.unusedVariables false
namespace Go.Proofs.YtmiilfnchfdfcaaGreatDoor
section
open Go.RowKit Go.Shelf
attribute [local go_sem] Ad Ag Ah Ac Aj Ai
def markTo (k i:Nat)(l:List Dm):List Dm:=(l.take i).map (fun m=>{m with bits:=m.bits.set k true})++l.drop i
theorem Lv (k:Nat)(l:List Dm):markTo k 0 l=l:=by simp[markTo]
theorem Ls {k:Nat}(hk:k<64)(l:List Dm):markTo k l.length l=Im.markM k l:=by
 rw[Im.markM,if_neg (by omega),Int.toNat_natCast];simp[markTo]
theorem BU (k i:Nat)(l:List Dm):(markTo k i l).length=l.length:=by simp[markTo];omega
theorem CZ {k i:Nat}{l:List Dm}{m:Dm}(h:m∈markTo k i l):∃o∈l,m.name=o.name/\m.bits.length=o.bits.length:=by
 rcases List.mem_append.1 h with h|h
 · obtain⟨o,ho,rfl⟩:=List.mem_map.1 h;exact⟨o,List.mem_of_mem_take ho,rfl,by simp⟩
 · exact⟨m,List.mem_of_mem_drop h,rfl,rfl⟩
theorem Lt {k i:Nat}{l:List Dm}(h:i<l.length):(markTo k i l)[i]'(by rw[BU];exact h)=l[i]:=by
 unfold markTo;rw[List.getElem_append_right (by simp;omega)];simp only[List.length_map,List.length_take,Nat.min_eq_left (Nat.le_of_lt h),Nat.sub_self,List.getElem_drop,Nat.add_zero]
theorem Lu {k i:Nat}{l:List Dm}(h:i<l.length):(markTo k i l).set i {l[i]with bits:=l[i].bits.set k true}=markTo k (i+1) l:=by
 unfold markTo;rw[List.set_append,if_neg (by simp;omega),List.length_map,List.length_take,Nat.min_eq_left (Nat.le_of_lt h),Nat.sub_self,List.drop_eq_getElem_cons h,List.set_cons_zero,List.take_succ_eq_append_getElem h,List.map_append,List.append_assoc];rfl
theorem MF (x:Im)(k:Int)(p q r:Pl)(w:World)(hI:IsIm w x p q r)(hk64:okInt k)(hml:x.maps.length<=1000000):
 Calls Tryz.prog 54 #[imval x p q r,.int .i64 k] w fun e w'=>(∃r',e=.returned (imval (x.mark k) p q r')/\IsIm w' (x.mark k) p q r'/\∀g,g<w.heap.size->ImOff g x p q r->ImOff g (x.mark k) p q r')/\Below w.heap.size w w':=by
 have hap:=fun g (hg:w.heap.size<=g)=>hI.apart hg
 by_cases h:k<0\/64<=k
 · have Hr:=hid (show x.mark k=x by rw[Im.mark,Im.markM,if_pos h]);clear hap;obtain⟨D,g,hh,⟨seq,pos⟩,maps,br⟩:=x;obtain⟨A1,a1⟩:=p;obtain⟨A2,a2⟩:=q;obtain⟨A3,a3⟩:=r;have hB:=Below.refl w.heap.size w;have x:=Blk.new w 33 #[.string (bs D.data),.slice A1 D.cache.length a1,.int .i64 D.fuse,.bool D.off,.slice A2 D.bad.length a2,.int .i64 g,.int .i64 hh,.int .u64 seq,.int .i64 pos,.slice A3 maps.length a3,.bool br];have xk:=Aa x;have hB_1:=Ya hB x;have hI_2:=hI.below (Yb hB_1);have r:=Yd hB_1 33 #[.string (bs D.data),.slice A1 D.cache.length a1,.int .i64 D.fuse,.bool D.off,.slice A2 D.bad.length a2,.int .i64 g,.int .i64 hh,.int .u64 seq,.int .i64 pos,.slice A3 maps.length a3,.bool br];simp only[Ys]at r;have rk:=Aa r;have hB_3:=Ya hB_1 r;have hI_4:=hI_2.below (Yb hB_3);by_cases h0:k<0
   · have d0:decide (k<0)=true:=decide_eq_true h0;clear h h0;go_enter Tryz.func54,Tryz.ntmps54;go_wp2_with fail
     have yy:=rk;have iw:=hI_4;have bw:=hB_3;refine bodyPost_ret (v:=imval ⟨D,g,hh,⟨seq,pos⟩,maps,br⟩ ⟨A1,a1⟩ ⟨A2,a2⟩ ⟨A3,a3⟩) (by simp[results,Tryz.results54,go_sem,yy]) rfl ?_;rw[Hr.out];exact⟨⟨⟨A3,a3⟩,rfl,iw,fun _ _ h=>h⟩,bw⟩
   · have d0:decide (k<0)=false:=decide_eq_false h0;have d1:decide ((64:Int)<=k)=true:=decide_eq_true (by omega);clear h h0;go_enter Tryz.func54,Tryz.ntmps54;go_wp2_with fail
     have yy:=rk;have iw:=hI_4;have bw:=hB_3;refine bodyPost_ret (v:=imval ⟨D,g,hh,⟨seq,pos⟩,maps,br⟩ ⟨A1,a1⟩ ⟨A2,a2⟩ ⟨A3,a3⟩) (by simp[results,Tryz.results54,go_sem,yy]) rfl ?_;rw[Hr.out];exact⟨⟨⟨A3,a3⟩,rfl,iw,fun _ _ h=>h⟩,bw⟩
 · obtain⟨k,rfl⟩:=Int.eq_ofNat_of_zero_le (show 0<=k by omega);have hk:k<64:=by omega
   have d0:decide ((k:Int)<0)=false:=decide_eq_false (by omega);have d1:decide ((64:Int)<=(k:Int))=false:=decide_eq_false (by omega);have hk':((k:Nat):Int)<64:=by omega
   have Hr:=hid (show x.mark k={x with maps:=markTo k x.maps.length x.maps} by rw[Im.mark,<-Ls hk]);obtain⟨D,g,hh,⟨seq,pos⟩,maps,br⟩:=x;simp only at Hr hml hap;obtain⟨hd,hm⟩:=hI;simp only at hd hm;have h64:=hm.bits;have hnm:=hm.name;have hrow:=hm.row;have hnil:=hm.nil;obtain⟨i0,hi,hz0,hz1,hz2⟩:=info_parts Tryz.infoDmap3;have z36:=Tryz.dm_siz;clear h hm;obtain⟨A1,a1⟩:=p;obtain⟨A2,a2⟩:=q;obtain⟨A3,a3⟩:=r;simp only at hrow hnil;have hB:=Below.refl w.heap.size w;have x:=Blk.new w 33 #[.string (bs D.data),.slice A1 D.cache.length a1,.int .i64 D.fuse,.bool D.off,.slice A2 D.bad.length a2,.int .i64 g,.int .i64 hh,.int .u64 seq,.int .i64 pos,.slice A3 maps.length a3,.bool br];have xk:=Aa x;have hB_1:=Ya hB x;have hd_2:=hd.below (Yb hB_1);have hrow_3:=hrow.below (Yb hB_1);have r:=Yd hB_1 33 #[.string (bs []),.slice none 0 0,.int .i64 0,.bool false,.slice none 0 0,.int .i64 0,.int .i64 0,.int .u64 0,.int .i64 0,.slice none 0 0,.bool false];simp only[Ys]at r;have rk:=Aa r;have rkf:=r.fz;have hB_4:=Ya hB_1 r;have hd_5:=hd_2.below (Yb hB_4);have hrow_6:=hrow_3.below (Yb hB_4);have x_7:=Yc x hB_4;have xk_7:=Aa x_7;have xkf_7:=x_7.fz;go_enter Tryz.func54,Tryz.ntmps54;go_upto_region 4 with fail
   generalize ((w.alloc (.cells #[.string (bs D.data),.slice A1 D.cache.length a1,.int .i64 D.fuse,.bool D.off,.slice A2 D.bad.length a2,.int .i64 g,.int .i64 hh,.int .u64 seq,.int .i64 pos,.slice A3 maps.length a3,.bool br] 33)).alloc (.cells #[.string (bs []),.slice none 0 0,.int .i64 0,.bool false,.slice none 0 0,.int .i64 0,.int .i64 0,.int .u64 0,.int .i64 0,.slice none 0 0,.bool false] 33))=V at hB_4 hd_5 hrow_6 x_7 xk_7 xkf_7 r rk rkf ⊢;clear hB_1 hd_2 hrow_3 hB hd hrow x xk;have hB:=hB_4;have hd:=hd_5;have hrow:=hrow_6;have x:=x_7;have xk:=xk_7;clear hB_4 hd_5 hrow_6 x_7 xk_7 xkf_7;have rl:=r.lt;go_wp2_with (at_builtin;refine A6 rfl _ _ 31 rfl V.heap.size 42 i0 (dmval Dm.zero) 66 88 Tryz.underlying31 hi hz0 hz1 hz2 rfl (by decide) _ 0 [] rfl (World.ownsRow_nil _ _ _ _) A3 maps.length a3 (dmRows maps) rfl hrow (Bv h64) hnil (Ga maps) (by unfold maxLen;omega) (by omega) (Nat.le_refl _) ?_;intro v5 w5 h5 hb5)
   simp only[Nat.zero_add,List.nil_append]at h5;obtain⟨A5,c5,rfl,_⟩:=Az h5;have hbV:=hB;have dV:=hd;go_loopw [6] (fun u W=>∃i:Nat,i<=maps.length/\u=.int .i64 i/\W.ownsRow V.heap.size 42 66 (.slice A5 maps.length c5) maps.length (dmRows (markTo k i maps))/\Below V.heap.size V W) (fun u _=>maps.length-(intOf u).toNat)
   case atStart=>exact⟨0,Nat.zero_le _,rfl,by rw[Lv];exact h5,hb5⟩
   case round=>
    clear h5;obtain⟨i,hin,rfl,hown,hb⟩:=hrel;by_cases hlt:i<maps.length
    · obtain⟨g5,cap5,hv5,hbg,_⟩:=hown.form (by omega);injection hv5 with e1 _ e3
      subst e1 e3;have hl66:(dmRows (markTo k i maps)).length=maps.length*66:=by
       rw[Bv (fun m hm=>by obtain⟨o,ho,_,h2⟩:=CZ hm;rw[h2];exact h64 o ho),BU]
      have h64':∀m∈markTo k i maps,m.bits.length=64:=fun m hm=>by obtain⟨o,ho,_,h2⟩:=CZ hm;rw[h2];exact h64 o ho
      have c0:wr.cell? ⟨g5,i*dmN+2+k,none⟩=some (dmRows (markTo k i maps))[i*66+(2+k)]:=by
       rw[show i*dmN+2+k=i*66+(2+k) by unfold dmN;omega];exact Ge hown (i*66+(2+k)) (by omega)
      have f0:wr.frozen? ⟨g5,i*dmN+2+k,none⟩=false:=Gf hown _;have h1:=Gg hown (i*66+(2+k)) (by omega) (.bool true);rw[JY _ h64' i k (by rw[BU];exact hlt) hk true,Lt hlt,Lu hlt,show i*66+(2+k)=i*dmN+2+k by unfold dmN;omega]at h1;have b1:=hb.setCell (p:=⟨g5,i*dmN+2+k,none⟩) hbg (.bool true);generalize (dmRows (markTo k i maps))[i*66+(2+k)]=o5 at c0;clear h64' hl66;go_wp2_with fail
      go_roundw
      case rel=>exact⟨i+1,by omega,by go_num,h1,b1⟩
      case measure=>simp[intOf];omega
    · obtain rfl:i=maps.length:=by omega
      obtain⟨R,hR,hms,hoff⟩:=KO (l:=markTo k maps.length maps) (by rw[BU];exact hown) (fun m hm=>by obtain⟨o,ho,_,h2⟩:=CZ hm;rw[h2];exact h64 o ho) (fun m hm=>by obtain⟨o,ho,h2,_⟩:=CZ hm;rw[h2];exact hnm o ho);rw[BU]at hR;injection hR with e1 _ e3
      obtain⟨RA,RC⟩:=R;simp only at e1 e3;subst e1 e3;have x6:=x.below hb x.lt;have r6:=r.below hb r.lt;have d6:=dV.below (hb.mono (Nat.le_refl _));have b6:=bt hbV hb;have oX:=hap w.heap.size (Nat.le_refl _);have oR:=hap (w.heap.size+1) (by omega);have dx:=oX.1;have dr:=oR.1;have mx:=hoff w.heap.size (by omega);have mr:=hoff (w.heap.size+1) (by omega);clear hown h64 hnm hrow hnil hap oX oR xk rk rkf x r hB;have x6k:=Aa x6;have x6kf:=x6.fz;have b6_1:=(b6).setCell (p:=⟨w.heap.size,9,none⟩) (by show _<=(w.heap.size:Nat);omega) (.slice A5 maps.length c5);have d6_2:=d6.o1 b6_1;have hms_3:=hms.o1 b6_1;have x6_4:=(x6).set 9 (.slice A5 maps.length c5);simp only[Ye]at x6_4;have x6k_4:=Aa x6_4;have r6_5:=Yx r6 b6_1;have r6k_5:=Aa r6_5;have r6kf_5:=r6_5.fz;have b6_6:=As b6_1 (g:=w.heap.size+1) (by omega) (.string (bs D.data)) (.slice A1 D.cache.length a1) (.int .i64 D.fuse) (.bool D.off) (.slice A2 D.bad.length a2) (.int .i64 g) (.int .i64 hh) (.int .u64 seq) (.int .i64 pos) (.slice A5 maps.length c5) (.bool br);have d6_7:=d6_2.oc b6_6;have hms_8:=hms_3.oc b6_6;have r6_10:=Yh r6_5 b6_6;have yy:=Aa r6_10;have bw:=b6_6;have dw:=d6_7;have mw:=hms_8;go_wp2_with fail
      refine bodyPost_ret (v:=.agg #[.string (bs D.data),.slice A1 D.cache.length a1,.int .i64 D.fuse,.bool D.off,.slice A2 D.bad.length a2,.int .i64 g,.int .i64 hh,.int .u64 seq,.int .i64 pos,.slice A5 maps.length c5,.bool br]) (by simp[results,Tryz.results54,go_sem,yy]) rfl ?_;rw[Hr.out];refine⟨⟨⟨A5,c5⟩,by simp[BU],⟨dw,mw⟩,fun g' h1 h2=>⟨h2.1,hoff g' (by omega)⟩⟩,bw⟩
def placeN (D:Dk)(k off:Int)(s:List UInt8):Nat->Dk×Int
 |0=>(D,0)
 |1=>Im.placeAt k off s 0 D
 |_=>Im.place D k off s
theorem Md (D:Dk)(k off:Int)(s:List UInt8){i:Nat}(hi:i<2)(h:(placeN D k off s i).2=0):placeN D k off s (i+1)=Im.placeAt k off s i (placeN D k off s i).1:=by
 match i,hi with
 |0,_=>rfl
 |1,_=>
  have h':(Im.placeAt k off s 0 D).2=0:=h;show Dk.next (Im.placeAt k off s 0 D) _=_;rw[Dk.next_zero h'];rfl
theorem Me (D:Dk)(k off:Int)(s:List UInt8){i:Nat}(hi:i<2)(h:(placeN D k off s (i+1)).2≠0):Im.place D k off s=placeN D k off s (i+1):=by
 match i,hi with
 |0,_=>
  have h':(Im.placeAt k off s 0 D).2≠0:=h;show Dk.next (Im.placeAt k off s 0 D) _=Im.placeAt k off s 0 D;rw[Dk.next,if_pos h']
 |1,_=>rfl
theorem Mc {D:Dk}(hD:D.fit=true)(k off:Int)(s:List UInt8)(i:Nat):(placeN D k off s i).1.fit=true:=by
 match i with
 |0=>exact hD
 |1=>exact Im.placeAt_fit hD k off s 0
 |i+2=>exact Im.place_fit hD k off s
theorem Ma {D:Dk}{k at9:Int}{s:List UInt8}{off i m a b:Nat}(hm:64*i=m)(ha:max off m=a)(hb:min (off+s.length) (m+64)=b)(h:b<=a):Im.placeAt k off s i D=(D,0):=by
 rw[Im.placeAt,if_pos (by omega)]
theorem L9 {D:Dk}{k at9:Int}{s:List UInt8}{off i m a b:Nat}(hk:96+2*k=at9)(hm:64*i=m)(ha:max off m=a)(hb:min (off+s.length) (m+64)=b)(h:¬b<=a)(he:(D.read (at9+i)).2≠0):Im.placeAt k off s i D=(D,(D.read (at9+i)).2):=by
 rw[Im.placeAt,if_neg (by omega),hk,if_pos he]
theorem Mb {D:Dk}{k at9:Int}{s:List UInt8}{off i m a b u v z:Nat}(hk:96+2*k=at9)(hm:64*i=m)(ha:max off m=a)(hb:min (off+s.length) (m+64)=b)(h:¬b<=a)(hu:a-off=u)(hv:b-off=v)(hz:a-m=z)(he:(D.read (at9+i)).2=0):
 Im.placeAt k off s i D=D.write (at9+i) (over (D.read (at9+i)).1 z ((s.take v).drop u)):=by
 have e1:(max (off:Int) ((i:Int)*64)-(i:Int)*64).toNat=z:=by omega
 have e2:(min ((off:Int)+(s.length:Int)) (((i:Int)+1)*64)-(off:Int)).toNat=v:=by omega
 have e3:(max (off:Int) ((i:Int)*64)-(off:Int)).toNat=u:=by omega
 rw[Im.placeAt,if_neg (by omega),hk,if_neg (by rw[he];simp),e1,e2,e3]
theorem MG (x:Im)(p q r:Pl)(w:World)(hI:IsIm w x p q r)(hf:x.d.fit=true)(k off:Int)(s:List UInt8)(hk:0<=k/\k<256)(ho:0<=off)(hs:off+s.length<=128):
 Calls Tryz.prog 58 #[imval x p q r,.int .i64 k,.int .i64 off,.string (bs s)] w fun e w'=>RetIm w.heap.size x p q r ({x with d:=(Im.place x.d k off s).1},(Im.place x.d k off s).2) e w'/\Below w.heap.size w w':=by
 have hap:=fun g (hg:w.heap.size<=g)=>hI.apart hg
 have hat:=fun W=>BH k (by omega) (by omega) W
 obtain⟨at9,h9⟩:∃at9:Int,96+2*k=at9:=⟨_,rfl⟩;have Hk9:=hid h9;have h9b: -10000<=at9/\at9<=10000:=by omega
 rw[h9]at hat;clear h9;obtain⟨D,g,h,⟨seq,pos⟩,maps,br⟩:=x;obtain⟨hd,hm⟩:=hI;simp only at hap hf hd hm;have Hdk:=hid (fun(W:World)(E:Dk)(P Q:Pl)(hD:IsDk W E P Q)(hE:E.fit=true)(a:Int)=>Dg E P Q W hD a (Dk.fit_parts hE).2.2.1);have Hwr:=hid (fun(W:World)(E:Dk)(P Q:Pl)(hD:IsDk W E P Q)(a:Int)(ha: -9223372036854775808<=a/\a<=9223372036854775807)(T:List UInt8)(hT:T.length<=9223372036854775807)=>Dh E P Q W hD a ha T hT);have Hfit:=hid (fun i=>Mc hf k off s i);have Hnext:=hid (fun i (hi:i<2)(h:(placeN D k off s i).2=0)=>Md D k off s hi h);have Hstop:=hid (fun i (hi:i<2)(h:(placeN D k off s (i+1)).2≠0)=>Me D k off s hi h);obtain⟨off,rfl⟩:=Int.eq_ofNat_of_zero_le ho;clear hf ho;obtain⟨A1,a1⟩:=p;obtain⟨A2,a2⟩:=q;obtain⟨A3,a3⟩:=r;have hB:=Below.refl w.heap.size w;have x:=Blk.new w 33 #[.string (bs D.data),.slice A1 D.cache.length a1,.int .i64 D.fuse,.bool D.off,.slice A2 D.bad.length a2,.int .i64 g,.int .i64 h,.int .u64 seq,.int .i64 pos,.slice A3 maps.length a3,.bool br];have xk:=Aa x;have xkf:=x.fz;have hB_1:=Ya hB x;have hd_2:=hd.below (Yb hB_1);have hm_3:=hm.below (Yb hB_1);have r:=Yd hB_1 33 #[.string (bs []),.slice none 0 0,.int .i64 0,.bool false,.slice none 0 0,.int .i64 0,.int .i64 0,.int .u64 0,.int .i64 0,.slice none 0 0,.bool false];simp only[Ys]at r;have rk:=Aa r;have rkf:=r.fz;have hB_4:=Ya hB_1 r;have hd_5:=hd_2.below (Yb hB_4);have hm_6:=hm_3.below (Yb hB_4);have x_7:=Yc x hB_4;go_enter Tryz.func58,Tryz.ntmps58;go_wp2_with fail
 go_loopw [10] (fun u W=>∃(i:Nat)(E:Dk)(P Q:Pl),i<=2/\u=.int .i64 i/\Hid (placeN D k off s i=(E,0))/\Blk W w.heap.size 33 #[.string (bs E.data),.slice P.a E.cache.length P.c,.int .i64 E.fuse,.bool E.off,.slice Q.a E.bad.length Q.c,.int .i64 g,.int .i64 h,.int .u64 seq,.int .i64 pos,.slice A3 maps.length a3,.bool br]/\Blk W (w.heap.size+1) 33 #[.string (bs []),.slice none 0 0,.int .i64 0,.bool false,.slice none 0 0,.int .i64 0,.int .i64 0,.int .u64 0,.int .i64 0,.slice none 0 0,.bool false]/\IsDk W E P Q/\IsMs W maps ⟨A3,a3⟩/\(∀g',g'<w.heap.size+2->DkOff g' D ⟨A1,a1⟩ ⟨A2,a2⟩->DkOff g' E P Q)/\Below w.heap.size w W) (fun u _=>2-(intOf u).toNat)
 case atStart=>exact⟨0,D,⟨A1,a1⟩,⟨A2,a2⟩,by omega,rfl,hid rfl,x_7,r,hd_5,hm_6,fun _ _ h=>h,hB_4⟩
 case round=>
  clear x_7 r rk hd_5 hm_6 hB_4 xkf rkf;obtain⟨i,E,⟨P1,c1⟩,⟨Q1,d1⟩,hi,rfl,HE,x,r,ds,ms,HO,b⟩:=hrel;simp only at x;have ox:=HO w.heap.size (by omega) (hap _ (Nat.le_refl _)).1;have or:=HO (w.heap.size+1) (by omega) (hap _ (by omega)).1;have mx:=(hap w.heap.size (Nat.le_refl _)).2;have mr:=(hap (w.heap.size+1) (by omega)).2;have xk:=Aa x;have xkf:=x.fz;have rk:=Aa r;have rkf:=r.fz;by_cases hlt:i<2
  · have hEf:E.fit=true:=by have:=Hfit.out i;rw[HE.out]at this;exact this
    have hnx:=Hnext.out i hlt (by rw[HE.out]);rw[HE.out]at hnx;simp only at hnx;obtain⟨m,hm64⟩:∃m:Nat,64*i=m:=⟨_,rfl⟩;have em:(i:Int)*64=(m:Int):=by omega
    have em1:((i:Int)+1)*64=(m:Int)+64:=by omega
    obtain⟨a,ha⟩:∃a:Nat,max off m=a:=⟨_,rfl⟩;obtain⟨bb,hbb⟩:∃b:Nat,min (off+s.length) (m+64)=b:=⟨_,rfl⟩;have q1:max (off:Int) (m:Int)=(a:Int):=by omega
    have q2:min ((off:Int)+(s.length:Int)) ((m:Int)+64)=(bb:Int):=by omega
    have q3:a<=128/\bb<=128/\m<=64:=by omega
    by_cases hba:bb<=a
    · have Hn:=hid (show placeN D k off s (i+1)=(E,0)from hnx.trans (Ma (at9:=at9) hm64 ha hbb hba));have g1:decide (bb<=a)=true:=decide_eq_true hba;clear Hdk Hwr hat Hfit Hstop Hnext hnx HE ha hbb Hk9;go_wp2_with fail
      go_roundw
      case rel=>exact⟨i+1,E,⟨P1,c1⟩,⟨Q1,d1⟩,by omega,by go_num,Hn,x,r,ds,ms,HO,b⟩
      case measure=>simp[intOf];omega
    · have g1:decide (bb<=a)=false:=decide_eq_false hba;have hrd:=fun(W:World)(hW:Below wr.heap.size wr W)=>Hdk.out W E ⟨P1,c1⟩ ⟨Q1,d1⟩ ((ds).below hW) hEf (at9+(i:Int))
      have hTl:=Dk.read_len hEf (at9+(i:Int));have hfull:=fun he=>Dk.read_full hEf (k:=at9+(i:Int)) he
      have Hbad:=hid (fun he=>hnx.trans (L9 (D:=E) Hk9.out hm64 ha hbb hba he));obtain⟨u,hu⟩:∃u:Nat,a-off=u:=⟨_,rfl⟩;obtain⟨v,hv⟩:∃v:Nat,bb-off=v:=⟨_,rfl⟩;obtain⟨z,hz⟩:∃z:Nat,a-m=z:=⟨_,rfl⟩;have Hgood:=hid (fun he=>hnx.trans (Mb (D:=E) Hk9.out hm64 ha hbb hba hu hv hz he));have q4:(a:Int)-(m:Int)=(z:Int):=by omega
      have q5:(a:Int)-(off:Int)=(u:Int):=by omega
      have q6:(bb:Int)-(off:Int)=(v:Int):=by omega
      have q7:u<=v/\v<=s.length/\s.length<=128/\z<=64/\z+(v-u)<=64:=by omega
      have wA:=i64w (x:=at9+(i:Int)) ⟨by omega,by omega⟩;generalize hR:E.read (at9+(i:Int))=R at hrd hTl hfull Hbad Hgood;clear hR;obtain⟨T,er⟩:=R;simp only at hrd hTl hfull Hbad Hgood;clear Hnext hnx ha hbb hu hv hz Hdk;go_wp2_with fail
      have X11:=DQ x;have D1:=fun e:Ext wr=>hat e.world
      have D2:=fun e:Ext wr=>hrd e.world e.below
      refine Ay mixed (by kernel_rfl) ?_
      repeat (go_big_quiet_step (((first|(go_at_call 63;with_reducible exact Al (D1 _))|(go_at_call 98;with_reducible exact Al (D2 _))))))
      refine wpQuiet_nil ?_;rintro V1 ⟨pq_,hpq_⟩;have hb1:=pq_.below;rw[<-hpq_]at hb1;clear hpq_ pq_;clear X11 D1 D2 hrd;replace b:=bt b hb1;replace ds:=ds.below hb1;replace ms:=ms.below hb1;replace x:=x.below hb1 x.lt;replace xk:=Aa x;replace xkf:=x.fz;replace r:=r.below hb1 r.lt;replace rk:=Aa r;replace rkf:=r.fz;by_cases he:er=0
      · subst he;have h64:=hfull rfl;have hov:Pn.laidOver T (z:Int) ((s.take v).drop u)=(over T z ((s.take v).drop u),0):=by rw[Pn.laidOver,if_neg (by simp only[List.length_drop,List.length_take];omega),Int.toNat_natCast]
        have hul:((s.take v).drop u).length<=128:=by simp only[List.length_drop,List.length_take];omega
        have how:=fun W=>El T ((s.take v).drop u) (z:Int) W (by omega) (by omega)
        rw[hov]at how;clear hov;have hT9:(over T z ((s.take v).drop u)).length<=1000:=by simp only[over,List.length_append,List.length_drop,List.length_take];omega
        replace Hgood:=hid (Hgood.out rfl);generalize hU9:(s.take v).drop u=U9 at*;generalize over T z U9=T9 at how hT9 Hgood;clear Hbad hTl hul hfull h64;go_wp2_with fail
        go_at_call 61;refine((how _)).mono ?_;rintro e wb ⟨rfl,hbb2⟩;replace b:=bt b hbb2;replace ds:=ds.below hbb2;replace ms:=ms.below hbb2;replace x:=x.below hbb2 x.lt;replace xk:=Aa x;replace xkf:=x.fz;replace r:=r.below hbb2 r.lt;replace rk:=Aa r;replace rkf:=r.fz;go_upto_region 11 with fail
        have wds:=ds;have hwr:=fun(W:World)(hW:Below wb.heap.size wb W)=>Hwr.out W E ⟨P1,c1⟩ ⟨Q1,d1⟩ (wds.below hW) (at9+(i:Int)) (by omega) T9 (by omega)
        generalize hFE:E.write (at9+(i:Int)) T9=FE at hwr Hgood;obtain⟨F,ew⟩:=FE;obtain⟨wk,hwk⟩:∃wk:Int,at9+(i:Int)=wk:=⟨_,rfl⟩;clear hFE;simp only[hwk]at hwr wA ⊢;replace hap:=fun g (hg:wb.heap.size<=g)=>wds.apart hg
        have xq:=x;have KX:=hid (fun(W:World)(hW:Below wb.heap.size wb W)=>Aa (xq.below hW xq.lt));clear xk rk xkf rkf
        go_cut [15,14] (fun sa sb W=>∃(gz:Nat)(p9 q9:Pl),sa=.pointer (some ⟨gz,0,none⟩)/\sb=.int .i64 ew/\wb.heap.size<=gz/\Blk W gz 25 #[.string (bs F.data),.slice p9.a F.cache.length p9.c,.int .i64 F.fuse,.bool F.off,.slice q9.a F.bad.length q9.c]/\IsDk W F p9 q9/\(∀g',g'<wb.heap.size->DkOff g' E ⟨P1,c1⟩ ⟨Q1,d1⟩->DkOff g' F p9 q9)/\Below wb.heap.size wb W)
        case first=>
         have KX:=KX.out;clear HO Hgood Hstop Hfit Hwr HE r ms;have s0:Below wb.heap.size wb wb.drew:=(Below.refl _ _).drew;refine AT (S:=fun W=>Below wb.heap.size wb W) (late:=fun _=>false) (by kernel_rfl) ?_;generalize wb.drew=U0 at s0 ⊢;simp only[Nat.reduceAdd,Yn];refine Yt 0 67 (.pointer (some ⟨w.heap.size,0,none⟩)) ?_;simp only[Yf];refine Yu 1 (some 68) (dval E ⟨P1,c1⟩ ⟨Q1,d1⟩) rfl (fun W hW=>by have h:=KX W hW;go_simp) s0 ?_;simp only[Yf];refine Yt 2 69 (.int .i64 k) ?_;simp only[Yf];refine Yt 4 71 (.int .i64 (i:Int)) ?_;simp only[Yf];refine Yt 6 73 (.string (bs T9)) ?_;simp only[Yf];refine AG (i:=3) (k:=11) (by kernel_rfl) rfl rfl rfl rfl (fun K hK=>?_) (fun K hK=>?_)
         · skip
           refine oper_enter' (f:=63) (args:=#[.int .i64 k]) (w':=U0) (by go_simp) ((hat U0).mono ?_);rintro e U1 ⟨rfl,hb0⟩;refine⟨_,rfl,?_⟩;show K (Act.put _ (some 70) _) _;have s1:=bt s0 hb0;refine hK _ _ (fun _ _=>s1) ?_;simp only[Yf];refine Yt 5 72 (.int .i64 wk) ?_;simp only[Yf];refine AG (i:=7) (k:=11) (by kernel_rfl) rfl rfl rfl rfl (fun K hK=>?_) (fun K hK=>?_)
           · skip
             refine oper_enter' (f:=62) (args:=#[dval E ⟨P1,c1⟩ ⟨Q1,d1⟩,.int .i64 wk,.string (bs T9)]) (w':=U1) (by go_simp) ((hwr U1 s1).mono ?_);rintro e U2 ⟨⟨⟨P9,e9⟩,⟨Q9,f9⟩,rfl,d9,o9⟩,hb1⟩;refine⟨_,rfl,?_⟩;show K (Act.put _ (some 74) _) _;have s2:=bt s1 hb1;have O9:∀g',g'<wb.heap.size->DkOff g' E ⟨P1,c1⟩ ⟨Q1,d1⟩->DkOff g' F ⟨P9,e9⟩ ⟨Q9,f9⟩:=fun g' h1 h2=>o9 g' (Nat.lt_of_lt_of_le h1 s1.size) h2
             refine hK _ _ (fun _ _=>s2) ?_;simp only[Yf];refine Yt 8 66 (.tuple #[dval F ⟨P9,e9⟩ ⟨Q9,f9⟩,.int .i64 ew]) ?_;simp only[Yf];refine Yt 9 75 (dval F ⟨P9,e9⟩ ⟨Q9,f9⟩) ?_;simp only[Yf];refine Yt 10 76 (.int .i64 ew) ?_;simp only[Yf];refine Yo 11 (fun K hK=>?_);refine An (v:=.pointer (some ⟨U2.heap.size,0,none⟩)) (w':=U2.alloc (.cells #[.string (bs []),.slice none 0 0,.int .i64 0,.bool false,.slice none 0 0] 25)) (by go_simp) ?_;show K (Act.put _ (some 15) _) _;have s3:=s2.alloc s2.size (.cells #[.string (bs []),.slice none 0 0,.int .i64 0,.bool false,.slice none 0 0] 25);have bz:=Blk.new U2 25 #[.string (bs []),.slice none 0 0,.int .i64 0,.bool false,.slice none 0 0];have gz0:wb.heap.size<=U2.heap.size:=s2.size;have og:=d9.apart (Nat.le_refl U2.heap.size);replace d9:=d9.below (Yb s3);refine hK _ _ (fun _ _=>s3) ?_;generalize U2.alloc (.cells #[.string (bs []),.slice none 0 0,.int .i64 0,.bool false,.slice none 0 0] 25)=U3 at s3 bz d9 ⊢;generalize U2.heap.size=gz at bz gz0 og ⊢;simp only[Yf];refine Yo 12 (fun K hK=>?_);have Yy:=Ao bz (.string (bs F.data)) (.slice P9 F.cache.length e9) (.int .i64 F.fuse) (.bool F.off) (.slice Q9 F.bad.length f9);refine Yq Yy (by have H:=Yk5 bz Yy;go_simp) ?_;show K (Act.put _ none _) _;have bz5:=Yy;have bw:=Ym5 s3 Yy gz0;have d5:=d9.ob bw og;refine hK _ _ (fun _ _=>bw) ?_
             try simp only[Yf]
             refine Yt 13 14 (.int .i64 ew) ?_;simp only[Yf];refine Ar (by kernel_rfl) ?_ _;go_wp2_with fail
             go_meet
             exact⟨gz,⟨P9,e9⟩,⟨Q9,f9⟩,rfl,rfl,gz0,bz5,d5,O9,bw⟩
           · skip
             refine An (v:=.pointer (some ⟨U1.heap.size,0,none⟩)) (w':=U1.alloc (.cells #[.string (bs []),.slice none 0 0,.int .i64 0,.bool false,.slice none 0 0] 25)) (by go_simp) ?_;show K (Act.put _ (some 15) _) _;have s2:=s1.alloc s1.size (.cells #[.string (bs []),.slice none 0 0,.int .i64 0,.bool false,.slice none 0 0] 25);have bz:=Blk.new U1 25 #[.string (bs []),.slice none 0 0,.int .i64 0,.bool false,.slice none 0 0];have gz0:wb.heap.size<=U1.heap.size:=s1.size;refine hK _ _ (fun _ _=>s2) ?_;generalize U1.alloc (.cells #[.string (bs []),.slice none 0 0,.int .i64 0,.bool false,.slice none 0 0] 25)=U2 at s2 bz ⊢;generalize U1.heap.size=gz at bz gz0 ⊢;simp only[Yf];refine Yo 7 (fun K hK=>?_);refine oper_enter' (f:=62) (args:=#[dval E ⟨P1,c1⟩ ⟨Q1,d1⟩,.int .i64 wk,.string (bs T9)]) (w':=U2) (by go_simp) ((hwr U2 s2).mono ?_);rintro e U3 ⟨⟨⟨P9,e9⟩,⟨Q9,f9⟩,rfl,d9,o9⟩,hb2⟩;refine⟨_,rfl,?_⟩;show K (Act.put _ (some 74) _) _;have s3:=bt s2 hb2;have O9:∀g',g'<wb.heap.size->DkOff g' E ⟨P1,c1⟩ ⟨Q1,d1⟩->DkOff g' F ⟨P9,e9⟩ ⟨Q9,f9⟩:=fun g' h1 h2=>o9 g' (Nat.lt_of_lt_of_le h1 s2.size) h2
             have og:DkOff gz F ⟨P9,e9⟩ ⟨Q9,f9⟩:=o9 gz bz.lt (hap gz gz0);replace bz:=bz.below hb2 bz.lt;refine hK _ _ (fun _ _=>s3) ?_;simp only[Yf];refine Yt 8 66 (.tuple #[dval F ⟨P9,e9⟩ ⟨Q9,f9⟩,.int .i64 ew]) ?_;simp only[Yf];refine Yt 9 75 (dval F ⟨P9,e9⟩ ⟨Q9,f9⟩) ?_;simp only[Yf];refine Yt 10 76 (.int .i64 ew) ?_;simp only[Yf];refine Yo 12 (fun K hK=>?_);have Yy:=Ao bz (.string (bs F.data)) (.slice P9 F.cache.length e9) (.int .i64 F.fuse) (.bool F.off) (.slice Q9 F.bad.length f9);refine Yq Yy (by have H:=Yk5 bz Yy;go_simp) ?_;show K (Act.put _ none _) _;have bz5:=Yy;have bw:=Ym5 s3 Yy gz0;have d5:=d9.ob bw og;refine hK _ _ (fun _ _=>bw) ?_
             try simp only[Yf]
             refine Yt 13 14 (.int .i64 ew) ?_;simp only[Yf];refine Ar (by kernel_rfl) ?_ _;go_wp2_with fail
             go_meet
             exact⟨gz,⟨P9,e9⟩,⟨Q9,f9⟩,rfl,rfl,gz0,bz5,d5,O9,bw⟩
         · skip
           refine An (v:=.pointer (some ⟨U0.heap.size,0,none⟩)) (w':=U0.alloc (.cells #[.string (bs []),.slice none 0 0,.int .i64 0,.bool false,.slice none 0 0] 25)) (by go_simp) ?_;show K (Act.put _ (some 15) _) _;have s1:=s0.alloc s0.size (.cells #[.string (bs []),.slice none 0 0,.int .i64 0,.bool false,.slice none 0 0] 25);have bz:=Blk.new U0 25 #[.string (bs []),.slice none 0 0,.int .i64 0,.bool false,.slice none 0 0];have gz0:wb.heap.size<=U0.heap.size:=s0.size;refine hK _ _ (fun _ _=>s1) ?_;generalize U0.alloc (.cells #[.string (bs []),.slice none 0 0,.int .i64 0,.bool false,.slice none 0 0] 25)=U1 at s1 bz ⊢;generalize U0.heap.size=gz at bz gz0 ⊢;simp only[Yf];refine Yo 3 (fun K hK=>?_);refine oper_enter' (f:=63) (args:=#[.int .i64 k]) (w':=U1) (by go_simp) ((hat U1).mono ?_);rintro e U2 ⟨rfl,hb1⟩;refine⟨_,rfl,?_⟩;show K (Act.put _ (some 70) _) _;have s2:=bt s1 hb1;replace bz:=bz.below hb1 bz.lt;refine hK _ _ (fun _ _=>s2) ?_;simp only[Yf];refine Yt 5 72 (.int .i64 wk) ?_;simp only[Yf];refine Yo 7 (fun K hK=>?_);refine oper_enter' (f:=62) (args:=#[dval E ⟨P1,c1⟩ ⟨Q1,d1⟩,.int .i64 wk,.string (bs T9)]) (w':=U2) (by go_simp) ((hwr U2 s2).mono ?_);rintro e U3 ⟨⟨⟨P9,e9⟩,⟨Q9,f9⟩,rfl,d9,o9⟩,hb2⟩;refine⟨_,rfl,?_⟩;show K (Act.put _ (some 74) _) _;have s3:=bt s2 hb2;have O9:∀g',g'<wb.heap.size->DkOff g' E ⟨P1,c1⟩ ⟨Q1,d1⟩->DkOff g' F ⟨P9,e9⟩ ⟨Q9,f9⟩:=fun g' h1 h2=>o9 g' (Nat.lt_of_lt_of_le h1 s2.size) h2
           have og:DkOff gz F ⟨P9,e9⟩ ⟨Q9,f9⟩:=o9 gz bz.lt (hap gz gz0);replace bz:=bz.below hb2 bz.lt;refine hK _ _ (fun _ _=>s3) ?_;simp only[Yf];refine Yt 8 66 (.tuple #[dval F ⟨P9,e9⟩ ⟨Q9,f9⟩,.int .i64 ew]) ?_;simp only[Yf];refine Yt 9 75 (dval F ⟨P9,e9⟩ ⟨Q9,f9⟩) ?_;simp only[Yf];refine Yt 10 76 (.int .i64 ew) ?_;simp only[Yf];refine Yo 12 (fun K hK=>?_);have Yy:=Ao bz (.string (bs F.data)) (.slice P9 F.cache.length e9) (.int .i64 F.fuse) (.bool F.off) (.slice Q9 F.bad.length f9);refine Yq Yy (by have H:=Yk5 bz Yy;go_simp) ?_;show K (Act.put _ none _) _;have bz5:=Yy;have bw:=Ym5 s3 Yy gz0;have d5:=d9.ob bw og;refine hK _ _ (fun _ _=>bw) ?_
           try simp only[Yf]
           refine Yt 13 14 (.int .i64 ew) ?_;simp only[Yf];refine Ar (by kernel_rfl) ?_ _;go_wp2_with fail
           go_meet
           exact⟨gz,⟨P9,e9⟩,⟨Q9,f9⟩,rfl,rfl,gz0,bz5,d5,O9,bw⟩
        obtain⟨gz,⟨P9,e9⟩,⟨Q9,f9⟩,rfl,rfl,gz0,bz5,d5,O9,bw9⟩:=hcut;have hrl9:=r.lt;clear Hfit Hwr hwr hat HE hap KX Hk9 wds;replace b:=bt b bw9;replace x:=x.below bw9 x.lt;replace r:=r.below bw9 r.lt;replace ms:=ms.below bw9;have gk:=blk5 bz5;have ox9:=O9 w.heap.size (by omega) ox;have or9:=O9 (w.heap.size+1) (by omega) or;clear gz0;have xk:=Aa x;have xkf:=x.fz;have rk:=Aa r;have rkf:=r.fz;have b_1:=(((((b).setCell (p:=⟨w.heap.size,0,none⟩) (by show _<=(w.heap.size:Nat);omega) (.string (bs F.data))).setCell (p:=⟨w.heap.size,1,none⟩) (by show _<=(w.heap.size:Nat);omega) (.slice P9 F.cache.length e9)).setCell (p:=⟨w.heap.size,2,none⟩) (by show _<=(w.heap.size:Nat);omega) (.int .i64 F.fuse)).setCell (p:=⟨w.heap.size,3,none⟩) (by show _<=(w.heap.size:Nat);omega) (.bool F.off)).setCell (p:=⟨w.heap.size,4,none⟩) (by show _<=(w.heap.size:Nat);omega) (.slice Q9 F.bad.length f9);have ms_2:=ms.ob b_1;have d5_3:=d5.ob b_1;have x_4:=(((((x).set 0 (.string (bs F.data))).set 1 (.slice P9 F.cache.length e9)).set 2 (.int .i64 F.fuse)).set 3 (.bool F.off)).set 4 (.slice Q9 F.bad.length f9);simp only[Ye]at x_4;have xk_4:=Aa x_4;have r_5:=Yi r b_1;have rk_5:=Aa r_5;have rkf_5:=r_5.fz;by_cases hw0:ew=0
        · subst hw0;have Hn:=hid (show placeN D k off s (i+1)=(F,0)from Hgood.out);clear Hstop Hgood;go_wp2_with fail
          go_roundw
          case rel=>exact⟨i+1,F,⟨P9,e9⟩,⟨Q9,f9⟩,by omega,by go_num,Hn,x_4,r_5,d5_3,ms_2,fun g' h1 h2=>O9 g' (by omega) (HO g' h1 h2),b_1⟩
          case measure=>simp[intOf];omega
        · have n1:(ew !=0)=true:=bne_iff_ne.2 hw0;have Hr:=hid (show Im.place D k off s=(F,ew) by rw[Hstop.out i hlt (by rw[Hgood.out];exact hw0),Hgood.out]);clear Hstop Hgood hw0;go_wp2_with fail
          have b_6:=As b_1 (g:=w.heap.size+1) (by omega) (.string (bs F.data)) (.slice P9 F.cache.length e9) (.int .i64 F.fuse) (.bool F.off) (.slice Q9 F.bad.length f9) (.int .i64 g) (.int .i64 h) (.int .u64 seq) (.int .i64 pos) (.slice A3 maps.length a3) (.bool br);have ms_7:=ms_2.oc b_6;have d5_8:=d5_3.oc b_6;have r_10:=Yh r_5 b_6;have yy:=Aa r_10;have bw:=b_6;have dw:=d5_8;have mw:=ms_7;go_wp2_with fail
          refine bodyPost_ret (v:=.tuple #[imval ⟨F,g,h,⟨seq,pos⟩,maps,br⟩ ⟨P9,e9⟩ ⟨Q9,f9⟩ ⟨A3,a3⟩,.int .i64 ew]) (by simp[results,Tryz.results58,go_sem,yy]) rfl ?_;rw[Hr.out];exact⟨⟨⟨P9,e9⟩,⟨Q9,f9⟩,⟨A3,a3⟩,rfl,⟨dw,mw⟩,fun g' h1 h2=>⟨O9 g' (by omega) (HO g' (by omega) h2.1),h2.2⟩⟩,bw⟩
      · have n1:(er !=0)=true:=bne_iff_ne.2 he;have H1:=hid (Hbad.out he);have Hr:=hid (show Im.place D k off s=(E,er) by rw[Hstop.out i hlt (by rw[H1.out];exact he),H1.out]);clear Hstop Hfit Hwr hat HE hap Hbad Hgood H1 he Hk9 hfull;go_wp2_with fail
        have b_1:=As b (g:=w.heap.size+1) (by omega) (.string (bs E.data)) (.slice P1 E.cache.length c1) (.int .i64 E.fuse) (.bool E.off) (.slice Q1 E.bad.length d1) (.int .i64 g) (.int .i64 h) (.int .u64 seq) (.int .i64 pos) (.slice A3 maps.length a3) (.bool br);have ds_2:=ds.oc b_1;have ms_3:=ms.oc b_1;have x_4:=Yg x b_1;have xk_4:=Aa x_4;have r_5:=Yh r b_1;have rk_5:=Aa r_5;have rkf_5:=r_5.fz;have yy:=Aa r_5;have bw:=b_1;have dw:=ds_2;have mw:=ms_3;go_wp2_with fail
        refine bodyPost_ret (v:=.tuple #[imval ⟨E,g,h,⟨seq,pos⟩,maps,br⟩ ⟨P1,c1⟩ ⟨Q1,d1⟩ ⟨A3,a3⟩,.int .i64 er]) (by simp[results,Tryz.results58,go_sem,yy]) rfl ?_;rw[Hr.out];exact⟨⟨⟨P1,c1⟩,⟨Q1,d1⟩,⟨A3,a3⟩,rfl,⟨dw,mw⟩,fun g' h1 h2=>⟨HO g' (by omega) h2.1,h2.2⟩⟩,bw⟩
  · obtain rfl:i=2:=by omega
    have Hr:=hid (show Im.place D k off s=(E,0)from HE.out);clear Hnext Hstop Hfit Hdk Hwr hat HE hap;have b_1:=As b (g:=w.heap.size+1) (by omega) (.string (bs E.data)) (.slice P1 E.cache.length c1) (.int .i64 E.fuse) (.bool E.off) (.slice Q1 E.bad.length d1) (.int .i64 g) (.int .i64 h) (.int .u64 seq) (.int .i64 pos) (.slice A3 maps.length a3) (.bool br);have ds_2:=ds.oc b_1;have ms_3:=ms.oc b_1;have x_4:=Yg x b_1;have xk_4:=Aa x_4;have r_5:=Yh r b_1;have rk_5:=Aa r_5;have rkf_5:=r_5.fz;have yy:=Aa r_5;have bw:=b_1;have dw:=ds_2;have mw:=ms_3;go_wp2_with fail
    refine bodyPost_ret (v:=.tuple #[imval ⟨E,g,h,⟨seq,pos⟩,maps,br⟩ ⟨P1,c1⟩ ⟨Q1,d1⟩ ⟨A3,a3⟩,.int .i64 0]) (by simp[results,Tryz.results58,go_sem,yy]) rfl ?_;rw[Hr.out];exact⟨⟨⟨P1,c1⟩,⟨Q1,d1⟩,⟨A3,a3⟩,rfl,⟨dw,mw⟩,fun g' h1 h2=>⟨HO g' (by omega) h2.1,h2.2⟩⟩,bw⟩
theorem Pn.both_err1 {D:Dk}{L:Pn}{k:Nat}{a e:Int}(h1:Pn.cntGet D L k=(a,e))(he:e≠0):Pn.both D L k=(0,e)/\Pn.stopsAt D L k=true:=by
 have h:Pn.both D L k=(0,e):=by rw[Pn.both,h1,if_pos he]
 exact⟨h,by simp[Pn.stopsAt,h,he]⟩
theorem Pn.both_err2 {D:Dk}{L:Pn}{k:Nat}{a b e:Int}(h1:Pn.cntGet D L k=(a,0))(h2:Pn.cntGet D Pn.none k=(b,e))(he:e≠0):Pn.both D L k=(0,e)/\Pn.stopsAt D L k=true:=by
 have h:Pn.both D L k=(0,e):=by rw[Pn.both,h1,h2,if_neg (by simp),if_pos he]
 exact⟨h,by simp[Pn.stopsAt,h,he]⟩
theorem Pn.both_sum {D:Dk}{L:Pn}{k:Nat}{a b:Int}(h1:Pn.cntGet D L k=(a,0))(h2:Pn.cntGet D Pn.none k=(b,0)):Pn.both D L k=(a+b,0)/\(Pn.stopsAt D L k=decide (a+b=0)):=by
 have h:Pn.both D L k=(a+b,0):=by rw[Pn.both,h1,h2,if_neg (by simp),if_neg (by simp)]
 exact⟨h,by simp[Pn.stopsAt,h]⟩
theorem Pn.find_stop {D:Dk}{L:Pn}{h:Nat}{k:Nat}{a e:Int}(hk:k<h)(hn:∀j,j<k->Pn.stopsAt D L j=false)(hb:Pn.both D L k=(a,e))(hs:Pn.stopsAt D L k=true):Pn.alFind D L h=if e≠0 then(0,e)else((k:Int),0):=by
 rw[Pn.alFind_hit (h:=(h:Int)) (k:=k) (by omega) hs hn,hb]
theorem Pn.next_stop {D:Dk}{L:Pn}{k:Nat}(hn:∀j,j<k->Pn.stopsAt D L j=false)(h:Pn.stopsAt D L k=false):∀j,j<k+1->Pn.stopsAt D L j=false:=fun j hj=>by
 rcases Nat.lt_or_eq_of_le (Nat.le_of_lt_succ hj)with h'|h'
 · exact hn j h'
 · rw[h'];exact h
theorem Ny (D:Dk)(L:Pn)(p q p' q':Pl)(w:World)(hD:IsDk w D p q)(hL:IsPn w L p' q')(hf:D.fit=true)(hfl:L.Fit)(g:Int)(h:Nat)(hh:h<=256):
 Calls Tryz.prog 99 #[dval D p q,pval L p' q',gval g h] w fun e w'=>e=.returned (.tuple #[.int .i64 (Pn.alFind D L h).1,.int .i64 (Pn.alFind D L h).2])/\Below w.heap.size w w':=by
 have hg1:=fun(W:World)(hb:Below w.heap.size w W)(k:Nat)=>Cd D L p q p' q' W (hD.below hb) (hL.below hb) hf hfl k
 have hg2:=fun(W:World)(hb:Below w.heap.size w W)(k:Nat)=>Cd D Pn.none p q ⟨Option.none,0⟩ ⟨Option.none,0⟩ W (hD.below hb) (AQ _) hf Pn.none_fit k
 have Hg1:=hid hg1;have Hg2:=hid hg2;have Hle1:=hid (fun k=>Pn.cntGet_le D L k);have Hle2:=hid (fun k=>Pn.cntGet_le D Pn.none k);clear hg1 hg2 hD hL hf hfl;obtain⟨A1,a1⟩:=p;obtain⟨A2,a2⟩:=q;obtain⟨B1,b1⟩:=p';obtain⟨B2,b2⟩:=q';have hB:=Below.refl w.heap.size w;have x:=Blk.new w 25 #[.string (bs D.data),.slice A1 D.cache.length a1,.int .i64 D.fuse,.bool D.off,.slice A2 D.bad.length a2];have xk:=blk5 x;have hB_1:=Ya hB x;have z:=Yd hB_1 63 #[.slice B1 L.targets.length b1,.slice B2 L.data.length b2];simp only[Ys]at z;have zk:=blk2 z;have hB_2:=Ya hB_1 z;have x_3:=Yc x hB_2;have y:=Yd hB_2 27 #[.int .i64 g,.int .i64 h];simp only[Ys]at y;have yk:=blk2 y;have hB_4:=Ya hB_2 y;have x_5:=Yc x_3 hB_4;have xk_5:=blk5 x_5;have z_6:=Yc z hB_4;have zk_6:=blk2 z_6;go_enter Tryz.func99,Tryz.ntmps99;go_wp2_with fail
 go_loopw [8] (fun v W=>∃m:Nat,m<=h/\v=.int .i64 m/\Hid (∀j,j<m->Pn.stopsAt D L j=false)/\Blk W w.heap.size 25 #[.string (bs D.data),.slice A1 D.cache.length a1,.int .i64 D.fuse,.bool D.off,.slice A2 D.bad.length a2]/\
  Blk W (w.heap.size+1) 63 #[.slice B1 L.targets.length b1,.slice B2 L.data.length b2]/\Blk W (w.heap.size+1+1) 27 #[.int .i64 g,.int .i64 h]/\Below w.heap.size w W) (fun v _=>h-(intOf v).toNat)
 case atStart=>exact⟨0,Nat.zero_le _,rfl,hid (fun j hj=>by omega),x_5,z_6,y,hB_4⟩
 case round=>
  obtain⟨m,hm,rfl,hno,x,z,y,hB⟩:=hrel;by_cases hlt:m<h
  · have q1:=fun W hb=>Hg1.out W hb m
    have q2:=fun W hb=>Hg2.out W hb m
    have l1:=Hle1.out m;have l2:=Hle2.out m;obtain⟨⟨a,e1⟩,hx1⟩:∃x,Pn.cntGet D L m=x:=⟨_,rfl⟩;obtain⟨⟨b,e2⟩,hx2⟩:∃x,Pn.cntGet D Pn.none m=x:=⟨_,rfl⟩;rw[hx1]at q1 l1;rw[hx2]at q2 l2;simp only at q1 q2 l1 l2;have X1:=hid hx1;have X2:=hid hx2;obtain⟨l1a,l1b⟩:=l1;obtain⟨l2a,l2b⟩:=l2;clear hx1 hx2;have xk:=blk5 x;have zk:=blk2 z;have yk:=blk2 y;go_wp2_with fail
    go_at_call 57;refine((q1 _ hB)).mono ?_;rintro e w1 ⟨rfl,hb1⟩;replace hB:=bt hB hb1;replace x:=x.below hb1 x.lt;replace xk:=blk5 x;replace z:=z.below hb1 z.lt;replace zk:=blk2 z;replace y:=y.below hb1 y.lt;replace yk:=blk2 y;by_cases he1:e1=0
    case neg=>
     have n1:(e1 !=0)=true:=by simpa using he1
     have Hr:=hid (show Pn.alFind D L h=(0,e1) by rw[Pn.find_stop hlt hno.out (Pn.both_err1 X1.out he1).1 (Pn.both_err1 X1.out he1).2,if_pos he1]);clear he1;go_wp2_with fail
     go_ret2
     rw[Hr.out];exact⟨rfl,hB⟩
    subst he1;go_wp2_with fail
    go_at_call 57;refine((q2 _ hB)).mono ?_;rintro e w2 ⟨rfl,hb2⟩;replace hB:=bt hB hb2;replace x:=x.below hb2 x.lt;replace xk:=blk5 x;replace z:=z.below hb2 z.lt;replace zk:=blk2 z;replace y:=y.below hb2 y.lt;replace yk:=blk2 y;by_cases he2:e2=0
    case neg=>
     have n1:(e2 !=0)=true:=by simpa using he2
     have Hr:=hid (show Pn.alFind D L h=(0,e2) by rw[Pn.find_stop hlt hno.out (Pn.both_err2 X1.out X2.out he2).1 (Pn.both_err2 X1.out X2.out he2).2,if_pos he2]);clear he2;go_wp2_with fail
     go_ret2
     rw[Hr.out];exact⟨rfl,hB⟩
    subst he2;have Hb:=hid (Pn.both_sum X1.out X2.out);by_cases h1:a=0
    · by_cases h2:b=0
      · subst h1;subst h2;have Hr:=hid (show Pn.alFind D L h=((m:Int),0) by rw[Pn.find_stop hlt hno.out Hb.out.1 (by rw[Hb.out.2];decide),if_neg (by simp)]);go_wp2_with fail
        go_ret2
        rw[Hr.out];exact⟨rfl,hB⟩
      · have n2:(b==0)=false:=by simpa using h2
        have Hn:=hid (Pn.next_stop hno.out (by rw[Hb.out.2];simp;omega));subst h1;clear h2;go_wp2_with fail
        go_roundw
        case rel=>exact⟨m+1,by omega,by go_num,Hn,x,z,y,hB⟩
        case measure=>simp[intOf];omega
    · have n2:(a==0)=false:=by simpa using h1
      have Hn:=hid (Pn.next_stop hno.out (by rw[Hb.out.2];simp;omega));clear h1;go_wp2_with fail
      go_roundw
      case rel=>exact⟨m+1,by omega,by go_num,Hn,x,z,y,hB⟩
      case measure=>simp[intOf];omega
  · obtain rfl:m=h:=by omega
    have Hr:=hid (show Pn.alFind D L m=(0,17)from Pn.alFind_miss (fun j hj=>hno.out j (by omega)));have yk:=blk2 y;go_wp2_with fail
    go_ret2
    rw[Hr.out];exact⟨rfl,hB⟩
theorem GE (D:Dk)(L:Pn)(p q p' q':Pl)(w:World)(hD:IsDk w D p q)(hL:IsPn w L p' q')(hf:D.fit=true)(hfl:L.Fit)(g:Int)(h:Nat)(hh:h<=256):
 Calls Tryz.prog 59 #[dval D p q,pval L p' q',gval g h] w fun e w'=>∃p1 q1,e=.returned (.tuple #[pval (Pn.alTake D L h).1 p1 q1,.int .i64 (Pn.alTake D L h).2.1,.int .i64 (Pn.alTake D L h).2.2])/\IsPn w' (Pn.alTake D L h).1 p1 q1/\(∀x,x<w.heap.size->PnOff x L p' q'->PnOff x (Pn.alTake D L h).1 p1 q1)/\Below w.heap.size w w':=by
 have h1:=fun(W:World)(hb:Below w.heap.size w W)=>Ny D L p q p' q' W (hD.below hb) (hL.below hb) hf hfl g h hh
 have h2:=fun(W:World)(hb:Below w.heap.size w W)(k:Int)(hk: -9223372036854775808<=k/\k<=9223372036854775807)=>Dl D L p q p' q' W (hD.below hb) (hL.below hb) hf hfl k 1 (by omega)
 have Hap:=hid (fun g (hg:w.heap.size<=g)=>hL.apart hg);have Hz:=hid (fun(W:World)(hb:Below w.heap.size w W)=>hL.below hb);have hcs:=Pn.alFind_cases D L h;have Ht:=Pn.alTake.eq_1 D L h;generalize Pn.alFind D L h=S at h1 Ht hcs;obtain⟨k,e1⟩:=S;simp only at h1 Ht hcs;have hk:0<=k/\k<=256:=by
  rcases hcs with ⟨j,hj,e,_⟩|⟨_,e⟩
  · injection e with e _;omega
  · omega
 have Ht:=hid Ht;clear hcs hD hL hf hfl;have h3:=fun(W:World)(hb:Below w.heap.size w W)=>h2 W hb k (by omega)
 clear h2;generalize Pn.cntAdd D L k 1=N at h3 Ht;obtain⟨X,e2⟩:=N;obtain⟨A1,a1⟩:=p;obtain⟨A2,a2⟩:=q;obtain⟨B1,b1⟩:=p';obtain⟨B2,b2⟩:=q';have hB:=Below.refl w.heap.size w;have x:=Blk.new w 25 #[.string (bs D.data),.slice A1 D.cache.length a1,.int .i64 D.fuse,.bool D.off,.slice A2 D.bad.length a2];have xk:=blk5 x;have hB_1:=Ya hB x;have z:=Yd hB_1 63 #[.slice B1 L.targets.length b1,.slice B2 L.data.length b2];simp only[Ys]at z;have zk:=blk2 z;have hB_2:=Ya hB_1 z;have x_3:=Yc x hB_2;have y:=Yd hB_2 27 #[.int .i64 g,.int .i64 h];simp only[Ys]at y;have hB_4:=Ya hB_2 y;have x_5:=Yc x_3 hB_4;have z_6:=Yc z hB_4;have r:=Yd hB_4 63 #[.slice Option.none 0 0,.slice Option.none 0 0];simp only[Ys]at r;have rk:=blk2 r;have rkf:=r.fz;have hB_7:=Ya hB_4 r;have x_8:=Yc x_5 hB_7;have xk_8:=blk5 x_8;have z_9:=Yc z_6 hB_7;have zk_9:=blk2 z_9;have y_10:=Yc y hB_7;have yk_10:=blk2 y_10;go_enter Tryz.func59,Tryz.ntmps59;go_wp2_with fail
 go_at_call 99;refine((h1 _ hB_7)).mono ?_;rintro e w1 ⟨rfl,hb1⟩;replace hB:=bt hB_7 hb1;replace x:=x_8.below hb1 x_8.lt;replace xk:=blk5 x;replace z:=z_9.below hb1 z_9.lt;replace zk:=blk2 z;replace y:=y_10.below hb1 y_10.lt;replace r:=r.below hb1 r.lt;replace rk:=blk2 r;replace rkf:=r.fz;clear hB_1 hB_2 x_3 hB_4 x_5 z_6 hB_7 xk_8 x_8 zk_9 z_9 yk_10 y_10;have rl:w.heap.size+1+1+1<w1.heap.size:=r.lt;by_cases he:e1=0
 case neg=>
  have n1:(e1 !=0)=true:=by simpa using he
  have Hr:=hid (show Pn.alTake D L h=(L,0,e1) by rw[Ht.out,if_pos he]);clear he;go_wp2_with fail
  rw[Hr.out];have yy:=blk2 (Ae r (.slice B1 L.targets.length b1) (.slice B2 L.data.length b2));have b9:=Af hB (g:=w.heap.size+1+1+1) (by omega) (.slice B1 L.targets.length b1) (.slice B2 L.data.length b2);refine bodyPost_ret (v:=.tuple #[pval L ⟨B1,b1⟩ ⟨B2,b2⟩,.int .i64 0,.int .i64 e1]) (by simp[results,Tryz.results59,go_sem,yy]) rfl ?_;exact⟨_,_,rfl,Hz.out _ b9,fun _ _ h=>h,b9⟩
 subst he;go_wp2_with fail
 go_at_call 52;refine((h3 _ hB)).mono ?_;rintro e w2 ⟨⟨p3,q3,rfl,i3,o3⟩,hb2⟩;replace hB:=bt hB hb2;replace x:=x.below hb2 x.lt;replace xk:=blk5 x;replace z:=z.below hb2 z.lt;replace zk:=blk2 z;replace y:=y.below hb2 y.lt;replace r:=r.below hb2 r.lt;replace rk:=blk2 r;replace rkf:=r.fz;have oy:=o3 (w.heap.size+1+1+1) rl (Hap.out _ (by omega));have rl2:w.heap.size+1+1+1<w2.heap.size:=r.lt;have r0:=r;have hB0:=hB;have j3:=i3;have u:=Blk.new w2 63 #[.slice p3.a X.targets.length p3.c,.slice q3.a X.data.length q3.c];have uk:=blk2 u;have hB_11:=Ya hB u;have z_13:=Yc z hB_11;have zk_13:=blk2 z_13;have r_15:=Yc r hB_11;have rk_15:=blk2 r_15;have rkf_15:=r_15.fz;have i3_16:=i3.below (Yb hB_11);by_cases he:e2=0
 case neg=>
  have n1:(e2 !=0)=true:=by simpa using he
  have Hr:=hid (show Pn.alTake D L h=(L,0,e2) by rw[Ht.out,if_neg (by simp),if_pos he]);clear he;go_wp2_with fail
  rw[Hr.out];have yy:=blk2 ((Ae r0 (.slice B1 L.targets.length b1) (.slice B2 L.data.length b2)).alloc (.cells #[.slice p3.a X.targets.length p3.c,.slice q3.a X.data.length q3.c] 63));have b8:=Af hB0 (g:=w.heap.size+1+1+1) (by omega) (.slice B1 L.targets.length b1) (.slice B2 L.data.length b2);have b9:=b8.alloc b8.size (.cells #[.slice p3.a X.targets.length p3.c,.slice q3.a X.data.length q3.c] 63);refine bodyPost_ret (v:=.tuple #[pval L ⟨B1,b1⟩ ⟨B2,b2⟩,.int .i64 0,.int .i64 e2]) (by simp[results,Tryz.results59,go_sem,yy]) rfl ?_;exact⟨_,_,rfl,Hz.out _ b9,fun _ _ h=>h,b9⟩
 subst he;have Hr:=hid (show Pn.alTake D L h=(X,k,0) by rw[Ht.out,if_neg (by simp),if_neg (by simp)]);go_wp2_with fail
 rw[Hr.out];have yy:=blk2 ((Ae r0 (.slice p3.a X.targets.length p3.c) (.slice q3.a X.data.length q3.c)).alloc (.cells #[.slice p3.a X.targets.length p3.c,.slice q3.a X.data.length q3.c] 63));have b8:=Af hB0 (g:=w.heap.size+1+1+1) (by omega) (.slice p3.a X.targets.length p3.c) (.slice q3.a X.data.length q3.c);have b9:=b8.alloc b8.size (.cells #[.slice p3.a X.targets.length p3.c,.slice q3.a X.data.length q3.c] 63);refine bodyPost_ret (v:=.tuple #[pval X p3 q3,.int .i64 k,.int .i64 0]) (by simp[results,Tryz.results59,go_sem,yy]) rfl ?_;exact⟨_,_,rfl,(j3.off2 oy _ _).below (Yz _),fun g hg h=>o3 g (by omega) h,b9⟩
end
section
open Go.RowKit Go.Shelf
attribute [local go_sem] Ad Ag Ah Ac Aj Ai Oper.semAt_some
def FreeP (D:Dk)(L:Pn)(h:Nat)(ys:List (Int×Int)):Prop:=∀y r,ys=y::r->y=Pn.alFind D L h
def FreeS (D:Dk)(L:Pn)(h:Nat)(ys:List (Int×Int)):Prop:=(ys=[]->Pn.alFind D L h=(0,17))/\FreeP D L h ys
theorem FreeP.next {D:Dk}{L:Pn}{h:Nat}{ys:List (Int×Int)}(hp:FreeP D L h ys){y:Int×Int}(hy:ys=[]->y=Pn.alFind D L h):FreeP D L h (ys++[y]):=by
 intro z r e;cases ys with
 |nil=>simp only[List.nil_append,List.cons.injEq]at e;rw[<-e.1];exact hy rfl
 |cons a l=>simp only[List.cons_append,List.cons.injEq]at e;rw[<-e.1];exact hp a l rfl
theorem FreeP.done {D:Dk}{L:Pn}{h:Nat}{ys:List (Int×Int)}{y:Int×Int}(hp:FreeP D L h (ys++[y])):FreeS D L h (ys++[y]):=⟨fun e=>absurd e (by simp),hp⟩
end
section
open Go.RowKit Go.Shelf
attribute [local go_sem] Ad Ag Ah Ac Aj Ai
def Pn.st2 (L:Pn)(t:Int)(half:Pn->Int->List UInt8×Int):Nat->Pn->Prop
 |0,X=>X=L
 |1,X=>(half L 0).2=0/\L.set (96+2*t) (half L 0).1=(X,0)
 |2,X=>Pn.set2 L t half=(X,0)
 |_,_=>False
theorem Pn.st2_err {L X:Pn}{t:Int}{half:Pn->Int->List UInt8×Int}{i:Nat}(hi:i<2)(h:Pn.st2 L t half i X)(he:(half X i).2≠0):Pn.set2 L t half=(L,(half X i).2):=by
 rcases(show i=0\/i=1 by omega)with rfl|rfl
 · have h:X=L:=h;subst h
   change (half X 0).2≠0 at he
   show _=(X,(half X 0).2);rw[Pn.set2,if_pos he]
 · change (half X 1).2≠0 at he
   show _=(L,(half X 1).2);obtain⟨h1,h2⟩:(half L 0).2=0/\L.set (96+2*t) (half L 0).1=(X,0):=h;rw[Pn.set2,h2,if_neg (by simp[h1]),if_neg (by simp),if_pos he]
theorem Pn.st2_bad {L X:Pn}{t:Int}{half:Pn->Int->List UInt8×Int}{i:Nat}(hi:i<2)(h:Pn.st2 L t half i X)(h0:(half X i).2=0)(he:(X.set (96+2*t+i) (half X i).1).2≠0):
 Pn.set2 L t half=(L,(X.set (96+2*t+i) (half X i).1).2):=by
 rcases(show i=0\/i=1 by omega)with rfl|rfl
 · have h:X=L:=h;subst h
   change (half X 0).2=0 at h0
   have e:(96+2*t+(0:Nat):Int)=96+2*t:=by omega
   rw[e]at he ⊢
   change (X.set (96+2*t) (half X 0).1).2≠0 at he
   show _=(X,(X.set (96+2*t) (half X 0).1).2);rw[Pn.set2,if_neg (by simpa using h0),if_pos he]
 · change (half X 1).2=0 at h0
   change (X.set (96+2*t+1) (half X 1).1).2≠0 at he
   show _=(L,(X.set (96+2*t+1) (half X 1).1).2);obtain⟨h1,h2⟩:(half L 0).2=0/\L.set (96+2*t) (half L 0).1=(X,0):=h;rw[Pn.set2,h2,if_neg (by simp[h1]),if_neg (by simp),if_neg (by simpa using h0),if_pos he]
theorem Pn.st2_next {L X:Pn}{t:Int}{half:Pn->Int->List UInt8×Int}{i:Nat}(hi:i<2)(h:Pn.st2 L t half i X)(h0:(half X i).2=0)(h1:(X.set (96+2*t+i) (half X i).1).2=0):
 Pn.st2 L t half (i+1) (X.set (96+2*t+i) (half X i).1).1:=by
 rcases(show i=0\/i=1 by omega)with rfl|rfl
 · have h:X=L:=h;subst h;have e:(96+2*t+(0:Nat):Int)=96+2*t:=by omega
   rw[e]at h1 ⊢;exact⟨h0,Prod.ext rfl h1⟩
 · obtain⟨g1,g2⟩:(half L 0).2=0/\L.set (96+2*t) (half L 0).1=(X,0):=h;show Pn.set2 L t half=_;rw[Pn.set2,g2,if_neg (by simp[g1]),if_neg (by simp),if_neg (by simpa using h0),if_neg (by simpa using h1)];rfl
end
end Go.Proofs.YtmiilfnchfdfcaaGreatDoor
