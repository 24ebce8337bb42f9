/- BitmClears: a bitmap that has nothing again has nothing; the others, and the device, stay: any fit image of few writes, any name. The listed variables of unicode/utf8 start as the program's text lays them (a tied card). No condition. -/
import Derived.Test.YtmiilfnchfdfcaaGreatDoorByImg8
import Derived.Test.YtmiilfnchfdfcaaGreatDoorCards
import Derived.Test.YtmiilfnchfdfcaaGreatDoorTie
import Derived.LaidMore
import Derived.Stop.Joined
import Derived.SevenTiedAt
set_option maxRecDepth 100000
set_option maxHeartbeats 40000000
set_option linter.unusedVariables false
namespace Go.Proofs.YtmiilfnchfdfcaaGreatDoor.bitmClears
section
open Go.RowKit Go.Shelf Go.WideShapes Go.ChangeShapes Go.ChangeAt Go.Joins
open Go.ChangeMaps (open_string shut_string)
attribute [local go_sem] Ad Ag Ah Ac Aj Ai
theorem PH (D:Dk)(g h:Int)(j:Jr)(maps:List Dm)(br:Bool)(p q r:Pl)(nm:List UInt8)(w:World)(hI:IsIm0 w D g h j maps p q r)(hg:goodI D g h j maps=false):
 Calls Tryz.prog 3 #[BQ D g h j maps br p q r,.string (bs nm)] w fun e w'=>e=.returned (.bool true)/\Below w.heap.size w w':=by
 have hG:=fun(W:World)(hb:Below w.heap.size w W)=>FC D g h j maps br p q r W (hI.below hb)
 rw[hg]at hG;clear hI hg;obtain⟨sq,pos⟩:=j;obtain⟨A1,a1⟩:=p;obtain⟨A2,a2⟩:=q;obtain⟨A3,a3⟩:=r;have hB:=Below.refl w.heap.size w;have x:=Blk.new w 33 #[.string (bs D.data),.slice A1 D.cache.length a1,.int .i64 D.fuse,.bool D.off,.slice A2 D.bad.length a2,.int .i64 g,.int .i64 h,.int .u64 sq,.int .i64 pos,.slice A3 maps.length a3,.bool br];have xk:=Aa x;have hB_1:=Ya hB x;go_enter Tryz.func3,Tryz.ntmps3;go_wp2_with fail
 go_at_call 5;refine((hG _ hB_1)).mono ?_;rintro e w1 ⟨rfl,hb1⟩;replace hB:=bt hB_1 hb1;replace x:=x.below hb1 x.lt;replace xk:=Aa x;clear hB_1;go_wp2_with fail
 go_at_call 6;refine((CH _)).mono ?_;rintro e w2 ⟨rfl,hb2⟩;replace hB:=bt hB hb2;replace x:=x.below hb2 x.lt;replace xk:=Aa x;go_wp2_with fail
 go_ret
 exact⟨rfl,hB⟩
theorem IS {maps:List Dm}(hl:maps.length<=2)(hn:Im.nameds maps=true){nm:List UInt8}{i:Nat}(hi:i<maps.length)(he:maps[i].name=nm)(j:Nat)(hj:j<maps.length):
 ((maps.set i (dmFresh nm))[j]'(by simpa using hj)).name=nm/\(maps.set i (dmFresh nm))[j]'(by simpa using hj)=dmFresh nm\/((maps.set i (dmFresh nm))[j]'(by simpa using hj)).name≠nm/\(maps.set i (dmFresh nm))[j]'(by simpa using hj)=maps[j]:=by
 by_cases h:i=j
 · subst h;rw[List.getElem_set_self];exact .inl ⟨rfl,rfl⟩
 · rw[List.getElem_set_ne h];refine .inr ⟨fun e=>?_,rfl⟩
   match maps,hl,hn,hi,hj,he,e,h with
   |[x],_,_,hi,hj,_,_,h=>simp at hi hj;omega
   |[x,y],_,hn,hi,hj,he,e,h=>
    simp only[Im.nameds,List.all_cons,List.all_nil,Bool.and_true,Bool.and_eq_true,decide_eq_true_eq]at hn;have h1:=hn.2.2.2.2
    match i,j,hi,hj,he,e,h with
    |0,1,_,_,he,e,_=>exact h1 (he.trans e.symm)
    |1,0,_,_,he,e,_=>exact h1 (e.trans he.symm)
    |0,0,_,_,_,_,h=>exact h rfl
    |1,1,_,_,_,_,h=>exact h rfl
    |i+2,_,hi,_,_,_,_=>simp at hi;omega
    |_,j+2,_,hj,_,_,_=>simp at hj;omega
theorem PI (D:Dk)(g:Int)(h:Nat)(j:Jr)(maps:List Dm)(br:Bool)(p q r:Pl)(nm:List UInt8)(hnm:nm.length<=maxLen)(w:World)(hI0:IsIm0 w D g h j maps p q r)(hg:goodI D g h j maps=true)(hI:IsIm w ⟨D,g,h,j,maps,br⟩ p q r)(ok:(⟨D,g,h,j,maps,br⟩:Im).Ok):
 Calls Tryz.prog 3 #[BQ D g h j maps br p q r,.string (bs nm)] w fun e w'=>e=.returned (.bool true)/\Below w.heap.size w w':=by
 have hG:=fun(W:World)(hb:Below w.heap.size w W)=>FC D g h j maps br p q r W (hI0.below hb)
 rw[hg]at hG;have hC:=fun(W:World)(hb:Below w.heap.size w W)=>IB ⟨D,g,h,j,maps,br⟩ p q r W (hI.below hb) ok nm hnm
 have hnd:Im.nameds maps=true:=(FD.1 hg).2.2.2.2.2.2;have hml:maps.length<=2:=ok.maps;have Hcl:=hid (fun i hi he k hk=>IS hml hnd (nm:=nm) (i:=i) hi he k hk);have hds:D.same D=true:=Dk.same_self D;have Hsm:=hid (fun(W:World)(P Q R P' Q' R':Pl)(h1:IsIm W ⟨D,g,h,j,maps,br⟩ P Q R)(h2:IsIm W ⟨D,g,h,j,maps,br⟩ P' Q' R')=>MI ⟨D,g,h,j,maps,br⟩ P Q R P' Q' R' W h1 h2 (by have:=hml;show maps.length<=1000000;omega) hds);have Hc:=Fn maps nm;have HB:Im.bmClear ⟨D,g,h,j,maps,br⟩ nm=if br=true then(⟨D,g,h,j,maps,br⟩,24)else if dmFind maps nm<0 then(⟨D,g,h,j,maps,br⟩,21)else(⟨D,g,h,j,maps.set (dmFind maps nm).toNat (dmFresh nm),br⟩,0):=rfl
 have hd:=hI.d;have hm:=hI.m;have H64:=hid hm.bits;have Hnm:=hid hm.name;clear hI0 hg hI ok hnd hds;obtain⟨sq,pos⟩:=j;obtain⟨A1,a1⟩:=p;obtain⟨A2,a2⟩:=q;obtain⟨A3,a3⟩:=r;have a36:=Tryz.dm_agg;have z36:=Tryz.dm_siz;have zc:=Tryz.dm_zeros;have lz:=AU (m:=Dm.zero) rfl;by_cases hbr:br=true
 · rw[HB.trans (if_pos hbr)]at hC;clear HB Hc hbr hml Hcl a36 z36 zc lz;have n1:((24:Int) !=0)=true:=by decide
   have hB:=Below.refl w.heap.size w;have x:=Blk.new w 33 #[.string (bs D.data),.slice A1 D.cache.length a1,.int .i64 D.fuse,.bool D.off,.slice A2 D.bad.length a2,.int .i64 g,.int .i64 h,.int .u64 sq,.int .i64 pos,.slice A3 maps.length a3,.bool br];have xk:=Aa x;have hB_1:=Ya hB x;have hd_2:=hd.below (Yb hB_1);have hm_3:=hm.below (Yb hB_1);go_enter Tryz.func3,Tryz.ntmps3;go_wp2_with fail
   go_at_call 5;refine((hG _ hB_1)).mono ?_;rintro e w1 ⟨rfl,hb1⟩;replace hB:=bt hB_1 hb1;replace hd:=hd_2.below hb1;replace hm:=hm_3.below hb1;replace x:=x.below hb1 x.lt;replace xk:=Aa x;clear hB_1 hd_2 hm_3;go_wp2_with fail
   go_at_call 7;refine((hC _ hB)).mono ?_;rintro e w2 ⟨⟨⟨B1,b1⟩,⟨B2,b2⟩,⟨B3,b3⟩,rfl,i2,o2⟩,hb2⟩;replace hB:=bt hB hb2;replace hd:=hd.below hb2;replace hm:=hm.below hb2;replace x:=x.below hb2 x.lt;replace xk:=Aa x;clear o2;have i2d:=i2.d;have i2m:=i2.m;clear i2;have y:=Blk.new w2 33 #[.string (bs D.data),.slice B1 D.cache.length b1,.int .i64 D.fuse,.bool D.off,.slice B2 D.bad.length b2,.int .i64 g,.int .i64 h,.int .u64 sq,.int .i64 pos,.slice B3 maps.length b3,.bool br];have yk:=Aa y;have hB_4:=Ya hB y;have hd_5:=hd.below (Yb hB_4);have hm_6:=hm.below (Yb hB_4);have x_7:=Yc x hB_4;have xk_7:=Aa x_7;have i2d_8:=i2d.below (Yb hB_4);have i2m_9:=i2m.below (Yb hB_4);go_wp2_with fail
   go_at_call 8;refine((Hsm.out _ _ _ _ _ _ _ ⟨hd_5,hm_6⟩ ⟨i2d_8,i2m_9⟩)).mono ?_;rintro e w3 ⟨rfl,hb3⟩;replace hB:=bt hB_4 hb3;replace hd:=hd_5.below hb3;replace hm:=hm_6.below hb3;replace x:=x_7.below hb3 x_7.lt;replace xk:=Aa x;replace i2d:=i2d_8.below hb3;replace i2m:=i2m_9.below hb3;replace y:=y.below hb3 y.lt;replace yk:=Aa y;clear hB_4 hd_5 hm_6 xk_7 x_7 i2d_8 i2m_9;go_wp2_with fail
   go_at_call 6;refine((CH _)).mono ?_;rintro e w4 ⟨rfl,hb4⟩;replace hB:=bt hB hb4;replace hd:=hd.below hb4;replace hm:=hm.below hb4;replace x:=x.below hb4 x.lt;replace xk:=Aa x;replace i2d:=i2d.below hb4;replace i2m:=i2m.below hb4;replace y:=y.below hb4 y.lt;replace yk:=Aa y;go_wp2_with fail
   go_ret
   exact⟨rfl,hB⟩
 by_cases hk:dmFind maps nm<0
 · rw[HB.trans ((if_neg hbr).trans (if_pos hk))]at hC;clear HB Hc hbr hml Hcl a36 z36 zc lz hk;have n1:((21:Int) !=0)=true:=by decide
   have hB:=Below.refl w.heap.size w;have x:=Blk.new w 33 #[.string (bs D.data),.slice A1 D.cache.length a1,.int .i64 D.fuse,.bool D.off,.slice A2 D.bad.length a2,.int .i64 g,.int .i64 h,.int .u64 sq,.int .i64 pos,.slice A3 maps.length a3,.bool br];have xk:=Aa x;have hB_1:=Ya hB x;have hd_2:=hd.below (Yb hB_1);have hm_3:=hm.below (Yb hB_1);go_enter Tryz.func3,Tryz.ntmps3;go_wp2_with fail
   go_at_call 5;refine((hG _ hB_1)).mono ?_;rintro e w1 ⟨rfl,hb1⟩;replace hB:=bt hB_1 hb1;replace hd:=hd_2.below hb1;replace hm:=hm_3.below hb1;replace x:=x.below hb1 x.lt;replace xk:=Aa x;clear hB_1 hd_2 hm_3;go_wp2_with fail
   go_at_call 7;refine((hC _ hB)).mono ?_;rintro e w2 ⟨⟨⟨B1,b1⟩,⟨B2,b2⟩,⟨B3,b3⟩,rfl,i2,o2⟩,hb2⟩;replace hB:=bt hB hb2;replace hd:=hd.below hb2;replace hm:=hm.below hb2;replace x:=x.below hb2 x.lt;replace xk:=Aa x;clear o2;have i2d:=i2.d;have i2m:=i2.m;clear i2;have y:=Blk.new w2 33 #[.string (bs D.data),.slice B1 D.cache.length b1,.int .i64 D.fuse,.bool D.off,.slice B2 D.bad.length b2,.int .i64 g,.int .i64 h,.int .u64 sq,.int .i64 pos,.slice B3 maps.length b3,.bool br];have yk:=Aa y;have hB_4:=Ya hB y;have hd_5:=hd.below (Yb hB_4);have hm_6:=hm.below (Yb hB_4);have x_7:=Yc x hB_4;have xk_7:=Aa x_7;have i2d_8:=i2d.below (Yb hB_4);have i2m_9:=i2m.below (Yb hB_4);go_wp2_with fail
   go_at_call 8;refine((Hsm.out _ _ _ _ _ _ _ ⟨hd_5,hm_6⟩ ⟨i2d_8,i2m_9⟩)).mono ?_;rintro e w3 ⟨rfl,hb3⟩;replace hB:=bt hB_4 hb3;replace hd:=hd_5.below hb3;replace hm:=hm_6.below hb3;replace x:=x_7.below hb3 x_7.lt;replace xk:=Aa x;replace i2d:=i2d_8.below hb3;replace i2m:=i2m_9.below hb3;replace y:=y.below hb3 y.lt;replace yk:=Aa y;clear hB_4 hd_5 hm_6 xk_7 x_7 i2d_8 i2m_9;go_wp2_with fail
   go_at_call 6;refine((CH _)).mono ?_;rintro e w4 ⟨rfl,hb4⟩;replace hB:=bt hB hb4;replace hd:=hd.below hb4;replace hm:=hm.below hb4;replace x:=x.below hb4 x.lt;replace xk:=Aa x;replace i2d:=i2d.below hb4;replace i2m:=i2m.below hb4;replace y:=y.below hb4 y.lt;replace yk:=Aa y;go_wp2_with fail
   go_ret
   exact⟨rfl,hB⟩
 rcases Hc with ⟨hc,_⟩|⟨i,hi,hfi,hin⟩
 · rw[hc]at hk;omega
 rw[HB.trans ((if_neg hbr).trans (if_neg hk)),hfi,Int.toNat_natCast]at hC;clear HB hfi hbr hk;have hMl:(maps.set i (dmFresh nm)).length=maps.length:=List.length_set;obtain⟨M,hM⟩:∃M,maps.set i (dmFresh nm)=M:=⟨_,rfl⟩;have HMb:=hid (show∀m∈M,m.bits.length=64/\m.name.length<=maxLen from fun m hm=>by
  rw[<-hM]at hm
  rcases List.mem_or_eq_of_mem_set hm with h|rfl
  · exact⟨H64.out m h,Hnm.out m h⟩
  · exact⟨Be nm,hnm⟩)
 have Hcl2:=hid (show∀(n:Nat)(h1:n<M.length)(h2:n<maps.length),(M[n].name=nm/\M[n]=dmFresh nm)\/(M[n].name≠nm/\M[n]=maps[n])from by
  subst hM;exact fun n _ h2=>Hcl.out i hi hin n h2)
 rw[hM]at hC hMl;clear hM hi hin Hcl;have hMl2:=hid hMl;have hB:=Below.refl w.heap.size w;have x:=Blk.new w 33 #[.string (bs D.data),.slice A1 D.cache.length a1,.int .i64 D.fuse,.bool D.off,.slice A2 D.bad.length a2,.int .i64 g,.int .i64 h,.int .u64 sq,.int .i64 pos,.slice A3 maps.length a3,.bool br];have xk:=Aa x;have hB_1:=Ya hB x;have hd_2:=hd.below (Yb hB_1);have hm_3:=hm.below (Yb hB_1);go_enter Tryz.func3,Tryz.ntmps3;go_wp2_with fail
 go_at_call 5;refine((hG _ hB_1)).mono ?_;rintro e w1 ⟨rfl,hb1⟩;replace hB:=bt hB_1 hb1;replace hd:=hd_2.below hb1;replace hm:=hm_3.below hb1;replace x:=x.below hb1 x.lt;replace xk:=Aa x;clear hB_1 hd_2 hm_3;go_wp2_with fail
 go_at_call 7;refine((hC _ hB)).mono ?_;rintro e w2 ⟨⟨⟨B1,b1⟩,⟨B2,b2⟩,⟨B3,b3⟩,rfl,i2,o2⟩,hb2⟩;replace hB:=bt hB hb2;replace hd:=hd.below hb2;replace hm:=hm.below hb2;replace x:=x.below hb2 x.lt;replace xk:=Aa x;clear o2;have i2d:=i2.d;have i2m:=i2.m;clear i2;have y:=Blk.new w2 33 #[.string (bs D.data),.slice B1 D.cache.length b1,.int .i64 D.fuse,.bool D.off,.slice B2 D.bad.length b2,.int .i64 g,.int .i64 h,.int .u64 sq,.int .i64 pos,.slice B3 M.length b3,.bool br];have yk:=Aa y;have hB_4:=Ya hB y;have hd_5:=hd.below (Yb hB_4);have hm_6:=hm.below (Yb hB_4);have x_7:=Yc x hB_4;have xk_7:=Aa x_7;have i2d_8:=i2d.below (Yb hB_4);have i2m_9:=i2m.below (Yb hB_4);have hyz:=(y).lt;have xmid:=Aa ((x_7).alloc (.cells #[.string (bs D.data),.slice B1 D.cache.length b1,.int .i64 D.fuse,.bool D.off,.slice B2 D.bad.length b2,.int .i64 g,.int .i64 h,.int .u64 sq,.int .i64 pos,.slice B3 M.length b3,.bool br] 33));have zmid:=(Blk.new _ 33 #[.string (bs D.data),.slice B1 D.cache.length b1,.int .i64 D.fuse,.bool D.off,.slice B2 D.bad.length b2,.int .i64 g,.int .i64 h,.int .u64 sq,.int .i64 pos,.slice B3 M.length b3,.bool br]:Blk ((w2.alloc (.cells #[.string (bs D.data),.slice B1 D.cache.length b1,.int .i64 D.fuse,.bool D.off,.slice B2 D.bad.length b2,.int .i64 g,.int .i64 h,.int .u64 sq,.int .i64 pos,.slice B3 M.length b3,.bool br] 33)).alloc (.cells #[.string (bs D.data),.slice B1 D.cache.length b1,.int .i64 D.fuse,.bool D.off,.slice B2 D.bad.length b2,.int .i64 g,.int .i64 h,.int .u64 sq,.int .i64 pos,.slice B3 M.length b3,.bool br] 33)) _ _ _);simp only[Ys]at zmid;have zmk:=Aa zmid;have zmf:=zmid.fz;have z:=Yd hB_4 33 #[.string (bs D.data),.slice B1 D.cache.length b1,.int .i64 D.fuse,.bool D.off,.slice B2 D.bad.length b2,.int .i64 g,.int .i64 h,.int .u64 sq,.int .i64 pos,.slice A3 maps.length a3,.bool br];simp only[Ys]at z;have zk:=Aa z;have hB_10:=Ya hB_4 z;have hd_11:=hd_5.below (Yb hB_10);have hm_12:=hm_6.below (Yb hB_10);have x_13:=Yc x_7 hB_10;have xk_13:=Aa x_13;have i2d_14:=i2d_8.below (Yb hB_10);have i2m_15:=i2m_9.below (Yb hB_10);have y_16:=Yc y hB_10;have yk_16:=Aa y_16;have nl:((maps.length:Int) !=(M.length:Int))=false:=by rw[hMl];simp
 have nl2:(maps.length !=M.length)=false:=by rw[hMl];simp
 replace hMl:=hid hMl;go_wp2_with fail
 go_at_call 8;refine((Hsm.out _ _ _ _ _ _ _ ⟨hd_11,hm_12⟩ ⟨i2d_14,hm_12⟩)).mono ?_;rintro e w3 ⟨rfl,hb3⟩;replace hB:=bt hB_10 hb3;replace hd:=hd_11.below hb3;replace hm:=hm_12.below hb3;replace x:=x_13.below hb3 x_13.lt;replace xk:=Aa x;replace i2d:=i2d_14.below hb3;replace i2m:=i2m_15.below hb3;replace y:=y_16.below hb3 y_16.lt;replace yk:=Aa y;replace z:=z.below hb3 z.lt;replace zk:=Aa z;clear hB_4 hd_5 hm_6 xk_7 x_7 i2d_8 i2m_9 hB_10 hd_11 hm_12 xk_13 x_13 i2d_14 i2m_15 yk_16 y_16;have xw:=x;have mw:=hm;have iw:=i2m;have hBw:=hB;clear Hsm hC hG xmid zmid zmk zmf;go_wp2_with fail
 go_loopw [48] (fun k W=>∃n:Nat,n<=M.length/\k=.int .i64 n/\Below w3.heap.size w3 W) (fun k _=>M.length-(intOf k).toNat)
 case atStart=>exact⟨0,Nat.zero_le _,rfl,Below.refl _ _⟩
 case round=>
  clear x xk y yk z zk hd hm i2d i2m hB nl nl2;obtain⟨n,hn,rfl,hb⟩:=hrel;have xr:=xw.below hb xw.lt;have xkr:=Aa xr;have hbw:=bt hBw hb;by_cases hlt:n<M.length
  · have hlt2:n<maps.length:=by have:=hMl2.out;omega
    obtain⟨gb,go,ea,hgb,hcs⟩:=(iw.below hb).rows (by show 0<M.length;omega);have ea':B3=some ⟨gb,go,none⟩:=ea;subst ea';obtain⟨gx,gy,ex,hgx,hcx⟩:=(mw.below hb).rows (by show 0<maps.length;omega);have ex':A3=some ⟨gx,gy,none⟩:=ex;subst ex';have hr:=hcs n hlt;have hx:=hcx n hlt2;have hcl:=Hcl2.out n hlt hlt2;obtain⟨h64,hnl⟩:=HMb.out _ (List.getElem_mem hlt);have h64x:=H64.out _ (List.getElem_mem hlt2);have hnx:=Hnm.out _ (List.getElem_mem hlt2);obtain⟨m,hm9⟩:∃m,M[n]=m:=⟨_,rfl⟩;obtain⟨mx,hmx⟩:∃mx,maps[n]=mx:=⟨_,rfl⟩;simp only[hm9,hmx]at hr hx hcl h64 hnl h64x hnx;clear hm9 hmx hcs hcx ea ex;have k1:=Tryz.dm_load m h64 hr;have lm:=AU h64;have Hn1:=hid (show n+1<=M.length from hlt);have hbr:=Below.refl wr.heap.size wr;have v:=Blk.new wr 42 (dmCells Dm.zero).toArray;have vk:=Tryz.dm_all Dm.zero rfl v;have vkf:=v.fz;have hbr_1:=hbr.alloc hbr.size (.cells (dmCells Dm.zero).toArray 42);have s0:=Tryz.dm_put (a:=Dm.zero) m h64 rfl v;have hbr_2:=AM hbr_1 (g:=wr.heap.size) (by omega) m;have v_3:=AN v m rfl h64;have vk_3:=Tryz.dm_all m h64 v_3;have vkf_3:=v_3.fz;have bV:=bt hb hbr_2;go_wp2_with fail
    have vT:=v_3;have bT:=hbr_2;have xT:=xr.below bT xr.lt;generalize ((wr.alloc (.cells (dmCells Dm.zero).toArray 42)).setCells wr.heap.size 0 (dmCells m))=T at vT bT xT bV ⊢;have xkT:=Aa xT;have vkT:=Tryz.dm_all m h64 vT;have vd:=fun n=>Tryz.dm_load m h64 (BC vT.range (CR T n))
    have kx:=Tryz.dm_load mx h64x (BC hx bT);have kxd:=fun n=>Tryz.dm_load mx h64x (BC hx (bt bT (CR T n)))
    obtain⟨nn,hnn⟩:∃nn,m.name=nn:=⟨_,rfl⟩;rw[hnn]at vkT hcl;clear v vk vkf s0 xkr k1 hr hx xr
    rcases hcl with ⟨q1,q2⟩|⟨q1,q2⟩
    · have f1:(nn==nm)=true:=by simpa using q1
      have f2:(nn !=nm)=false:=by simpa using q1
      have q2h:=hid q2;clear q1 q2;refine wp_region_quiet_lit (by kernel_rfl) (by kernel_rfl) ?_
      repeat (go_big_quiet_step (fail))
      go_big_quiet_want
      refine Cw (dmval (dmFresh nm)) (fun W=>Tryz.run_dmf _ _ rfl nm rfl rfl W) ?_;simp only[Yf]
      go_big_quiet_on
      go_big_quiet_want
      refine Cw (.bool false) (fun W=>Tryz.run_dmn _ _ _ rfl m (dmFresh nm) rfl rfl hnl h64 hnm (Be nm) true (decide_eq_true q2h.out) W) ?_;simp only[Yf]
      go_big_quiet_on
      repeat (go_big_quiet_step (fail))
      refine wpQuiet_nil ?_;intro _ hw';obtain⟨nq,hw''⟩:=hw';subst hw'';go_wp2_with fail
      go_roundw
      case rel=>exact⟨n+1,Hn1.out,by go_num,Bq bV nq⟩
      case measure=>have:=Hn1.out;simp[intOf];omega
    · have f1:(nn==nm)=false:=by simpa using q1
      have f2:(nn !=nm)=true:=by simpa using q1
      have q2h:=hid q2;clear q1 q2;refine wp_region_quiet_lit (by kernel_rfl) (by kernel_rfl) ?_
      repeat (go_big_quiet_step (fail))
      go_big_quiet_want
      refine Cw (.bool false) (fun W=>Tryz.run_dmn _ _ _ rfl m mx rfl rfl hnl h64 hnx h64x true (decide_eq_true q2h.out) W) ?_;simp only[Yf]
      go_big_quiet_on
      repeat (go_big_quiet_step (fail))
      refine wpQuiet_nil ?_;intro _ hw';obtain⟨nq,hw''⟩:=hw';subst hw'';go_wp2_with fail
      go_roundw
      case rel=>exact⟨n+1,Hn1.out,by go_num,Bq bV nq⟩
      case measure=>have:=Hn1.out;simp[intOf];omega
  · obtain rfl:n=M.length:=by omega
    go_wp2_with fail
    go_at_call 6;refine(CH _).mono ?_;rintro e w9 ⟨rfl,hb9⟩;go_wp2_with fail
    go_ret
    exact⟨rfl,bt hbw hb9⟩
theorem walk (w:World)(D:Dk)(g h:Int)(j:Jr)(maps:List Dm)(br:Bool)(p q r:Pl)(hI:IsIm0 w D g h j maps p q r)(s0:ByteArray)(ws:s0.size<=maxLen)(hs:s0.size<=reachBytes):
 Calls Tryz.prog 3 #[BQ D g h j maps br p q r,.string s0] w fun e w'=>e=.returned (.bool true)/\Below w.heap.size w w':=by
 obtain⟨nm,rfl⟩:=CK s0;have hnm:nm.length<=maxLen:=by rwa [Ac]at ws
 cases hg:goodI D g h j maps with
 |false=>exact PH D g h j maps br p q r nm w hI hg
 |true=>
  obtain⟨hh,rfl,h2,ok⟩:=Kx br hI hg;exact PI D g hh j maps br p q r nm hnm w hI hg h2 ok
theorem own:ownKnob Tryz.prog.godebug=none:=by kernel_rfl
def firstCells:Array Value:=match Go.Pinned.utf8First with| .agg l=>(l.map fun| .lit (.int k m)=>Value.int k m|_=>undef).toArray|_=>#[]
noncomputable def laidWorld (os:Os):World:=
 let w0:=World.doorLaid Tryz.prog 4000 os
 {w0 with heap:=w0.heap.modify 1 fun| .cells _ t fr=>.cells firstCells t fr|o=>o}
theorem J0 (os:Os)(args:Array Value):laidMetH Tryz.prog Rows.bitmClearsRow.laid ((laidWorld os).forCall (fun _ _=>0) ⟨#[],args,[]⟩).memory:=
 laidMetH_of_parts3 (fuel:=8) (laidMet_of_run' 8 (by kernel_rfl) (by kernel_rfl)) (by kernel_rfl) (by kernel_rfl)
theorem lifted (os:Os)(started:os.Started)(H:Type)(enc:TypeId×Value->H):
 ReturnsInHanded {} Tryz.checked os 3 .any (fun w args=>(Rows.bitmClearsSpec.pre enc Tryz.prog Tryz.f3 [] false w args/\laidMetH Tryz.prog Rows.bitmClearsRow.laid w)/\sizedMet enc Tryz.prog Tryz.f3 (OpenSpec.ofChange Rows.bitmClearsSpec) false w args)
  (Rows.bitmClearsSpec.post enc Tryz.prog Tryz.f3 false true false false):=by
 refine returnsInHanded_of_change_and (C:=Tryz.checked) (X:=fun w _=>laidMetH Tryz.prog Rows.bitmClearsRow.laid w) (fun _ _ _ hh h=>h.of_heap hh) own started (by kernel_rfl) Tryz.func3
  (ChangeSpec.witness_shaped (enc:=enc) (C:=Tryz.checked) (os:=os) (X:=fun w _=>laidMetH Tryz.prog Rows.bitmClearsRow.laid w) false (laidWorld os) #[.agg #[.string ByteArray.empty,.slice none 0 0,.int .i64 0,.bool false,.slice none 0 0,.int .i64 0,.int .i64 0,.int .u64 0,.int .i64 0,.slice none 0 0,.bool false],.string ByteArray.empty] 8 rfl (World.shaped_of_RefB (by kernel_rfl) (by kernel_rfl)) (by kernel_rfl) (by kernel_rfl) (by kernel_rfl) (J0 os _)) ?_
 intro W base args ds gs before hval0 hW _ hsz0 hL _;have hval:∀(j:Nat) t v,Tryz.f3.params[j]? =some t->args[j]? =some v->Value.okWide Tryz.prog W .any base t v:=hval0;have hW':=hW;obtain⟨p,q,hA0,hV,rfl,hfz,hnd⟩:=hW;have hA:DataW.TrodAll enc Tryz.prog W 0 (fun _=>true) true Tryz.f3.params.toList args.toList ds p:=hA0;have hAk:=hA;have hsz:(DataW.weightsEach Tryz.prog (Tryz.f3.params.toList++Rows.bitmClearsSpec.plain.varTypes Tryz.prog) (ds++gs)).all (·<=reachBytes)=true:=hsz0;rw[Tryz.params3]at hA hval hsz;obtain⟨v0,vs0,d0,ds0,p0,q0,hargs,rfl,rfl,h0,r0⟩:=trodAll_cons hA;obtain⟨v1,vs1,d1,ds1,p1,q1,rfl,rfl,rfl,h1,r1⟩:=trodAll_cons r0;obtain⟨rfl,rfl,rfl⟩:=trodAll_nil r1;obtain rfl:args=#[v0,v1]:=by cases args;simp_all
 obtain⟨rfl,rfl⟩:=trodVars_none hV;obtain⟨D0,g0,n0,j0,m0,b0,P0,Q0,R0,rfl,w0⟩:=LM Tryz.underlying33 (by kernel_rfl) ⟨by kernel_rfl,by kernel_rfl⟩ ⟨by kernel_rfl,by kernel_rfl⟩ ⟨by kernel_rfl,by kernel_rfl⟩ ⟨by kernel_rfl,by kernel_rfl⟩ ⟨by kernel_rfl,by kernel_rfl⟩ Tryz.underlying25 (by kernel_rfl) Tryz.underlying9 Tryz.underlying22 Tryz.underlying3 Tryz.underlying4 Tryz.underlying23 Tryz.underlying115 (by kernel_rfl) (by kernel_rfl) Tryz.underlying3 Tryz.underlying9 Tryz.underlying3 (by kernel_rfl) (by kernel_rfl) Tryz.underlying27 (by kernel_rfl) Tryz.underlying3 Tryz.underlying3 Tryz.underlying30 (by kernel_rfl) Tryz.underlying28 Tryz.underlying3 Tryz.underlying31 Tryz.underlying42 ⟨by kernel_rfl,by kernel_rfl⟩ ⟨by kernel_rfl,by kernel_rfl⟩ ⟨by kernel_rfl,by kernel_rfl⟩ (by kernel_rfl) Tryz.underlying9 Tryz.underlying4 Tryz.underlying40 Tryz.underlying4 (by kernel_rfl) Tryz.underlying4 (hval 0 33 v0 rfl rfl) h0 (PJ hsz (j:=0) rfl rfl);obtain⟨a1,rfl,rfl,rfl,w1⟩:=open_string Tryz.underlying9 (hval 1 9 v1 rfl rfl) h1;clear hA0 hval0;simp only[List.append_nil]at hW';refine(walk W D0 g0 n0 j0 m0 b0 P0 Q0 R0 w0 a1 w1 (sized_string hsz (j:=1) rfl rfl)).mono fun e W' ⟨he,hb⟩=>?_
 subst he;exact⟨_,rfl,Mh (pa:=_) (pv:=[]) hW' (fun _ _ _=>(trodAll_cons_mk (shut_bool Tryz.underlying4 _) trodAll_mk0)) (fun sp hsp=>HV (by kernel_rfl) hb (by kernel_rfl) hAk (fun x hx=>hW'.lt x (by simpa using hx)) (fun x hx=>hsp x (by simpa using hx))) (fun _ _=>rfl) (by simp) hb (ok_one (by kernel_rfl) rfl (okWide_bool_mk Tryz.underlying4 _))⟩
theorem NI:Rows.BitmClearsSaid:=
 OpenClaim.holds_of_wide 3 Tryz.f3 rfl rfl rfl rfl rfl rfl rfl ⟨rfl,rfl,rfl,rfl,rfl⟩ rfl rfl rfl rfl rfl (by kernel_rfl) Tryz.func3 (by kernel_rfl)
  (of_decide_eq_true (by kernel_rfl)) (by unfold Func.isWrapper;first|(rw[if_pos (by decide+kernel)];kernel_rfl)|(rw[if_neg (by decide+kernel)];exact⟨rfl,rfl⟩))
  (fun os started H enc _=>lifted os started H enc)
theorem proved:Rows.BitmClearsCardSaid:=
 Claim7.holds_tied_plain_at .later [] [.data,.pinned] true (true,"0c58b2a2273f37811cc9d94c96387fcc33251b553504e44fb86b73f057d423b5") false
  NI (fun _ h=>by cases h) (by kernel_rfl) (fun _ h=>by cases h) bitmClears_row_tie rfl ⟨rfl,rfl⟩ (by kernel_rfl) rfl
  (fun f fn hf hfn=>by
   obtain rfl:f=3:=Option.some.inj ((show Tryz.prog.funcNamed "cofferdam/cofferdamlaw17.BitmClears" =some 3 by kernel_rfl).symm.trans hf)|>.symm;obtain rfl:fn=Tryz.f3:=(Option.some.inj (Tryz.func3.symm.trans hfn)).symm;exact⟨by kernel_rfl,fun j t ht=>by
    rw[Tryz.params3]at ht;have hm:t∈[33,9]:=by have:=Array.mem_of_getElem? ht;simpa using this
    have hall:([33,9].all fun u=>!Tryz.prog.wantsStandIn u)=true:=by kernel_rfl
    exact(show Tryz.prog.wantsStandIn t=false by simpa using List.all_eq_true.1 hall t hm)⟩)
  (by kernel_rfl)
#print axioms proved
end
end Go.Proofs.YtmiilfnchfdfcaaGreatDoor.bitmClears
