/- Be: Img5, Allocs, Table8, Table10, Table11, Point7. -/
import Derived.Test.YtmiilfnchfdfcaaGreatDoorBeImg4
set_option maxRecDepth 100000
set_option maxHeartbeats 40000000
set_option linter.unusedVariables false
namespace Go.Proofs.YtmiilfnchfdfcaaGreatDoor
section
open Go.RowKit Go.Shelf
attribute [local go_sem] Ad Af Ag Ab Ai Ah
def placeN (D:Dk)(k off:Int)(s:List UInt8):Nat->Dk×Int
 |0=>(D,0)
 |1=>Im.placeAt k off s 0 D
 |_=>Im.place D k off s
theorem Nf (D:Dk)(k off:Int)(s:List UInt8){i:Nat}(hi:i<2)(h:(placeN D k off s i).2=0):placeN D k off s (i+1)=Im.placeAt k off s i (placeN D k off s i).1:=by
 match i,hi with
 |0,_=>rfl
 |1,_=>
  have h':(Im.placeAt k off s 0 D).2=0:=h;show Dk.next (Im.placeAt k off s 0 D) _=_;rw[Dk.next_zero h'];rfl
theorem Ng (D:Dk)(k off:Int)(s:List UInt8){i:Nat}(hi:i<2)(h:(placeN D k off s (i+1)).2≠0):Im.place D k off s=placeN D k off s (i+1):=by
 match i,hi with
 |0,_=>
  have h':(Im.placeAt k off s 0 D).2≠0:=h;show Dk.next (Im.placeAt k off s 0 D) _=Im.placeAt k off s 0 D;rw[Dk.next,if_pos h']
 |1,_=>rfl
theorem Nd {D:Dk}(hD:D.fit=true)(k off:Int)(s:List UInt8)(i:Nat):(placeN D k off s i).1.fit=true:=by
 match i with
 |0=>exact hD
 |1=>exact Im.placeAt_fit hD k off s 0
 |i+2=>exact Im.place_fit hD k off s
theorem Nb {D:Dk}{k at9:Int}{s:List UInt8}{off i m a b:Nat}(hm:64*i=m)(ha:max off m=a)(hb:min (off+s.length) (m+64)=b)(h:b<=a):Im.placeAt k off s i D=(D,0):=by
 rw[Im.placeAt,if_pos (by omega)]
theorem Na {D:Dk}{k at9:Int}{s:List UInt8}{off i m a b:Nat}(hk:96+2*k=at9)(hm:64*i=m)(ha:max off m=a)(hb:min (off+s.length) (m+64)=b)(h:¬b<=a)(he:(D.read (at9+i)).2≠0):Im.placeAt k off s i D=(D,(D.read (at9+i)).2):=by
 rw[Im.placeAt,if_neg (by omega),hk,if_pos he]
theorem Nc {D:Dk}{k at9:Int}{s:List UInt8}{off i m a b u v z:Nat}(hk:96+2*k=at9)(hm:64*i=m)(ha:max off m=a)(hb:min (off+s.length) (m+64)=b)(h:¬b<=a)(hu:a-off=u)(hv:b-off=v)(hz:a-m=z)(he:(D.read (at9+i)).2=0):
 Im.placeAt k off s i D=D.write (at9+i) (over (D.read (at9+i)).1 z ((s.take v).drop u)):=by
 have e1:(max (off:Int) ((i:Int)*64)-(i:Int)*64).toNat=z:=by omega
 have e2:(min ((off:Int)+(s.length:Int)) (((i:Int)+1)*64)-(off:Int)).toNat=v:=by omega
 have e3:(max (off:Int) ((i:Int)*64)-(off:Int)).toNat=u:=by omega
 rw[Im.placeAt,if_neg (by omega),hk,if_neg (by rw[he];simp),e1,e2,e3]
theorem NI (x:Im)(p q r:Pl)(w:World)(hI:IsIm w x p q r)(hf:x.d.fit=true)(k off:Int)(s:List UInt8)(hk:0<=k/\k<256)(ho:0<=off)(hs:off+s.length<=128):
 CX 58 #[imval x p q r,.int .i64 k,.int .i64 off,.string (bs s)] w (RetIm w.heap.size x p q r ({x with d:=(Im.place x.d k off s).1},(Im.place x.d k off s).2)):=by
 have aa:=fun g (hg:w.heap.size<=g)=>hI.apart hg
 have ad:=fun W=>BR k (by omega) (by omega) W
 obtain⟨at9,h9⟩:∃at9:Int,96+2*k=at9:=⟨_,rfl⟩;have am:=hid h9;have aK: -10000<=at9/\at9<=10000:=by omega
 rw[h9]at ad;clear h9;obtain⟨D,g,h,⟨seq,pos⟩,maps,br⟩:=x;obtain⟨hd,hm⟩:=hI;simp only at aa hf hd hm;have ap:=hid (fun(W:World)(E:Dk)(P Q:Pl)(hD:IsDk W E P Q)(hE:E.fit=true)(a:Int)=>DC E P Q W hD a (Dk.fit_parts hE).2.2.1);have aj:=hid (fun(W:World)(E:Dk)(P Q:Pl)(hD:IsDk W E P Q)(a:Int)(ha: -9223372036854775808<=a/\a<=9223372036854775807)(T:List UInt8)(hT:T.length<=9223372036854775807)=>DD E P Q W hD a ha T hT);have a8:=hid (fun i=>Nd hf k off s i);have a7:=hid (fun i (hi:i<2)(h:(placeN D k off s i).2=0)=>Nf D k off s hi h);have a4:=hid (fun i (hi:i<2)(h:(placeN D k off s (i+1)).2≠0)=>Ng D k off s hi h);obtain⟨off,rfl⟩:=Int.eq_ofNat_of_zero_le ho;clear hf ho;obtain⟨A1,a1⟩:=p;obtain⟨A2,a2⟩:=q;obtain⟨A3,a3⟩:=r;have hB:=Y0 w;obtain⟨x,xk,xkf⟩:=Z11f (Am (Blk.new w 33) D A1 a1 A2 a2 g h seq pos A3 maps.length a3 br);have ac:=Ya hB x;have ax:=hd.below (Yb ac);have ay:=hm.below (Yb ac);have r:=apz (Yd ac 33);simp only[Ys]at r;have rk:=Aa r;have al:=r.fz;have hB_4:=Ya ac r;have hd_5:=ax.below (Yb hB_4);have hm_6:=ay.below (Yb hB_4);have x_7:=Yc x hB_4;go_enter Tryz.func58,Tryz.ntmps58;go_wp2_with fail
 go_loopw [10] (fun u W=>∃(i:Nat)(E:Dk)(P Q:Pl),i<=2/\u=.int .i64 i/\Hid (placeN D k off s i=(E,0))/\Blk W w.heap.size 33 #[.string (bs E.data),.slice P.a E.cache.length P.c,.int .i64 E.fuse,.bool E.off,.slice Q.a E.bad.length Q.c,.int .i64 g,.int .i64 h,.int .u64 seq,.int .i64 pos,.slice A3 maps.length a3,.bool br]/\Blk W (w.heap.size+1) 33 #[.string (bs []),.slice none 0 0,.int .i64 0,.bool false,.slice none 0 0,.int .i64 0,.int .i64 0,.int .u64 0,.int .i64 0,.slice none 0 0,.bool false]/\IsDk W E P Q/\IsMs W maps ⟨A3,a3⟩/\(∀g',g'<w.heap.size+2->DkOff g' D ⟨A1,a1⟩ ⟨A2,a2⟩->DkOff g' E P Q)/\Below w.heap.size w W) (fun u _=>2-(intOf u).toNat)
 case atStart=>exact⟨0,D,⟨A1,a1⟩,⟨A2,a2⟩,by omega,rfl,hid rfl,x_7,r,hd_5,hm_6,fun _ _ h=>h,hB_4⟩
 case round=>
  clear x_7 r rk hd_5 hm_6 hB_4 xkf al;obtain⟨i,E,⟨P1,c1⟩,⟨Q1,d1⟩,hi,rfl,HE,x,r,ds,ms,HO,b⟩:=hrel;simp only at x;have ox:=HO w.heap.size (by omega) (aa _ (Nat.le_refl _)).1;have or:=HO (w.heap.size+1) (by omega) (aa _ (by omega)).1;have mx:=(aa w.heap.size (Nat.le_refl _)).2;have mr:=(aa (w.heap.size+1) (by omega)).2;have xk:=Aa x;have xkf:=x.fz;have rk:=Aa r;have al:=r.fz;by_cases hlt:i<2
  · have av:E.fit=true:=by have:=a8.out i;rw[HE.out]at this;exact this
    have ah:=a7.out i hlt (by rw[HE.out]);rw[HE.out]at ah;simp only at ah;obtain⟨m,hm64⟩:∃m:Nat,64*i=m:=⟨_,rfl⟩;have em:(i:Int)*64=(m:Int):=by omega
    have aJ:((i:Int)+1)*64=(m:Int)+64:=by omega
    obtain⟨a,ha⟩:∃a:Nat,max off m=a:=⟨_,rfl⟩;obtain⟨bb,hbb⟩:∃b:Nat,min (off+s.length) (m+64)=b:=⟨_,rfl⟩;have q1:max (off:Int) (m:Int)=(a:Int):=by omega
    have q2:min ((off:Int)+(s.length:Int)) ((m:Int)+64)=(bb:Int):=by omega
    have q3:a<=128/\bb<=128/\m<=64:=by omega
    by_cases hba:bb<=a
    · have Hn:=hid (show placeN D k off s (i+1)=(E,0)from ah.trans (Nb (at9:=at9) hm64 ha hbb hba));have g1:decide (bb<=a)=true:=decide_eq_true hba;clear ap aj ad a8 a4 a7 ah HE ha hbb am;go_wp2_with fail
      go_roundw
      case rel=>exact⟨i+1,E,⟨P1,c1⟩,⟨Q1,d1⟩,by omega,by go_num,Hn,x,r,ds,ms,HO,b⟩
      case measure=>simp[intOf];omega
    · have g1:decide (bb<=a)=false:=decide_eq_false hba;have ar:=fun(W:World)(hW:Below wr.heap.size wr W)=>ap.out W E ⟨P1,c1⟩ ⟨Q1,d1⟩ ((ds).below hW) av (at9+(i:Int))
      have aw:=Dk.read_len av (at9+(i:Int));have a5:=fun he=>Dk.read_full av (k:=at9+(i:Int)) he
      have a9:=hid (fun he=>ah.trans (Na (D:=E) am.out hm64 ha hbb hba he));obtain⟨u,hu⟩:∃u:Nat,a-off=u:=⟨_,rfl⟩;obtain⟨v,hv⟩:∃v:Nat,bb-off=v:=⟨_,rfl⟩;obtain⟨z,hz⟩:∃z:Nat,a-m=z:=⟨_,rfl⟩;have a0:=hid (fun he=>ah.trans (Nc (D:=E) am.out hm64 ha hbb hba hu hv hz he));have q4:(a:Int)-(m:Int)=(z:Int):=by omega
      have q5:(a:Int)-(off:Int)=(u:Int):=by omega
      have q6:(bb:Int)-(off:Int)=(v:Int):=by omega
      have q7:u<=v/\v<=s.length/\s.length<=128/\z<=64/\z+(v-u)<=64:=by omega
      have wA:=i64w (x:=at9+(i:Int)) ⟨by omega,by omega⟩;generalize hR:E.read (at9+(i:Int))=R at ar aw a5 a9 a0;clear hR;obtain⟨T,er⟩:=R;simp only at ar aw a5 a9 a0;clear a7 ah ha hbb hu hv hz ap;go_wp2_with fail
      have aD:=El x;have D1:=fun e:Ext wr=>ad e.world
      have D2:=fun e:Ext wr=>ar e.world e.below
      refine Az mixed (by kernel_rfl) ?_
      repeat (go_big_quiet_step (((first|(go_at_call 63;with_reducible exact An (D1 _))|(go_at_call 98;with_reducible exact An (D2 _))))))
      refine wpQuiet_nil ?_;rintro V1 ⟨pq_,hpq_⟩;have ab:=pq_.below;rw[<-hpq_]at ab;clear hpq_ pq_;clear aD D1 D2 ar;replace b:=bt b ab;replace ds:=ds.below ab;replace ms:=ms.below ab;replace x:=x.bl ab;replace xk:=Aa x;replace xkf:=x.fz;replace r:=r.bl ab;replace rk:=Aa r;replace al:=r.fz;by_cases he:er=0
      · subst he;have aE:=a5 rfl;have aC:Pn.laidOver T (z:Int) ((s.take v).drop u)=(over T z ((s.take v).drop u),0):=by rw[Pn.laidOver,if_neg (by simp only[List.length_drop,List.length_take];omega),Int.toNat_natCast]
        have aH:((s.take v).drop u).length<=128:=by simp only[List.length_drop,List.length_take];omega
        have az:=fun W=>EO T ((s.take v).drop u) (z:Int) W (by omega) (by omega)
        rw[aC]at az;clear aC;have aF:(over T z ((s.take v).drop u)).length<=1000:=by simp only[over,List.length_append,List.length_drop,List.length_take];omega
        replace a0:=hid (a0.out rfl);generalize hU9:(s.take v).drop u=U9 at*;generalize over T z U9=T9 at az aF a0;clear a9 aw aH a5 aE;go_wp2_with fail
        refine((az _)).mono ?_;rintro e wb ⟨rfl,hbb2⟩;replace b:=bt b hbb2;replace ds:=ds.below hbb2;replace ms:=ms.below hbb2;replace x:=x.bl hbb2;replace xk:=Aa x;replace xkf:=x.fz;replace r:=r.bl hbb2;replace rk:=Aa r;replace al:=r.fz;go_upto_region 11 with fail
        have aB:=ds;have ak:=fun(W:World)(hW:Below wb.heap.size wb W)=>aj.out W E ⟨P1,c1⟩ ⟨Q1,d1⟩ (aB.below hW) (at9+(i:Int)) (by omega) T9 (by omega)
        generalize hFE:E.write (at9+(i:Int)) T9=FE at ak a0;obtain⟨F,ew⟩:=FE;obtain⟨wk,hwk⟩:∃wk:Int,at9+(i:Int)=wk:=⟨_,rfl⟩;clear hFE;simp only[hwk]at ak wA ⊢;replace aa:=fun g (hg:wb.heap.size<=g)=>aB.apart hg
        have xq:=x;have KX:=hid (fun(W:World)(hW:Below wb.heap.size wb W)=>Aa (xq.bl hW));clear xk rk xkf al
        go_cut [15,14] (fun sa sb W=>∃(gz:Nat)(p9 q9:Pl),sa=.pointer (some ⟨gz,0,none⟩)/\sb=.int .i64 ew/\wb.heap.size<=gz/\Blk W gz 25 #[.string (bs F.data),.slice p9.a F.cache.length p9.c,.int .i64 F.fuse,.bool F.off,.slice q9.a F.bad.length q9.c]/\IsDk W F p9 q9/\(∀g',g'<wb.heap.size->DkOff g' E ⟨P1,c1⟩ ⟨Q1,d1⟩->DkOff g' F p9 q9)/\Below wb.heap.size wb W)
        case first=>
         have KX:=KX.out;clear HO a0 a4 a8 aj HE r ms;have s0:Below wb.heap.size wb wb.drew:=(Below.refl _ _).drew;refine AV (S:=fun W=>Below wb.heap.size wb W) (late:=fun _=>false) (by kernel_rfl) ?_;generalize wb.drew=U0 at s0 ⊢;simp only[Nat.reduceAdd,Yn];refine Yt 0 67 (.pointer (some ⟨w.heap.size,0,none⟩)) rfl (by kernel_rfl) (fun _ _ _ h=>h) (fun W=>by first|rfl|go_simp) ?_;simp only[Yf];refine Yu 1 (some 68) (dval E ⟨P1,c1⟩ ⟨Q1,d1⟩) rfl (by kernel_rfl) (fun _ _ _ h=>h) (fun W hW=>by have h:=KX W hW;go_simp) s0 ?_;simp only[Yf];refine Yt 2 69 (.int .i64 k) rfl (by kernel_rfl) (fun _ _ _ h=>h) (fun W=>by first|rfl|go_simp) ?_;simp only[Yf];refine Yt 4 71 (.int .i64 (i:Int)) rfl (by kernel_rfl) (fun _ _ _ h=>h) (fun W=>by first|rfl|go_simp) ?_;simp only[Yf];refine Yt 6 73 (.string (bs T9)) rfl (by kernel_rfl) (fun _ _ _ h=>h) (fun W=>by first|rfl|go_simp) ?_;simp only[Yf];refine Bq (i:=3) (k:=11) (by kernel_rfl) rfl rfl rfl rfl (fun K hK=>?_) (fun K hK=>?_)
         · skip
           refine oper_enter' (f:=63) (args:=#[.int .i64 k]) (w':=U0) (by go_simp) ((ad U0).mono ?_);rintro e U1 ⟨rfl,hb0⟩;refine⟨_,rfl,?_⟩;show K (Act.put _ (some 70) _) _;have s1:=bt s0 hb0;refine hK _ _ (fun _ _=>s1) ?_;simp only[Yf];refine Yt 5 72 (.int .i64 wk) rfl (by kernel_rfl) (fun _ _ _ h=>h) (fun W=>by first|rfl|go_simp) ?_;simp only[Yf];refine Bq (i:=7) (k:=11) (by kernel_rfl) rfl rfl rfl rfl (fun K hK=>?_) (fun K hK=>?_)
           · skip
             refine oper_enter' (f:=62) (args:=#[dval E ⟨P1,c1⟩ ⟨Q1,d1⟩,.int .i64 wk,.string (bs T9)]) (w':=U1) (by go_simp) ((ak U1 s1).mono ?_);rintro e U2 ⟨⟨⟨P9,e9⟩,⟨Q9,f9⟩,rfl,d9,o9⟩,ab⟩;refine⟨_,rfl,?_⟩;show K (Act.put _ (some 74) _) _;have s2:=bt s1 ab;have O9:∀g',g'<wb.heap.size->DkOff g' E ⟨P1,c1⟩ ⟨Q1,d1⟩->DkOff g' F ⟨P9,e9⟩ ⟨Q9,f9⟩:=fun g' h1 h2=>o9 g' (Nat.lt_of_lt_of_le h1 s1.size) h2
             refine hK _ _ (fun _ _=>s2) ?_;simp only[Yf];refine Yt 8 66 (.tuple #[dval F ⟨P9,e9⟩ ⟨Q9,f9⟩,.int .i64 ew]) rfl (by kernel_rfl) (fun _ _ _ h=>h) (fun W=>by first|rfl|go_simp) ?_;simp only[Yf];refine Yt 9 75 (dval F ⟨P9,e9⟩ ⟨Q9,f9⟩) rfl (by kernel_rfl) (fun _ _ _ h=>h) (fun W=>by first|rfl|go_simp) ?_;simp only[Yf];refine Yt 10 76 (.int .i64 ew) rfl (by kernel_rfl) (fun _ _ _ h=>h) (fun W=>by first|rfl|go_simp) ?_;simp only[Yf];refine Ak (i:=11) (by kernel_rfl) rfl rfl (fun K hK=>?_);refine AJ (v:=.pointer (some ⟨U2.heap.size,0,none⟩)) (w':=U2.alloc (.cells #[.string (bs []),.slice none 0 0,.int .i64 0,.bool false,.slice none 0 0] 25)) (by go_simp) ?_;show K (Act.put _ (some 15) _) _;have s3:=s2.alloc s2.size (.cells #[.string (bs []),.slice none 0 0,.int .i64 0,.bool false,.slice none 0 0] 25);have bz:=Blk.new U2 25 #[.string (bs []),.slice none 0 0,.int .i64 0,.bool false,.slice none 0 0];have a6:wb.heap.size<=U2.heap.size:=s2.size;have og:=d9.apart (Nat.le_refl U2.heap.size);replace d9:=d9.below (Yb s3);refine hK _ _ (fun _ _=>s3) ?_;generalize U2.alloc (.cells #[.string (bs []),.slice none 0 0,.int .i64 0,.bool false,.slice none 0 0] 25)=U3 at s3 bz d9 ⊢;generalize U2.heap.size=gz at bz a6 og ⊢;simp only[Yf];refine Ak (i:=12) (by kernel_rfl) rfl rfl (fun K hK=>?_);have Yy:=ap5 (Ap bz) F P9 e9 Q9 f9;refine Yq Yy (by have H:=Yk5 bz Yy;go_simp) ?_;show K (Act.put _ none _) _;have af:=Yy;have bw:=Ym5 s3 Yy a6;have d5:=d9.ob bw og;refine hK _ _ (fun _ _=>bw) ?_
             try simp only[Yf]
             refine Yt 13 14 (.int .i64 ew) rfl (by kernel_rfl) (fun _ _ _ h=>h) (fun W=>by first|rfl|go_simp) ?_;simp only[Yf];refine AD (by kernel_rfl) ?_ _;go_wp2_with fail
             go_meet
             exact⟨gz,⟨P9,e9⟩,⟨Q9,f9⟩,rfl,rfl,a6,af,d5,O9,bw⟩
           · skip
             refine AJ (v:=.pointer (some ⟨U1.heap.size,0,none⟩)) (w':=U1.alloc (.cells #[.string (bs []),.slice none 0 0,.int .i64 0,.bool false,.slice none 0 0] 25)) (by go_simp) ?_;show K (Act.put _ (some 15) _) _;have s2:=s1.alloc s1.size (.cells #[.string (bs []),.slice none 0 0,.int .i64 0,.bool false,.slice none 0 0] 25);have bz:=Blk.new U1 25 #[.string (bs []),.slice none 0 0,.int .i64 0,.bool false,.slice none 0 0];have a6:wb.heap.size<=U1.heap.size:=s1.size;refine hK _ _ (fun _ _=>s2) ?_;generalize U1.alloc (.cells #[.string (bs []),.slice none 0 0,.int .i64 0,.bool false,.slice none 0 0] 25)=U2 at s2 bz ⊢;generalize U1.heap.size=gz at bz a6 ⊢;simp only[Yf];refine Ak (i:=7) (by kernel_rfl) rfl rfl (fun K hK=>?_);refine oper_enter' (f:=62) (args:=#[dval E ⟨P1,c1⟩ ⟨Q1,d1⟩,.int .i64 wk,.string (bs T9)]) (w':=U2) (by go_simp) ((ak U2 s2).mono ?_);rintro e U3 ⟨⟨⟨P9,e9⟩,⟨Q9,f9⟩,rfl,d9,o9⟩,hb2⟩;refine⟨_,rfl,?_⟩;show K (Act.put _ (some 74) _) _;have s3:=bt s2 hb2;have O9:∀g',g'<wb.heap.size->DkOff g' E ⟨P1,c1⟩ ⟨Q1,d1⟩->DkOff g' F ⟨P9,e9⟩ ⟨Q9,f9⟩:=fun g' h1 h2=>o9 g' (Nat.lt_of_lt_of_le h1 s2.size) h2
             have og:DkOff gz F ⟨P9,e9⟩ ⟨Q9,f9⟩:=o9 gz bz.lt (aa gz a6);replace bz:=bz.bl hb2;refine hK _ _ (fun _ _=>s3) ?_;simp only[Yf];refine Yt 8 66 (.tuple #[dval F ⟨P9,e9⟩ ⟨Q9,f9⟩,.int .i64 ew]) rfl (by kernel_rfl) (fun _ _ _ h=>h) (fun W=>by first|rfl|go_simp) ?_;simp only[Yf];refine Yt 9 75 (dval F ⟨P9,e9⟩ ⟨Q9,f9⟩) rfl (by kernel_rfl) (fun _ _ _ h=>h) (fun W=>by first|rfl|go_simp) ?_;simp only[Yf];refine Yt 10 76 (.int .i64 ew) rfl (by kernel_rfl) (fun _ _ _ h=>h) (fun W=>by first|rfl|go_simp) ?_;simp only[Yf];refine Ak (i:=12) (by kernel_rfl) rfl rfl (fun K hK=>?_);have Yy:=ap5 (Ap bz) F P9 e9 Q9 f9;refine Yq Yy (by have H:=Yk5 bz Yy;go_simp) ?_;show K (Act.put _ none _) _;have af:=Yy;have bw:=Ym5 s3 Yy a6;have d5:=d9.ob bw og;refine hK _ _ (fun _ _=>bw) ?_
             try simp only[Yf]
             refine Yt 13 14 (.int .i64 ew) rfl (by kernel_rfl) (fun _ _ _ h=>h) (fun W=>by first|rfl|go_simp) ?_;simp only[Yf];refine AD (by kernel_rfl) ?_ _;go_wp2_with fail
             go_meet
             exact⟨gz,⟨P9,e9⟩,⟨Q9,f9⟩,rfl,rfl,a6,af,d5,O9,bw⟩
         · skip
           refine AJ (v:=.pointer (some ⟨U0.heap.size,0,none⟩)) (w':=U0.alloc (.cells #[.string (bs []),.slice none 0 0,.int .i64 0,.bool false,.slice none 0 0] 25)) (by go_simp) ?_;show K (Act.put _ (some 15) _) _;have s1:=s0.alloc s0.size (.cells #[.string (bs []),.slice none 0 0,.int .i64 0,.bool false,.slice none 0 0] 25);have bz:=Blk.new U0 25 #[.string (bs []),.slice none 0 0,.int .i64 0,.bool false,.slice none 0 0];have a6:wb.heap.size<=U0.heap.size:=s0.size;refine hK _ _ (fun _ _=>s1) ?_;generalize U0.alloc (.cells #[.string (bs []),.slice none 0 0,.int .i64 0,.bool false,.slice none 0 0] 25)=U1 at s1 bz ⊢;generalize U0.heap.size=gz at bz a6 ⊢;simp only[Yf];refine Ak (i:=3) (by kernel_rfl) rfl rfl (fun K hK=>?_);refine oper_enter' (f:=63) (args:=#[.int .i64 k]) (w':=U1) (by go_simp) ((ad U1).mono ?_);rintro e U2 ⟨rfl,ab⟩;refine⟨_,rfl,?_⟩;show K (Act.put _ (some 70) _) _;have s2:=bt s1 ab;replace bz:=bz.bl ab;refine hK _ _ (fun _ _=>s2) ?_;simp only[Yf];refine Yt 5 72 (.int .i64 wk) rfl (by kernel_rfl) (fun _ _ _ h=>h) (fun W=>by first|rfl|go_simp) ?_;simp only[Yf];refine Ak (i:=7) (by kernel_rfl) rfl rfl (fun K hK=>?_);refine oper_enter' (f:=62) (args:=#[dval E ⟨P1,c1⟩ ⟨Q1,d1⟩,.int .i64 wk,.string (bs T9)]) (w':=U2) (by go_simp) ((ak U2 s2).mono ?_);rintro e U3 ⟨⟨⟨P9,e9⟩,⟨Q9,f9⟩,rfl,d9,o9⟩,hb2⟩;refine⟨_,rfl,?_⟩;show K (Act.put _ (some 74) _) _;have s3:=bt s2 hb2;have O9:∀g',g'<wb.heap.size->DkOff g' E ⟨P1,c1⟩ ⟨Q1,d1⟩->DkOff g' F ⟨P9,e9⟩ ⟨Q9,f9⟩:=fun g' h1 h2=>o9 g' (Nat.lt_of_lt_of_le h1 s2.size) h2
           have og:DkOff gz F ⟨P9,e9⟩ ⟨Q9,f9⟩:=o9 gz bz.lt (aa gz a6);replace bz:=bz.bl hb2;refine hK _ _ (fun _ _=>s3) ?_;simp only[Yf];refine Yt 8 66 (.tuple #[dval F ⟨P9,e9⟩ ⟨Q9,f9⟩,.int .i64 ew]) rfl (by kernel_rfl) (fun _ _ _ h=>h) (fun W=>by first|rfl|go_simp) ?_;simp only[Yf];refine Yt 9 75 (dval F ⟨P9,e9⟩ ⟨Q9,f9⟩) rfl (by kernel_rfl) (fun _ _ _ h=>h) (fun W=>by first|rfl|go_simp) ?_;simp only[Yf];refine Yt 10 76 (.int .i64 ew) rfl (by kernel_rfl) (fun _ _ _ h=>h) (fun W=>by first|rfl|go_simp) ?_;simp only[Yf];refine Ak (i:=12) (by kernel_rfl) rfl rfl (fun K hK=>?_);have Yy:=ap5 (Ap bz) F P9 e9 Q9 f9;refine Yq Yy (by have H:=Yk5 bz Yy;go_simp) ?_;show K (Act.put _ none _) _;have af:=Yy;have bw:=Ym5 s3 Yy a6;have d5:=d9.ob bw og;refine hK _ _ (fun _ _=>bw) ?_
           try simp only[Yf]
           refine Yt 13 14 (.int .i64 ew) rfl (by kernel_rfl) (fun _ _ _ h=>h) (fun W=>by first|rfl|go_simp) ?_;simp only[Yf];refine AD (by kernel_rfl) ?_ _;go_wp2_with fail
           go_meet
           exact⟨gz,⟨P9,e9⟩,⟨Q9,f9⟩,rfl,rfl,a6,af,d5,O9,bw⟩
        obtain⟨gz,⟨P9,e9⟩,⟨Q9,f9⟩,rfl,rfl,a6,af,d5,O9,bw9⟩:=hcut;have aG:=r.lt;clear a8 aj ak ad HE aa KX am aB;replace b:=bt b bw9;replace x:=x.bl bw9;replace r:=r.bl bw9;replace ms:=ms.below bw9;have gk:=blk5 af;have aM:=O9 w.heap.size (by omega) ox;have aL:=O9 (w.heap.size+1) (by omega) or;clear a6;have xk:=Aa x;have xkf:=x.fz;have rk:=Aa r;have al:=r.fz;have b_1:=(((((b).setCell (p:=⟨w.heap.size,0,none⟩) (by show _<=(w.heap.size:Nat);omega) (.string (bs F.data))).setCell (p:=⟨w.heap.size,1,none⟩) (by show _<=(w.heap.size:Nat);omega) (.slice P9 F.cache.length e9)).setCell (p:=⟨w.heap.size,2,none⟩) (by show _<=(w.heap.size:Nat);omega) (.int .i64 F.fuse)).setCell (p:=⟨w.heap.size,3,none⟩) (by show _<=(w.heap.size:Nat);omega) (.bool F.off)).setCell (p:=⟨w.heap.size,4,none⟩) (by show _<=(w.heap.size:Nat);omega) (.slice Q9 F.bad.length f9);have ms_2:=ms.ob b_1 (by assumption);have d5_3:=d5.ob b_1 (by assumption);have x_4:=(((((x).set 0 (.string (bs F.data))).set 1 (.slice P9 F.cache.length e9)).set 2 (.int .i64 F.fuse)).set 3 (.bool F.off)).set 4 (.slice Q9 F.bad.length f9);simp only[Ye]at x_4;have ao:=Aa x_4;obtain⟨r_5,an,ae⟩:=Z11f (Yi r b_1 (by omega));by_cases hw0:ew=0
        · subst hw0;have Hn:=hid (show placeN D k off s (i+1)=(F,0)from a0.out);clear a4 a0;go_wp2_with fail
          go_roundw
          case rel=>exact⟨i+1,F,⟨P9,e9⟩,⟨Q9,f9⟩,by omega,by go_num,Hn,x_4,r_5,d5_3,ms_2,fun g' h1 h2=>O9 g' (by omega) (HO g' h1 h2),b_1⟩
          case measure=>simp[intOf];omega
        · have n1:(ew !=0)=true:=bne_iff_ne.2 hw0;have Hr:=hid (show Im.place D k off s=(F,ew) by rw[a4.out i hlt (by rw[a0.out];exact hw0),a0.out]);clear a4 a0 hw0;go_wp2_with fail
          have aq:=ap11 (Al b_1 (g:=w.heap.size+1) (by omega)) F P9 e9 Q9 f9 g h seq pos A3 maps.length a3 br;have aA:=ms_2.oc aq (by assumption);have au:=d5_3.oc aq (by assumption);obtain⟨aI,yy⟩:=Z11 (Yh r_5 aq);go_wp2_with fail
          rw[Hr.out];exact retIm au aA (fun g' h1 h2=>⟨O9 g' (by omega) (HO g' (by omega) h2.1),h2.2⟩) aq (by simp[results,Tryz.results58,go_sem,yy]) rfl
      · have n1:(er !=0)=true:=bne_iff_ne.2 he;have H1:=hid (a9.out he);have Hr:=hid (show Im.place D k off s=(E,er) by rw[a4.out i hlt (by rw[H1.out];exact he),H1.out]);clear a4 a8 aj ad HE aa a9 a0 H1 he am a5;go_wp2_with fail
        have b_1:=ap11 (Al b (g:=w.heap.size+1) (by omega)) E P1 c1 Q1 d1 g h seq pos A3 maps.length a3 br;have ag:=ds.oc b_1 (by assumption);have ai:=ms.oc b_1 (by assumption);obtain⟨x_4,ao⟩:=Z11 (Yg x b_1 (by omega));obtain⟨r_5,an,ae⟩:=Z11f (Yh r b_1);have yy:=Aa r_5;go_wp2_with fail
        rw[Hr.out];exact retIm ag ai (fun g' h1 h2=>⟨HO g' (by omega) h2.1,h2.2⟩) b_1 (by simp[results,Tryz.results58,go_sem,yy]) rfl
  · obtain rfl:i=2:=by omega
    have Hr:=hid (show Im.place D k off s=(E,0)from HE.out);clear a7 a4 a8 ap aj ad HE aa;have b_1:=ap11 (Al b (g:=w.heap.size+1) (by omega)) E P1 c1 Q1 d1 g h seq pos A3 maps.length a3 br;have ag:=ds.oc b_1 (by assumption);have ai:=ms.oc b_1 (by assumption);obtain⟨x_4,ao⟩:=Z11 (Yg x b_1 (by omega));obtain⟨r_5,an,ae⟩:=Z11f (Yh r b_1);have yy:=Aa r_5;go_wp2_with fail
    rw[Hr.out];exact retIm ag ai (fun g' h1 h2=>⟨HO g' (by omega) h2.1,h2.2⟩) b_1 (by simp[results,Tryz.results58,go_sem,yy]) rfl
theorem Pn.both_err1 {D:Dk}{L:Pn}{k:Nat}{a e:Int}(h1:Pn.cntGet D L k=(a,e))(he:e≠0):Pn.both D L k=(0,e)/\Pn.stopsAt D L k=true:=by
 have h:Pn.both D L k=(0,e):=by rw[Pn.both,h1,if_pos he]
 exact⟨h,by simp[Pn.stopsAt,h,he]⟩
theorem Pn.both_err2 {D:Dk}{L:Pn}{k:Nat}{a b e:Int}(h1:Pn.cntGet D L k=(a,0))(h2:Pn.cntGet D Pn.none k=(b,e))(he:e≠0):Pn.both D L k=(0,e)/\Pn.stopsAt D L k=true:=by
 have h:Pn.both D L k=(0,e):=by rw[Pn.both,h1,h2,if_neg (by simp),if_pos he]
 exact⟨h,by simp[Pn.stopsAt,h,he]⟩
theorem Pn.both_sum {D:Dk}{L:Pn}{k:Nat}{a b:Int}(h1:Pn.cntGet D L k=(a,0))(h2:Pn.cntGet D Pn.none k=(b,0)):Pn.both D L k=(a+b,0)/\(Pn.stopsAt D L k=decide (a+b=0)):=by
 have h:Pn.both D L k=(a+b,0):=by rw[Pn.both,h1,h2,if_neg (by simp),if_neg (by simp)]
 exact⟨h,by simp[Pn.stopsAt,h]⟩
theorem Pn.find_stop {D:Dk}{L:Pn}{h:Nat}{k:Nat}{a e:Int}(hk:k<h)(hn:∀j,j<k->Pn.stopsAt D L j=false)(hb:Pn.both D L k=(a,e))(hs:Pn.stopsAt D L k=true):Pn.alFind D L h=if e≠0 then(0,e)else((k:Int),0):=by
 rw[Pn.alFind_hit (h:=(h:Int)) (k:=k) (by omega) hs hn,hb]
theorem Pn.next_stop {D:Dk}{L:Pn}{k:Nat}(hn:∀j,j<k->Pn.stopsAt D L j=false)(h:Pn.stopsAt D L k=false):∀j,j<k+1->Pn.stopsAt D L j=false:=fun j hj=>by
 rcases Nat.lt_or_eq_of_le (Nat.le_of_lt_succ hj)with h'|h'
 · exact hn j h'
 · rw[h'];exact h
theorem OI (D:Dk)(L:Pn)(p q p' q':Pl)(w:World)(hD:IsDk w D p q)(hL:IsPn w L p' q')(hf:D.fit=true)(hfl:L.Fit)(g:Int)(h:Nat)(hh:h<=256):
 CR 99 #[dval D p q,pval L p' q',gval g h] w (.tuple #[.int .i64 (Pn.alFind D L h).1,.int .i64 (Pn.alFind D L h).2]):=by
 have a6:=fun(W:World)(hb:Below w.heap.size w W)(k:Nat)=>Cq D L p q p' q' W (hD.below hb) (hL.below hb) hf hfl k
 have a7:=fun(W:World)(hb:Below w.heap.size w W)(k:Nat)=>Cq D Pn.none p q ⟨Option.none,0⟩ ⟨Option.none,0⟩ W (hD.below hb) (AI _) hf Pn.none_fit k
 have a8:=hid a6;have a9:=hid a7;have a4:=hid (fun k=>Pn.cntGet_le D L k);have a5:=hid (fun k=>Pn.cntGet_le D Pn.none k);clear a6 a7 hD hL hf hfl;obtain⟨A1,a1⟩:=p;obtain⟨A2,a2⟩:=q;obtain⟨B1,b1⟩:=p';obtain⟨B2,b2⟩:=q';have hB:=Y0 w;obtain⟨x,xk⟩:=Z5 (apc5 (Blk.new w 25) D A1 a1 A2 a2);have a3:=Ya hB x;have z:=apc2 (Yd a3 63) L B1 b1 B2 b2;simp only[Ys]at z;have zk:=blk2 z;have a0:=Ya a3 z;have aa:=Yc x a0;have y:=Yd a0 27 #[.int .i64 g,.int .i64 h];simp only[Ys]at y;have yk:=blk2 y;have hB_4:=Ya a0 y;obtain⟨x_5,ab⟩:=Z5 (Yc aa hB_4);obtain⟨z_6,ac⟩:=Z2 (Yc z hB_4);go_enter Tryz.func99,Tryz.ntmps99;go_wp2_with fail
 go_loopw [8] (fun v W=>∃m:Nat,m<=h/\v=.int .i64 m/\Hid (∀j,j<m->Pn.stopsAt D L j=false)/\Blk W w.heap.size 25 #[.string (bs D.data),.slice A1 D.cache.length a1,.int .i64 D.fuse,.bool D.off,.slice A2 D.bad.length a2]/\
  Blk W (w.heap.size+1) 63 #[.slice B1 L.targets.length b1,.slice B2 L.data.length b2]/\Blk W (w.heap.size+1+1) 27 #[.int .i64 g,.int .i64 h]/\Below w.heap.size w W) (fun v _=>h-(intOf v).toNat)
 case atStart=>exact⟨0,Nat.zero_le _,rfl,hid (fun j hj=>by omega),x_5,z_6,y,hB_4⟩
 case round=>
  obtain⟨m,hm,rfl,hno,x,z,y,hB⟩:=hrel;by_cases hlt:m<h
  · have q1:=fun W hb=>a8.out W hb m
    have q2:=fun W hb=>a9.out W hb m
    have l1:=a4.out m;have l2:=a5.out m;obtain⟨⟨a,e1⟩,hx1⟩:∃x,Pn.cntGet D L m=x:=⟨_,rfl⟩;obtain⟨⟨b,e2⟩,hx2⟩:∃x,Pn.cntGet D Pn.none m=x:=⟨_,rfl⟩;rw[hx1]at q1 l1;rw[hx2]at q2 l2;simp only at q1 q2 l1 l2;have X1:=hid hx1;have X2:=hid hx2;obtain⟨l1a,l1b⟩:=l1;obtain⟨l2a,l2b⟩:=l2;clear hx1 hx2;have xk:=blk5 x;have zk:=blk2 z;have yk:=blk2 y;go_wp2_with fail
    refine((q1 _ hB)).mono ?_;rintro e w1 ⟨rfl,hb1⟩;replace hB:=bt hB hb1;replace x:=x.bl hb1;replace xk:=blk5 x;replace z:=z.bl hb1;replace zk:=blk2 z;replace y:=y.bl hb1;replace yk:=blk2 y;by_cases he1:e1=0
    case neg=>
     have n1:(e1 !=0)=true:=by simpa using he1
     have Hr:=hid (show Pn.alFind D L h=(0,e1) by rw[Pn.find_stop hlt hno.out (Pn.both_err1 X1.out he1).1 (Pn.both_err1 X1.out he1).2,if_pos he1]);clear he1;go_wp2_with fail
     go_ret2
     rw[Hr.out];exact⟨rfl,hB⟩
    subst he1;go_wp2_with fail
    refine((q2 _ hB)).mono ?_;rintro e w2 ⟨rfl,hb2⟩;replace hB:=bt hB hb2;replace x:=x.bl hb2;replace xk:=blk5 x;replace z:=z.bl hb2;replace zk:=blk2 z;replace y:=y.bl hb2;replace yk:=blk2 y;by_cases he2:e2=0
    case neg=>
     have n1:(e2 !=0)=true:=by simpa using he2
     have Hr:=hid (show Pn.alFind D L h=(0,e2) by rw[Pn.find_stop hlt hno.out (Pn.both_err2 X1.out X2.out he2).1 (Pn.both_err2 X1.out X2.out he2).2,if_pos he2]);clear he2;go_wp2_with fail
     go_ret2
     rw[Hr.out];exact⟨rfl,hB⟩
    subst he2;have Hb:=hid (Pn.both_sum X1.out X2.out);by_cases h1:a=0
    · by_cases h2:b=0
      · subst h1;subst h2;have Hr:=hid (show Pn.alFind D L h=((m:Int),0) by rw[Pn.find_stop hlt hno.out Hb.out.1 (by rw[Hb.out.2];decide),if_neg (by simp)]);go_wp2_with fail
        go_ret2
        rw[Hr.out];exact⟨rfl,hB⟩
      · have n2:(b==0)=false:=by simpa using h2
        have Hn:=hid (Pn.next_stop hno.out (by rw[Hb.out.2];simp;omega));subst h1;clear h2;go_wp2_with fail
        go_roundw
        case rel=>exact⟨m+1,by omega,by go_num,Hn,x,z,y,hB⟩
        case measure=>simp[intOf];omega
    · have n2:(a==0)=false:=by simpa using h1
      have Hn:=hid (Pn.next_stop hno.out (by rw[Hb.out.2];simp;omega));clear h1;go_wp2_with fail
      go_roundw
      case rel=>exact⟨m+1,by omega,by go_num,Hn,x,z,y,hB⟩
      case measure=>simp[intOf];omega
  · obtain rfl:m=h:=by omega
    have Hr:=hid (show Pn.alFind D L m=(0,17)from Pn.alFind_miss (fun j hj=>hno.out j (by omega)));have yk:=blk2 y;go_wp2_with fail
    go_ret2
    rw[Hr.out];exact⟨rfl,hB⟩
theorem Ih (D:Dk)(L:Pn)(p q p' q':Pl)(w:World)(hD:IsDk w D p q)(hL:IsPn w L p' q')(hf:D.fit=true)(hfl:L.Fit)(g:Int)(h:Nat)(hh:h<=256):
 Calls Tryz.prog 59 #[dval D p q,pval L p' q',gval g h] w fun e w'=>∃p1 q1,e=.returned (.tuple #[pval (Pn.alTake D L h).1 p1 q1,.int .i64 (Pn.alTake D L h).2.1,.int .i64 (Pn.alTake D L h).2.2])/\IsPn w' (Pn.alTake D L h).1 p1 q1/\(∀x,x<w.heap.size->PnOff x L p' q'->PnOff x (Pn.alTake D L h).1 p1 q1)/\Below w.heap.size w w':=by
 have h1:=fun(W:World)(hb:Below w.heap.size w W)=>OI D L p q p' q' W (hD.below hb) (hL.below hb) hf hfl g h hh
 have h2:=fun(W:World)(hb:Below w.heap.size w W)(k:Int)(hk: -9223372036854775808<=k/\k<=9223372036854775807)=>DH D L p q p' q' W (hD.below hb) (hL.below hb) hf hfl k 1 (by omega)
 have am:=hid (fun g (hg:w.heap.size<=g)=>hL.apart hg);have Hz:=hid (fun(W:World)(hb:Below w.heap.size w W)=>hL.below hb);have hcs:=Pn.alFind_cases D L h;have Ht:=Pn.alTake.eq_1 D L h;generalize Pn.alFind D L h=S at h1 Ht hcs;obtain⟨k,e1⟩:=S;simp only at h1 Ht hcs;have hk:0<=k/\k<=256:=by
  rcases hcs with ⟨j,hj,e,_⟩|⟨_,e⟩
  · injection e with e _;omega
  · omega
 have Ht:=hid Ht;clear hcs hD hL hf hfl;have h3:=fun(W:World)(hb:Below w.heap.size w W)=>h2 W hb k (by omega)
 clear h2;generalize Pn.cntAdd D L k 1=N at h3 Ht;obtain⟨X,e2⟩:=N;obtain⟨A1,a1⟩:=p;obtain⟨A2,a2⟩:=q;obtain⟨B1,b1⟩:=p';obtain⟨B2,b2⟩:=q';have hB:=Y0 w;obtain⟨x,xk⟩:=Z5 (apc5 (Blk.new w 25) D A1 a1 A2 a2);have a6:=Ya hB x;have z:=apc2 (Yd a6 63) L B1 b1 B2 b2;simp only[Ys]at z;have zk:=blk2 z;have a5:=Ya a6 z;have ag:=Yc x a5;have y:=Yd a5 27 #[.int .i64 g,.int .i64 h];simp only[Ys]at y;have a4:=Ya a5 y;have ah:=Yc ag a4;have aj:=Yc z a4;have r:=Yd a4 63 #[.slice Option.none 0 0,.slice Option.none 0 0];simp only[Ys]at r;have rk:=blk2 r;have af:=r.fz;have a0:=Ya a4 r;obtain⟨ai,aa⟩:=Z5 (Yc ah a0);obtain⟨ak,ab⟩:=Z2 (Yc aj a0);obtain⟨a7,a8⟩:=Z2 (Yc y a0);go_enter Tryz.func59,Tryz.ntmps59;go_wp2_with fail
 refine((h1 _ a0)).mono ?_;rintro e w1 ⟨rfl,hb1⟩;replace hB:=bt a0 hb1;replace x:=ai.bl hb1;replace xk:=blk5 x;replace z:=ak.bl hb1;replace zk:=blk2 z;replace y:=a7.bl hb1;replace r:=r.bl hb1;replace rk:=blk2 r;replace af:=r.fz;clear a6 a5 ag a4 ah aj a0 aa ai ab ak a8 a7;have rl:w.heap.size+1+1+1<w1.heap.size:=r.lt;by_cases he:e1=0
 case neg=>
  have n1:(e1 !=0)=true:=by simpa using he
  have Hr:=hid (show Pn.alTake D L h=(L,0,e1) by rw[Ht.out,if_pos he]);clear he;go_wp2_with fail
  rw[Hr.out];have yy:=blk2 (ap2 (Aj r) L B1 b1 B2 b2);have b9:=ap2 (Ae hB (g:=w.heap.size+1+1+1) (by omega)) L B1 b1 B2 b2;refine bodyPost_ret (v:=.tuple #[pval L ⟨B1,b1⟩ ⟨B2,b2⟩,.int .i64 0,.int .i64 e1]) (by simp[results,Tryz.results59,go_sem,yy]) rfl ?_;exact⟨_,_,rfl,Hz.out _ b9,fun _ _ h=>h,b9⟩
 subst he;go_wp2_with fail
 refine((h3 _ hB)).mono ?_;rintro e w2 ⟨⟨p3,q3,rfl,i3,o3⟩,hb2⟩;replace hB:=bt hB hb2;replace x:=x.bl hb2;replace xk:=blk5 x;replace z:=z.bl hb2;replace zk:=blk2 z;replace y:=y.bl hb2;replace r:=r.bl hb2;replace rk:=blk2 r;replace af:=r.fz;have oy:=o3 (w.heap.size+1+1+1) rl (am.out _ (by omega));have ap:w.heap.size+1+1+1<w2.heap.size:=r.lt;have r0:=r;have ac:=hB;have j3:=i3;obtain⟨u,uk⟩:=Z2 (apc2 (Blk.new w2 63) X p3.a p3.c q3.a q3.c);have a3:=Ya hB u;obtain⟨ao,al⟩:=Z2 (Yc z a3);obtain⟨an,ae,a9⟩:=Z2f (Yc r a3);have ad:=i3.below (Yb a3);by_cases he:e2=0
 case neg=>
  have n1:(e2 !=0)=true:=by simpa using he
  have Hr:=hid (show Pn.alTake D L h=(L,0,e2) by rw[Ht.out,if_neg (by simp),if_pos he]);clear he;go_wp2_with fail
  rw[Hr.out];have yy:=blk2 ((ap2 (Aj r0) L B1 b1 B2 b2).alloc (.cells #[.slice p3.a X.targets.length p3.c,.slice q3.a X.data.length q3.c] 63));have b8:=ap2 (Ae ac (g:=w.heap.size+1+1+1) (by omega)) L B1 b1 B2 b2;have b9:=b8.alloc b8.size (.cells #[.slice p3.a X.targets.length p3.c,.slice q3.a X.data.length q3.c] 63);refine bodyPost_ret (v:=.tuple #[pval L ⟨B1,b1⟩ ⟨B2,b2⟩,.int .i64 0,.int .i64 e2]) (by simp[results,Tryz.results59,go_sem,yy]) rfl ?_;exact⟨_,_,rfl,Hz.out _ b9,fun _ _ h=>h,b9⟩
 subst he;have Hr:=hid (show Pn.alTake D L h=(X,k,0) by rw[Ht.out,if_neg (by simp),if_neg (by simp)]);go_wp2_with fail
 rw[Hr.out];have yy:=blk2 ((ap2 (Aj r0) X p3.a p3.c q3.a q3.c).alloc (.cells #[.slice p3.a X.targets.length p3.c,.slice q3.a X.data.length q3.c] 63));have b8:=ap2 (Ae ac (g:=w.heap.size+1+1+1) (by omega)) X p3.a p3.c q3.a q3.c;have b9:=b8.alloc b8.size (.cells #[.slice p3.a X.targets.length p3.c,.slice q3.a X.data.length q3.c] 63);refine bodyPost_ret (v:=.tuple #[pval X p3 q3,.int .i64 k,.int .i64 0]) (by simp[results,Tryz.results59,go_sem,yy]) rfl ?_;exact⟨_,_,rfl,(j3.off2 oy _ _).below (Yz _),fun g hg h=>o3 g (by omega) h,b9⟩
end
section
open Go.RowKit Go.Shelf
attribute [local go_sem] Ad Af Ag Ab Ai Ah Oper.semAt_some
def FreeP (D:Dk)(L:Pn)(h:Nat)(ys:List (Int×Int)):Prop:=∀y r,ys=y::r->y=Pn.alFind D L h
def FreeS (D:Dk)(L:Pn)(h:Nat)(ys:List (Int×Int)):Prop:=(ys=[]->Pn.alFind D L h=(0,17))/\FreeP D L h ys
theorem FreeP.next {D:Dk}{L:Pn}{h:Nat}{ys:List (Int×Int)}(hp:FreeP D L h ys){y:Int×Int}(hy:ys=[]->y=Pn.alFind D L h):FreeP D L h (ys++[y]):=by
 intro z r e;cases ys with
 |nil=>simp only[List.nil_append,List.cons.injEq]at e;rw[<-e.1];exact hy rfl
 |cons a l=>simp only[List.cons_append,List.cons.injEq]at e;rw[<-e.1];exact hp a l rfl
theorem FreeP.done {D:Dk}{L:Pn}{h:Nat}{ys:List (Int×Int)}{y:Int×Int}(hp:FreeP D L h (ys++[y])):FreeS D L h (ys++[y]):=⟨fun e=>absurd e (by simp),hp⟩
end
section
open Go.RowKit Go.Shelf
attribute [local go_sem] Ad Af Ag Ab Ai Ah
def Pn.st2 (L:Pn)(t:Int)(half:Pn->Int->List UInt8×Int):Nat->Pn->Prop
 |0,X=>X=L
 |1,X=>(half L 0).2=0/\L.set (96+2*t) (half L 0).1=(X,0)
 |2,X=>Pn.set2 L t half=(X,0)
 |_,_=>False
theorem Pn.st2_err {L X:Pn}{t:Int}{half:Pn->Int->List UInt8×Int}{i:Nat}(hi:i<2)(h:Pn.st2 L t half i X)(he:(half X i).2≠0):Pn.set2 L t half=(L,(half X i).2):=by
 rcases(show i=0\/i=1 by omega)with rfl|rfl
 · have h:X=L:=h;subst h
   change (half X 0).2≠0 at he
   show _=(X,(half X 0).2);rw[Pn.set2,if_pos he]
 · change (half X 1).2≠0 at he
   show _=(L,(half X 1).2);obtain⟨h1,h2⟩:(half L 0).2=0/\L.set (96+2*t) (half L 0).1=(X,0):=h;rw[Pn.set2,h2,if_neg (by simp[h1]),if_neg (by simp),if_pos he]
theorem Pn.st2_bad {L X:Pn}{t:Int}{half:Pn->Int->List UInt8×Int}{i:Nat}(hi:i<2)(h:Pn.st2 L t half i X)(h0:(half X i).2=0)(he:(X.set (96+2*t+i) (half X i).1).2≠0):
 Pn.set2 L t half=(L,(X.set (96+2*t+i) (half X i).1).2):=by
 rcases(show i=0\/i=1 by omega)with rfl|rfl
 · have h:X=L:=h;subst h
   change (half X 0).2=0 at h0
   have e:(96+2*t+(0:Nat):Int)=96+2*t:=by omega
   rw[e]at he ⊢
   change (X.set (96+2*t) (half X 0).1).2≠0 at he
   show _=(X,(X.set (96+2*t) (half X 0).1).2);rw[Pn.set2,if_neg (by simpa using h0),if_pos he]
 · change (half X 1).2=0 at h0
   change (X.set (96+2*t+1) (half X 1).1).2≠0 at he
   show _=(L,(X.set (96+2*t+1) (half X 1).1).2);obtain⟨h1,h2⟩:(half L 0).2=0/\L.set (96+2*t) (half L 0).1=(X,0):=h;rw[Pn.set2,h2,if_neg (by simp[h1]),if_neg (by simp),if_neg (by simpa using h0),if_pos he]
theorem Pn.st2_next {L X:Pn}{t:Int}{half:Pn->Int->List UInt8×Int}{i:Nat}(hi:i<2)(h:Pn.st2 L t half i X)(h0:(half X i).2=0)(h1:(X.set (96+2*t+i) (half X i).1).2=0):
 Pn.st2 L t half (i+1) (X.set (96+2*t+i) (half X i).1).1:=by
 rcases(show i=0\/i=1 by omega)with rfl|rfl
 · have h:X=L:=h;subst h;have e:(96+2*t+(0:Nat):Int)=96+2*t:=by omega
   rw[e]at h1 ⊢;exact⟨h0,Prod.ext rfl h1⟩
 · obtain⟨g1,g2⟩:(half L 0).2=0/\L.set (96+2*t) (half L 0).1=(X,0):=h;show Pn.set2 L t half=_;rw[Pn.set2,g2,if_neg (by simp[g1]),if_neg (by simp),if_neg (by simpa using h0),if_neg (by simpa using h1)];rfl
theorem Oj {V:World}(t:Int)(h0: -1000000<=t)(h1:t<=1000000)(e:Ext V):Calls Tryz.prog 63 #[.int .i64 t] e.world fun x w'=>x=.returned (.int .i64 (96+2*t))/\Below e.world.heap.size e.world w':=BR t h0 h1 e.world
def PnMade (w0:World)(B:Nat)(g0 g1:Nat)(L0:Pn)(pp qq:Pl)(Y:Pn)(er:Int)(v u:Value)(W:World):Prop:=
 ∃g p3 q3,v=.pointer (some ⟨g,0,none⟩)/\u=.int .i64 er/\w0.heap.size<=g/\Blk W g 63 #[.slice p3.a Y.targets.length p3.c,.slice q3.a Y.data.length q3.c]/\IsPn W Y p3 q3/\(∀h,h<B->PnOff h L0 pp qq->PnOff h Y p3 q3)/\Below w0.heap.size w0 W
theorem As {w W W':World}{a0 a1:Addr}{v0 v1:Value}(h:(W.cell? a0=some v0/\W.cell? a1=some v1)/\Below w.heap.size w W)(hb:Below W.heap.size W W'):(W'.cell? a0=some v0/\W'.cell? a1=some v1)/\Below w.heap.size w W':=
 ⟨⟨Av hb h.1.1,Av hb h.1.2⟩,bt h.2 hb⟩
theorem Er {w W:World}{b0 o0 o1:Nat}{v0 v1:Value}(h:(W.cell? ⟨b0,o0,none⟩=some v0/\W.cell? ⟨b0,o1,none⟩=some v1)/\Below w.heap.size w W)
 {g:Nat} (g0:b0≠g) (hg:w.heap.size<=g) (u v:Value):(((W.setCell ⟨g,0,none⟩ u).setCell ⟨g,1,none⟩ v).cell? ⟨b0,o0,none⟩=some v0/\((W.setCell ⟨g,0,none⟩ u).setCell ⟨g,1,none⟩ v).cell? ⟨b0,o1,none⟩=some v1)/\Below w.heap.size w ((W.setCell ⟨g,0,none⟩ u).setCell ⟨g,1,none⟩ v):=by
 have k:∀(b o:Nat)(x:Value),b≠g->W.cell? ⟨b,o,none⟩=some x->((W.setCell ⟨g,0,none⟩ u).setCell ⟨g,1,none⟩ v).cell? ⟨b,o,none⟩=some x:=fun b o x hb h=>by
  rw[World.cell?_setCell_other _ _ _ _ (by intro e;injection e with e;exact hb e.symm),World.cell?_setCell_other _ _ _ _ (by intro e;injection e with e;exact hb e.symm)];exact h
 exact⟨⟨k _ _ _ g0 h.1.1,k _ _ _ g0 h.1.2⟩,Ae h.2 hg u v⟩
theorem PX (D:Dk)(L:Pn)(p q p' q':Pl)(w:World)(hL:IsPn w L p' q')(f t:Int)(h:(f<0\/256<=f)\/(t<0\/256<=t)):
 CX 159 #[dval D p q,pval L p' q',.int .i64 f,.int .i64 t] w (RetPn w.heap.size L p' q' (Pn.tabCopy D L f t)):=by
 have Hz:=hid (fun(W:World)(hb:Below w.heap.size w W)=>hL.below hb);have Hr:=hid (show Pn.tabCopy D L f t=(L,10) by rw[Pn.tabCopy,if_pos h]);obtain⟨A1,a1⟩:=p;obtain⟨A2,a2⟩:=q;obtain⟨B1,b1⟩:=p';obtain⟨B2,b2⟩:=q';have hB:=Y0 w;have x:=apc5 (Blk.new w 25) D A1 a1 A2 a2;have a4:=Ya hB x;have z:=apc2 (Yd a4 63) L B1 b1 B2 b2;simp only[Ys]at z;have zk:=blk2 z;have a3:=Ya a4 z;have a8:=Yc x a3;have r:=Yd a3 63 #[.slice none 0 0,.slice none 0 0];simp only[Ys]at r;have rk:=blk2 r;have a7:=r.fz;have a0:=Ya a3 r;have a5:=Yc a8 a0;have a6:=Yc z a0;by_cases h1:f<0\/256<=f
 · have ho:=fun W=>CO f h1 W
   clear hL h h1;go_enter Tryz.func159,Tryz.ntmps159;go_wp2_with fail
   refine((ho _)).mono ?_;rintro e w1 ⟨rfl,hb1⟩;replace hB:=bt a0 hb1;replace x:=a5.bl hb1;replace z:=a6.bl hb1;replace zk:=blk2 z;replace r:=r.bl hb1;replace rk:=blk2 r;replace a7:=r.fz;clear a4 a3 a8 a0 a5 a6;go_wp2_with fail
   rw[Hr.out];have yy:=blk2 (ap2 (Aj r) L B1 b1 B2 b2);have b9:=ap2 (Ae hB (g:=w.heap.size+1+1) (by omega)) L B1 b1 B2 b2;exact retPn (Hz.out _ b9) (fun _ _ h=>h) b9 (by simp[results,Tryz.results159,go_sem,yy]) rfl
 · have ho:=fun W=>Cu f (by omega) (by omega) W
   have a9:=fun W=>CO t (h.resolve_left h1) W
   clear hL h h1;go_enter Tryz.func159,Tryz.ntmps159;go_wp2_with fail
   refine((ho _)).mono ?_;rintro e w1 ⟨rfl,hb1⟩;replace hB:=bt a0 hb1;replace x:=a5.bl hb1;replace z:=a6.bl hb1;replace zk:=blk2 z;replace r:=r.bl hb1;replace rk:=blk2 r;replace a7:=r.fz;clear a4 a3 a8 a0 a5 a6;go_wp2_with fail
   refine((a9 _)).mono ?_;rintro e w2 ⟨rfl,hb2⟩;replace hB:=bt hB hb2;replace x:=x.bl hb2;replace z:=z.bl hb2;replace zk:=blk2 z;replace r:=r.bl hb2;replace rk:=blk2 r;replace a7:=r.fz;go_wp2_with fail
   rw[Hr.out];have yy:=blk2 (ap2 (Aj r) L B1 b1 B2 b2);have b9:=ap2 (Ae hB (g:=w.heap.size+1+1) (by omega)) L B1 b1 B2 b2;exact retPn (Hz.out _ b9) (fun _ _ h=>h) b9 (by simp[results,Tryz.results159,go_sem,yy]) rfl
theorem PY (D:Dk)(L:Pn)(p q p' q':Pl)(w:World)(hD:IsDk w D p q)(hL:IsPn w L p' q')(hf:D.fit=true)(hfl:L.Fit)(f t:Int)(h:¬((f<0\/256<=f)\/(t<0\/256<=t))):
 CX 159 #[dval D p q,pval L p' q',.int .i64 f,.int .i64 t] w (RetPn w.heap.size L p' q' (Pn.tabCopy D L f t)):=by
 have ay:=hid (fun g (hg:w.heap.size<=g)=>hL.apart hg);have Hz:=hid (fun(W:World)(hb:Below w.heap.size w W)=>hL.below hb);have aC:=hid (fun(W:World)(hb:Below w.heap.size w W)=>hD.below hb);have Hr:=hid (show Pn.tabCopy D L f t=Pn.set2 L t (fun Q i=>Pn.look D Q (96+2*f+i)) by rw[Pn.tabCopy,if_neg h]);have ho:=fun W=>Cu f (by omega) (by omega) W
 have az:=fun W=>Cu t (by omega) (by omega) W
 have ap:=hid (fun(W:World)(X:Pn)(pp qq:Pl)(hX:IsPn W X pp qq)(hXf:X.Fit)(hb:Below w.heap.size w W)(k:Int)=>Co D X p q pp qq W (hD.below hb) hX k ((Dk.fit_parts hf).2.2.1) (by have:=hXf.2.1;omega) hXf.1);have al:=hid (fun(X:Pn)(hX:X.Fit)(k:Int)=>GQ hf hX k);have Hfl:=hid hfl;have f0:0<=f:=by omega
 have f1:f<256:=by omega
 have t0:0<=t:=by omega
 have t1:t<256:=by omega
 obtain⟨half,hhalf⟩:∃half:Pn->Int->List UInt8×Int,half=fun Q i=>Pn.look D Q (96+2*f+i):=⟨_,rfl⟩
 rw[<-hhalf]at Hr;have Hh:=hid (fun Q i=>show Pn.look D Q (96+2*f+i)=half Q i by rw[hhalf]);clear hL h hD hf hfl hhalf;obtain⟨A1,a1⟩:=p;obtain⟨A2,a2⟩:=q;obtain⟨B1,b1⟩:=p';obtain⟨B2,b2⟩:=q';have hB:=Y0 w;have x:=apc5 (Blk.new w 25) D A1 a1 A2 a2;have ac:=Ya hB x;have z:=apc2 (Yd ac 63) L B1 b1 B2 b2;simp only[Ys]at z;have zk:=blk2 z;have a7:=Ya ac z;have au:=Yc x a7;have r:=Yd a7 63 #[.slice none 0 0,.slice none 0 0];simp only[Ys]at r;have rk:=blk2 r;have a8:=Ya a7 r;have av:=Yc au a8;have aw:=Yc z a8;go_enter Tryz.func159,Tryz.ntmps159;go_wp2_with fail
 refine((ho _)).mono ?_;rintro e w1 ⟨rfl,hb1⟩;replace hB:=bt a8 hb1;replace x:=av.bl hb1;replace z:=aw.bl hb1;replace zk:=blk2 z;replace r:=r.bl hb1;replace rk:=blk2 r;clear ac a7 au a8 av aw;go_wp2_with fail
 refine((az _)).mono ?_;rintro e w2 ⟨rfl,hb2⟩;replace hB:=bt hB hb2;replace x:=x.bl hb2;replace z:=z.bl hb2;replace zk:=blk2 z;replace r:=r.bl hb2;replace rk:=blk2 r;have aF:w.heap.size+1+1<w2.heap.size:=r.lt;go_wp2_with fail
 obtain⟨y,yk⟩:=Z2 (apc2 (Blk.new w2 63) L B1 b1 B2 b2);have a3:=Ya hB y;have an:=Yc x a3;obtain⟨ao,ah⟩:=Z2 (Yc z a3);obtain⟨ag,a6⟩:=Z2 (Yc r a3);generalize (w2.alloc (.cells #[.slice B1 L.targets.length b1,.slice B2 L.data.length b2] 63))=V at a3 an ao ah ag a6 y yk ⊢;clear hB x z r zk rk;have hB:=a3;have x:=an;have z:=ao;have zk:=ah;have r:=ag;have rk:=a6;clear a3 an ao ah ag a6;go_loopw [11] (fun v W=>∃i:Nat,i<=2/\v=.int .i64 i/\∃X pp qq,Hid (Pn.st2 L t half i X)/\Hid X.Fit/\IsPn W X pp qq/\Hid (∀g,g<w2.heap.size+1->PnOff g L ⟨B1,b1⟩ ⟨B2,b2⟩->PnOff g X pp qq)/\
  Blk W w.heap.size 25 #[.string (bs D.data),.slice A1 D.cache.length a1,.int .i64 D.fuse,.bool D.off,.slice A2 D.bad.length a2]/\
  Blk W (w.heap.size+1) 63 #[.slice B1 L.targets.length b1,.slice B2 L.data.length b2]/\Blk W (w.heap.size+1+1) 63 #[.slice none 0 0,.slice none 0 0]/\
  Blk W w2.heap.size 63 #[.slice pp.a X.targets.length pp.c,.slice qq.a X.data.length qq.c]/\Below w.heap.size w W) (fun v _=>2-(intOf v).toNat)
 case atStart=>exact⟨0,by omega,rfl,L,⟨B1,b1⟩,⟨B2,b2⟩,hid rfl,Hfl,Hz.out _ hB,hid (fun g _ h=>h),x,z,r,y,hB⟩
 case round=>
  clear x z zk r rk y yk hB;obtain⟨i,hi,rfl,X,⟨P1,c1⟩,⟨P2,c2⟩,hst,hXf,hX,hoff,x,z,r,y,hB⟩:=hrel;have a9:=hid (fun g (hg:w.heap.size<=g)(hg':g<w2.heap.size+1)=>hoff.out g hg' (ay.out g hg));by_cases hlt:i<2
  · have i1:(i:Int)<2:=by omega
    have ae:=al.out X hXf.out (96+2*f+(i:Int));have ai:=ap.out wr X ⟨P1,c1⟩ ⟨P2,c2⟩ hX hXf.out hB (96+2*f+(i:Int));have ai:=fun(e:Ext wr)=>ap.out e.world X ⟨P1,c1⟩ ⟨P2,c2⟩ (hX.below e.below) hXf.out (bt hB e.below) (96+2*f+(i:Int))
    rw[Hh.out]at ae;simp only[Hh.out]at ai;have ab:=hid (Pn.st2_err (half:=half) hlt hst.out);have aa:=hid (Pn.st2_bad (half:=half) hlt hst.out);have a5:=hid (Pn.st2_next (half:=half) hlt hst.out);generalize half X i=S at ai ab aa a5 ae;obtain⟨s,er⟩:=S;simp only at ai ae;have hE:=Oj (V:=wr) f (by omega) (by omega);have ar:=i64w (x:=96+2*f+(i:Int)) (by omega);have K1:=ext2 y;have K2:=ext5 x;go_wp2_with fail
    refine Az mixed (by kernel_rfl) ?_
    repeat (go_big_quiet_step (((first|(go_at_call 63;with_reducible exact An (hE _))|(go_at_call 71;with_reducible exact An (ai _))))))
    refine wpQuiet_nil ?_;rintro w3 ⟨pq_,hpq_⟩;have ad:=pq_.below;rw[<-hpq_]at ad;clear hpq_ pq_;clear ai hE K1 K2 ar;replace x:=x.bl ad;replace z:=z.bl ad;replace r:=r.bl ad;replace y:=y.bl ad;replace hX:=hX.below ad;replace hB:=bt hB ad;have yl:w2.heap.size<w3.heap.size:=y.lt;have zk:=blk2 z;have rk:=blk2 r;have yk:=blk2 y;have rf:=r.fz;have yf:=y.fz;by_cases he:er=0
    case neg=>
     have n1:(er !=0)=true:=by simpa using he
     have Hq:=hid (ab.out he);clear he;go_wp2_with fail
     rw[Hr.out,Hq.out];have yy:=blk2 (ap2 (Aj r) L B1 b1 B2 b2);have b9:=ap2 (Ae hB (g:=w.heap.size+1+1) (by omega)) L B1 b1 B2 b2;exact retPn (Hz.out _ b9) (fun _ _ h=>h) b9 (by simp[results,Tryz.results159,go_sem,yy]) rfl
    subst he;have a4:=hid (aa.out rfl);have a0:=hid (a5.out rfl);clear aa a5 ab;have ar:=i64w (x:=96+2*t+(i:Int)) (by omega);have aq:=fun W=>BR t (by omega) (by omega) W
    have hs:=fun(W:World)(hb:Below w3.heap.size w3 W)=>Cp X ⟨P1,c1⟩ ⟨P2,c2⟩ W (hX.below hb) (96+2*t+(i:Int)) (by omega) s (by omega) (by have:=hXf.out.2.1;omega) hXf.out.1
    have ak:=Pn.set_fit hXf.out (96+2*t+(i:Int)) s;generalize X.set (96+2*t+(i:Int)) s=N at hs a4 a0 ak;obtain⟨Y,er2⟩:=N;simp only at ak hs;have aj:=hid (fun g (hg:w3.heap.size<=g)=>hX.apart hg);have s0:(w3.drew.cell? ⟨w2.heap.size,0,none⟩=some (.slice P1 X.targets.length c1)/\w3.drew.cell? ⟨w2.heap.size,1,none⟩=some (.slice P2 X.data.length c2))/\Below w3.heap.size w3 w3.drew:=⟨yk,(Below.refl _ _).drew⟩;clear zk rk yk;go_upto_region 10 with fail
    go_cut [13,14] (fun s13 s14 wx=>PnMade w3 w3.heap.size w3.heap.size w3.heap.size X ⟨P1,c1⟩ ⟨P2,c2⟩ Y er2 s14 s13 wx)
    case first=>
     go_region_held3 (fun W=>(W.cell? ⟨w2.heap.size,0,none⟩=some (.slice P1 X.targets.length c1)/\W.cell? ⟨w2.heap.size,1,none⟩=some (.slice P2 X.data.length c2))/\Below w3.heap.size w3 W)
      (first|exact s0|exact As s0 hbl1|exact As (As s0 hbl1) hbl2|exact As s0 (Yz _)|exact As (As s0 hbl1) (Yz _)|exact As (As s0 (Yz _)) hbl1|exact As (As (As s0 hbl1) hbl2) (Yz _)|exact As (As (As s0 hbl1) (Yz _)) hbl2|exact As (As (As s0 (Yz _)) hbl1) hbl2|exact Er (As (As (As s0 hbl1) hbl2) (Yz _)) (by omega) (by first|omega|(simp;omega)) _ _|exact Er (As (As (As s0 hbl1) (Yz _)) hbl2) (by omega) (by first|omega|(simp;omega)) _ _|exact Er (As (As (As s0 (Yz _)) hbl1) hbl2) (by omega) (by first|omega|(simp;omega)) _ _)
      (first|(go_at_call 63;refine(aq _).mono ?_;rintro e W1 ⟨rfl,hbl1⟩;have z1:w3.heap.size<=W1.heap.size:=(by have:=hbl1.size;first|omega|(simp at this;omega));try (have am:=((Blk.new w3 63 #[.slice none 0 0,.slice none 0 0]).drew).below hbl1 ((Blk.new w3 63 #[.slice none 0 0,.slice none 0 0]).drew).lt;have aD:=blk2 am;have aE:=am.frozen))|(go_at_call 50;refine(hs _ (by first|exact(As s0 hbl1).2|exact(As (As s0 hbl1) (Yz _)).2|exact(As (As s0 (Yz _)) hbl1).2)).mono ?_;rintro e W2 ⟨⟨p3,q3,rfl,i3,o3⟩,hbl2⟩;have z2:W1.heap.size<=W2.heap.size:=(by have:=hbl2.size;first|omega|(simp at this;omega));try (first|(have af:=am.bl hbl2;have aA:=blk2 af;have aB:=af.frozen)|(have af:=(Blk.new W1 63 #[.slice none 0 0,.slice none 0 0]).below hbl2 (Blk.new W1 63 #[.slice none 0 0,.slice none 0 0]).lt;have aA:=blk2 af;have aB:=af.frozen))))
     · go_wp2_with fail
       go_meet
       have b9:=(As (As s0 hbl1) hbl2).2.alloc ((As (As s0 hbl1) hbl2).2.size) (.cells #[.slice p3.a Y.targets.length p3.c,.slice q3.a Y.data.length q3.c] 63);exact⟨W2.heap.size,p3,q3,rfl,rfl,by omega,Blk.new W2 _ _,i3.below (Yz _),fun h hh ho=>o3 h (by omega) ho,b9⟩
     · go_wp2_with fail
       go_meet
       have b9:=ap2 (Ae (As (As (As s0 hbl1) (Yz _)) hbl2).2 (g:=W1.heap.size) z1) Y p3.a p3.c q3.a q3.c;exact⟨W1.heap.size,p3,q3,rfl,rfl,z1,Aj af _ _,i3.off2 (o3 W1.heap.size (by simp) (aj.out _ z1)) _ _,fun h hh ho=>o3 h (by simp;omega) ho,b9⟩
     · go_wp2_with fail
       go_meet
       have b9:=ap2 (Ae (As (As (As s0 (Yz _)) hbl1) hbl2).2 (g:=w3.heap.size) (Nat.le_refl _)) Y p3.a p3.c q3.a q3.c;have z3:w3.heap.size<W1.heap.size:=by have:=hbl1.size;simp at this;omega
       exact⟨w3.heap.size,p3,q3,rfl,rfl,Nat.le_refl _,Aj af _ _,i3.off2 (o3 w3.heap.size z3 (aj.out _ (Nat.le_refl _))) _ _,fun h hh ho=>o3 h (by omega) ho,b9⟩
    case rest=>
    obtain⟨gu,p3,q3,rfl,rfl,hgu,u,i3,o3,hb5⟩:=hcut;replace x:=x.bl hb5;replace z:=z.bl hb5;replace r:=r.bl hb5;replace y:=y.bl hb5;replace hB:=bt hB hb5;have oy:=o3 w2.heap.size (by omega) (a9.out _ (by omega) (by omega));have or:=o3 (w.heap.size+1+1) (by omega) (a9.out _ (by omega) (by omega));clear hX s0 aq hs rf yf;have zk:=blk2 z;have rk:=blk2 r;have yk:=blk2 y;have uk:=blk2 u;have rf:=r.fz;have yf:=y.fz;by_cases he:er2=0
    case neg=>
     have n1:(er2 !=0)=true:=by simpa using he
     have Hq:=hid (a4.out he);clear he;go_wp2_with fail
     rw[Hr.out,Hq.out];have yy:=blk2 (ap2 (Aj r) L B1 b1 B2 b2);have b9:=ap2 (Ae hB (g:=w.heap.size+1+1) (by omega)) L B1 b1 B2 b2;exact retPn (Hz.out _ b9) (fun _ _ h=>h) b9 (by simp[results,Tryz.results159,go_sem,yy]) rfl
    subst he;have Hn:=hid (a0.out rfl);have ax:=hid ak;clear a0 a4 ak;go_wp2_with fail
    go_roundw
    case rel=>
     have o4:PnOff w2.heap.size Y p3 q3:=oy;exact⟨i+1,by omega,by go_num,Y,p3,q3,Hn,ax,i3.off2 o4 _ _,hid (fun g hg h=>o3 g (by omega) (hoff.out g hg h)),AQ x (g:=w2.heap.size) (by omega) _ _,AQ z (g:=w2.heap.size) (by omega) _ _,AQ r (g:=w2.heap.size) (by omega) _ _,Aj y _ _,Ae hB (g:=w2.heap.size) (by omega) _ _⟩
    case measure=>simp[intOf];omega
  · obtain rfl:i=2:=by omega
    have Hq:=hid (show Pn.set2 L t half=(X,0)from hst.out);have or:=a9.out (w.heap.size+1+1) (by omega) (by omega);have yk:=blk2 y;have rk:=blk2 r;have rf:=r.fz;go_wp2_with fail
    rw[Hr.out,Hq.out];have yy:=blk2 (ap2 (Aj r) X P1 c1 P2 c2);have b9:=ap2 (Ae hB (g:=w.heap.size+1+1) (by omega)) X P1 c1 P2 c2;exact retPn (hX.off2 or _ _) (fun g hg h=>hoff.out g (by omega) h) b9 (by simp[results,Tryz.results159,go_sem,yy]) rfl
theorem PW (D:Dk)(L:Pn)(p q p' q':Pl)(w:World)(hD:IsDk w D p q)(hL:IsPn w L p' q')(hf:D.fit=true)(hfl:L.Fit)(f t:Int):
 CX 159 #[dval D p q,pval L p' q',.int .i64 f,.int .i64 t] w (RetPn w.heap.size L p' q' (Pn.tabCopy D L f t)):=by
 by_cases h:(f<0\/256<=f)\/(t<0\/256<=t)
 · exact PX D L p q p' q' w hL f t h
 · exact PY D L p q p' q' w hD hL hf hfl f t h
set_option linter.unusedSimpArgs false
def Zr (W:World)(g:Nat):Prop:=∀j,j<64->W.cell? ⟨g,j,none⟩=some (.int .u8 0)
theorem Jn (W:World)(t:TypeId):Zr (W.alloc (.cells (madeCells #[.int .u8 0] 64) t)) W.heap.size:=fun j hj=>by
 have h:=(Blk.new W t (madeCells #[.int .u8 0] 64)).cell j;rw[h];simp[madeCells,hj,Nat.mod_one]
theorem Ji {W:World}{g:Nat}(h:Zr W g)(o:Obj):Zr (W.alloc o) g:=fun j hj=>Av (Yz o) (h j hj)
theorem Jk {W W':World}{g:Nat}(h:Zr W g)(hb:Below W.heap.size W W'):Zr W' g:=fun j hj=>Av hb (h j hj)
theorem Fi {W:World}{t:TypeId}{g:Nat}(h:g=W.heap.size):Zr (W.alloc (.cells (madeCells #[.int .u8 0] 64) t)) g:=h▸Jn W t
theorem Jj {W:World}{t:TypeId}{g:Nat}{o:Obj}(h:g=W.heap.size):Zr ((W.alloc (.cells (madeCells #[.int .u8 0] 64) t)).alloc o) g:=Ji (Fi h) o
theorem Jm {W:World}{g:Nat}(h:Zr W g):Zr W.drew g:=h
theorem Re {W:World}{t:TypeId}{g:Nat}(h:g=W.heap.size):Zr (W.alloc (.cells (madeCells #[.int .u8 0] 64) t)).drew g:=Jm (Fi h)
theorem Rd {W:World}{t:TypeId}{g:Nat}{o:Obj}(h:g=W.heap.size):Zr ((W.alloc (.cells (madeCells #[.int .u8 0] 64) t)).alloc o).drew g:=Jm (Jj h)
theorem Jl {W:World}{g:Nat}(h:Zr W g):(convert 139 9 (.slice (some ⟨g,0,none⟩) 64 64)).run Tryz.prog W=.ok (.string (bs (List.replicate 64 0))) W:=by
 have:=run_convert_bytes_back (P:=Tryz.prog) W 139 9 5 ⟨g,0,none⟩ 64 (List.replicate 64 0) Tryz.underlying139 Tryz.underlying5 Tryz.underlying9 (fun j hj=>by
  have h2:=h j (by simpa using hj);have e:(⟨g,0,none⟩:Addr).add j=⟨g,j,none⟩:=by by_cases hz:j=0<;>simp[Addr.add,hz]
  rw[e,h2,List.getElem_replicate];rfl)
 exact this
theorem Rf (W:World):(Instr.makeSlice 139 (.int .i64 64) (.int .i64 64)).run Tryz.prog W=.ok (.slice (some ⟨W.heap.size,0,none⟩) 64 64) (W.alloc (.cells (madeCells #[.int .u8 0] 64) 5)):=by
 obtain⟨i0,hi,hz0,hz1,hz2⟩:=info_parts Tryz.infoByte;have:=BK (P:=Tryz.prog) 139 5 i0 (.int .u8 0) Tryz.underlying139 hi hz0 .i64 .i64 64 64 (Nat.le_refl _) (by rw[hz2];omega) (by omega) W;rw[hz1]at this;exact this
section
variable {P:Program} {ops:Array Oper} {Q:Exit->Act->World->Prop} {md:Region.Mode} {S:World->Prop} {late:Nat->Bool}
theorem QX {i j k:Nat}{o o1 o2:Oper}{fuel:Nat}{listed:Array Bool}{a:Act}{w₀:World}(hr:Region.ready md ops listed=[i,j,k])(ho:ops[i]? =some o)(hg:o.guard=none)(ho1:ops[j]? =some o1)(hg1:o1.guard=none)(ho2:ops[k]? =some o2)(hg2:o2.guard=none)
 (h:∀K':Act->World->Prop,(∀a w,(late i=false->S w₀->S w)->wpLate P md ops Q S late fuel (listed.setIfInBounds i true) a w->K' a w)->o.wp P a w₀ K' Q)
 (h1:∀K':Act->World->Prop,(∀a w,(late j=false->S w₀->S w)->wpLate P md ops Q S late fuel (listed.setIfInBounds j true) a w->K' a w)->o1.wp P a w₀ K' Q)
 (h2:∀K':Act->World->Prop,(∀a w,(late k=false->S w₀->S w)->wpLate P md ops Q S late fuel (listed.setIfInBounds k true) a w->K' a w)->o2.wp P a w₀ K' Q):wpLate P md ops Q S late (fuel+1) listed a w₀:=
 ⟨fun h0=>(by rw[hr]at h0;cases h0),fun x hx=>by
  rw[hr]at hx
  rcases List.mem_cons.1 hx with hx|hx
  · rw[hx];refine wpOp_step ho fun K' hK=>?_
    rw[if_pos (by simp[Region.wanted,hg])];exact h K' fun a w h1 h2=>hK a w ⟨h1,h2⟩
  rcases List.mem_cons.1 hx with hx|hx
  · rw[hx];refine wpOp_step ho1 fun K' hK=>?_
    rw[if_pos (by simp[Region.wanted,hg1])];exact h1 K' fun a w h1 h2=>hK a w ⟨h1,h2⟩
  · rw[List.mem_singleton.1 hx];refine wpOp_step ho2 fun K' hK=>?_
    rw[if_pos (by simp[Region.wanted,hg2])];exact h2 K' fun a w h1 h2=>hK a w ⟨h1,h2⟩⟩
theorem Jc (i j k:Nat){o o1 o2:Oper}{fuel:Nat}{listed:Array Bool}{a:Act}{w₀:World}(hr:Region.ready md ops listed=[i,j,k])(ho:ops[i]? =some o)(hg:o.guard=none)(ho1:ops[j]? =some o1)(hg1:o1.guard=none)(ho2:ops[k]? =some o2)(hg2:o2.guard=none)
 (h:∀K':Act->World->Prop,(∀a w,(late i=false->S w₀->S w)->wpLate P md ops Q S late fuel (listed.setIfInBounds i true) a w->K' a w)->Up i (o.wp P a w₀ K' Q))
 (h1:∀K':Act->World->Prop,(∀a w,(late j=false->S w₀->S w)->wpLate P md ops Q S late fuel (listed.setIfInBounds j true) a w->K' a w)->Up j (o1.wp P a w₀ K' Q))
 (h2:∀K':Act->World->Prop,(∀a w,(late k=false->S w₀->S w)->wpLate P md ops Q S late fuel (listed.setIfInBounds k true) a w->K' a w)->Up k (o2.wp P a w₀ K' Q)):
 wpLate P md ops Q S late (fuel+1) listed a w₀:=QX hr ho hg ho1 hg1 ho2 hg2 (fun K' hK=>(h K' hK).out) (fun K' hK=>(h1 K' hK).out) fun K' hK=>(h2 K' hK).out
theorem G4 {o:Oper}{a:Act}{w w':World}{f:FuncId}{args:Array Value}{K:Act->World->Prop}(hr:(execOp a.eval o).run P w=.ok (.enter f args) w')
 (h:Calls P f args w' fun e w''=>∃v,e=.returned v/\K (a.put o.dst v) w''):o.wp P a w K Q:=by
 simp only[Oper.wp,hr,Oper.upon];refine h.mono ?_;rintro e w'' ⟨v,rfl,hv⟩;exact hv
end
theorem PS (L:Pn)(p' q':Pl)(w:World)(hL:IsPn w L p' q')(t:Int)(h:t<0\/256<=t):
 CX 158 #[pval L p' q',.int .i64 t] w (RetPn w.heap.size L p' q' (Pn.tabBlank L t)):=by
 have Hz:=hid (fun(W:World)(hb:Below w.heap.size w W)=>hL.below hb);have Hr:=hid (show Pn.tabBlank L t=(L,10) by rw[Pn.tabBlank,if_pos h]);have ho:=fun W=>CO t h W
 clear hL h;obtain⟨B1,b1⟩:=p';obtain⟨B2,b2⟩:=q';have hB:=Y0 w;obtain⟨z,zk⟩:=Z2 (apc2 (Blk.new w 63) L B1 b1 B2 b2);have a0:=Ya hB z;have r:=Yd a0 63 #[.slice none 0 0,.slice none 0 0];simp only[Ys]at r;have rk:=blk2 r;have a4:=r.fz;have a1:=Ya a0 r;obtain⟨a3,a2⟩:=Z2 (Yc z a1);go_enter Tryz.func158,Tryz.ntmps158;go_wp2_with fail
 refine((ho _)).mono ?_;rintro e w1 ⟨rfl,hb1⟩;replace hB:=bt a1 hb1;replace z:=a3.bl hb1;replace zk:=blk2 z;replace r:=r.bl hb1;replace rk:=blk2 r;replace a4:=r.fz;clear a0 a1 a2 a3;have rl:w.heap.size+1<w1.heap.size:=r.lt;go_wp2_with fail
 rw[Hr.out];have yy:=blk2 (ap2 (Aj r) L B1 b1 B2 b2);have b9:=ap2 (Ae hB (g:=w.heap.size+1) (by omega)) L B1 b1 B2 b2;exact retPn (Hz.out _ b9) (fun _ _ h=>h) b9 (by simp[results,Tryz.results158,go_sem,yy]) rfl
attribute [local go_sem] Fi Jj Re Rd Ji Jl Rf
theorem PU (L:Pn)(p' q':Pl)(w:World)(hL:IsPn w L p' q')(hfl:L.Fit)(t:Int)(h:¬(t<0\/256<=t)):
 CX 158 #[pval L p' q',.int .i64 t] w (RetPn w.heap.size L p' q' (Pn.tabBlank L t)):=by
 have al:=hid (fun g (hg:w.heap.size<=g)=>hL.apart hg);have Hz:=hid (fun(W:World)(hb:Below w.heap.size w W)=>hL.below hb);have Hr:=hid (show Pn.tabBlank L t=Pn.set2 L t (fun _ _=>(List.replicate 64 0,0)) by rw[Pn.tabBlank,if_neg h]);have ho:=fun W=>Cu t (by omega) (by omega) W
 have Hfl:=hid hfl;have t0:0<=t:=by omega
 have t1:t<256:=by omega
 clear hL h hfl;obtain⟨B1,b1⟩:=p';obtain⟨B2,b2⟩:=q';have hB:=Y0 w;obtain⟨z,zk⟩:=Z2 (apc2 (Blk.new w 63) L B1 b1 B2 b2);have a6:=Ya hB z;have r:=Yd a6 63 #[.slice none 0 0,.slice none 0 0];simp only[Ys]at r;have rk:=blk2 r;have ae:=r.fz;have a7:=Ya a6 r;obtain⟨aj,ag⟩:=Z2 (Yc z a7);go_enter Tryz.func158,Tryz.ntmps158;go_wp2_with fail
 refine((ho _)).mono ?_;rintro e w2 ⟨rfl,hb2⟩;replace hB:=bt a7 hb2;replace z:=aj.bl hb2;replace zk:=blk2 z;replace r:=r.bl hb2;replace rk:=blk2 r;replace ae:=r.fz;clear a6 a7 ag aj;have ax:w.heap.size+1<w2.heap.size:=r.lt;go_wp2_with fail
 obtain⟨y,yk,ao⟩:=Z2f (apc2 (Blk.new w2 63) L B1 b1 B2 b2);have a2:=Ya hB y;obtain⟨af,a9⟩:=Z2 (Yc z a2);obtain⟨ad,a8,a3⟩:=Z2f (Yc r a2);generalize (w2.alloc (.cells #[.slice B1 L.targets.length b1,.slice B2 L.data.length b2] 63))=V at a2 af a9 ad a8 a3 y yk ao ⊢;clear hB z r zk rk ae;have hB:=a2;have z:=af;have zk:=a9;have r:=ad;have rk:=a8;have ae:=a3;clear a2 af a9 ad a8 a3;have wl:=hB.size;go_loopw [7] (fun v W=>∃i:Nat,i<=2/\v=.int .i64 i/\∃X pp qq,Hid (Pn.st2 L t (fun _ _=>(List.replicate 64 0,0)) i X)/\Hid X.Fit/\IsPn W X pp qq/\Hid (∀g,g<w2.heap.size+1->PnOff g L ⟨B1,b1⟩ ⟨B2,b2⟩->PnOff g X pp qq)/\
  Blk W w.heap.size 63 #[.slice B1 L.targets.length b1,.slice B2 L.data.length b2]/\Blk W (w.heap.size+1) 63 #[.slice none 0 0,.slice none 0 0]/\
  Blk W w2.heap.size 63 #[.slice pp.a X.targets.length pp.c,.slice qq.a X.data.length qq.c]/\Below w.heap.size w W) (fun v _=>2-(intOf v).toNat)
 case atStart=>exact⟨0,by omega,rfl,L,⟨B1,b1⟩,⟨B2,b2⟩,hid rfl,Hfl,Hz.out _ hB,hid (fun g _ h=>h),z,r,y,hB⟩
 case round=>
  clear z zk r rk y yk hB wl;obtain⟨i,hi,rfl,X,⟨P1,c1⟩,⟨P2,c2⟩,hst,hXf,hX,hoff,z,r,y,hB⟩:=hrel;have a5:=hid (fun g (hg:w.heap.size<=g)(hg':g<w2.heap.size+1)=>hoff.out g hg' (al.out g hg));by_cases hlt:i<2
  · have i1:(i:Int)<2:=by omega
    have ab:=hid (Pn.st2_bad (half:=fun _ _=>(List.replicate 64 0,0)) hlt hst.out);have a4:=hid (Pn.st2_next (half:=fun _ _=>(List.replicate 64 0,0)) hlt hst.out);have a1:=hid (ab.out rfl);have a0:=hid (a4.out rfl);clear ab a4;have aq:=i64w (x:=96+2*t+(i:Int)) (by omega);have ah:=fun W=>BR t (by omega) (by omega) W
    have hs:=fun(W:World)(hb:Below wr.heap.size wr W)=>Cp X ⟨P1,c1⟩ ⟨P2,c2⟩ W (hX.below hb) (96+2*t+(i:Int)) (by omega) (List.replicate 64 0) (by simp) (by have:=hXf.out.2.1;omega) hXf.out.1
    have aa:=Pn.set_fit hXf.out (96+2*t+(i:Int)) (List.replicate 64 0);generalize X.set (96+2*t+(i:Int)) (List.replicate 64 0)=N at hs a1 a0 aa;obtain⟨Y,er2⟩:=N;simp only at aa hs;have yk:=blk2 y;have aa:=hid aa;generalize hw3:wr=w3 at*;have ac:=hid (fun g (hg:w3.heap.size<=g)=>hX.apart hg);have yl:w2.heap.size<w3.heap.size:=y.lt;have s0:(w3.drew.cell? ⟨w2.heap.size,0,none⟩=some (.slice P1 X.targets.length c1)/\w3.drew.cell? ⟨w2.heap.size,1,none⟩=some (.slice P2 X.data.length c2))/\Below w3.heap.size w3 w3.drew:=⟨yk,(Below.refl _ _).drew⟩;have am:(w3.cell? ⟨w2.heap.size,0,none⟩=some (.slice P1 X.targets.length c1)/\w3.cell? ⟨w2.heap.size,1,none⟩=some (.slice P2 X.data.length c2))/\Below w3.heap.size w3 w3:=⟨s0.1,Below.refl _ _⟩;have b0:=s0.2;have ai:w3.drew.heap.size=w3.heap.size:=rfl;have ap:=hid ai;clear ai yk;go_upto_region 7 with fail
    go_cut [8,9] (fun s8 s9 wx=>PnMade w3 w3.heap.size w3.heap.size w3.heap.size X ⟨P1,c1⟩ ⟨P2,c2⟩ Y er2 s8 s9 wx)
    case first=>
     refine AV (S:=fun W=>(W.cell? ⟨w2.heap.size,0,none⟩=some (.slice P1 X.targets.length c1)/\W.cell? ⟨w2.heap.size,1,none⟩=some (.slice P2 X.data.length c2))/\Below w3.heap.size w3 W) (late:=fun i=>i==12) (by kernel_rfl) ?_;generalize w3.drew=U at s0 ⊢;have s:=s0;clear s0;have z:=trivial;have b:=trivial;have i3:=trivial;simp only[Nat.reduceAdd,Yn];refine Yu 0 (some 20) (pval X ⟨P1,c1⟩ ⟨P2,c2⟩) rfl (by kernel_rfl) (fun _ _ _ h=>h) (fun W hW=>by have h:=hW.1;go_simp) s ?_;simp only[Yf];refine Yt 1 21 (.int .i64 t) rfl (by kernel_rfl) (fun _ _ _ h=>h) (fun W=>by first|rfl|go_simp) ?_;simp only[Yf];refine Yt 3 23 (.int .i64 (i:Int)) rfl (by kernel_rfl) (fun _ _ _ h=>h) (fun W=>by first|rfl|go_simp) ?_;simp only[Yf]
     repeat' first
      |refine Jc 2 5 11 (by decide+kernel) rfl rfl rfl rfl rfl rfl (fun K hK=>?_) (fun K hK=>?_) (fun K hK=>?_)
      |refine Jc 2 6 11 (by decide+kernel) rfl rfl rfl rfl rfl rfl (fun K hK=>?_) (fun K hK=>?_) (fun K hK=>?_)
      |refine Bo 2 5 (by decide+kernel) rfl rfl rfl rfl (fun K hK=>?_) (fun K hK=>?_)
      |refine Bo 2 6 (by decide+kernel) rfl rfl rfl rfl (fun K hK=>?_) (fun K hK=>?_)
      |refine Bo 2 11 (by decide+kernel) rfl rfl rfl rfl (fun K hK=>?_) (fun K hK=>?_)
      |refine Bo 5 11 (by decide+kernel) rfl rfl rfl rfl (fun K hK=>?_) (fun K hK=>?_)
      |refine Bo 6 11 (by decide+kernel) rfl rfl rfl rfl (fun K hK=>?_) (fun K hK=>?_)
      |refine Bo 7 11 (by decide+kernel) rfl rfl rfl rfl (fun K hK=>?_) (fun K hK=>?_)
      |refine A0 2 (by decide+kernel) rfl rfl (fun K hK=>?_)
      |refine A0 5 (by decide+kernel) rfl rfl (fun K hK=>?_)
      |refine A0 6 (by decide+kernel) rfl rfl (fun K hK=>?_)
      |refine A0 7 (by decide+kernel) rfl rfl (fun K hK=>?_)
      |refine A0 11 (by decide+kernel) rfl rfl (fun K hK=>?_)
      |refine A0 12 (by decide+kernel) rfl rfl (fun K hK=>?_)
      |(refine up 2 ?_;refine G4 (f:=63) (args:=#[.int .i64 t]) (w':=U) (by go_simp) ((ah U).mono ?_);rintro e U ⟨rfl,hb⟩;refine⟨_,rfl,?_⟩;show K (Act.put _ (some 22) _) _;replace s:=As s hb;(try replace z:=Jk z hb);(try replace b:=Blk.below b hb (Blk.lt b));refine hK _ _ (fun _ _=>s) ?_;simp only[Yf];refine Yt 4 24 (.int .i64 (96+2*t+(i:Int))) rfl (by kernel_rfl) (fun _ _ _ h=>h) (fun W=>by first|rfl|go_simp) ?_;simp only[Yf])
      |(refine up 5 ?_;refine AJ (v:=.slice (some ⟨U.heap.size,0,none⟩) 64 64) (w':=U.alloc (.cells (madeCells #[.int .u8 0] 64) 5)) (by go_simp) ?_;show K (Act.put _ (some 25) _) _;have hb:=BH U (.cells (madeCells #[.int .u8 0] 64) 5);replace s:=As s hb;replace z:=Jn U 5;(try replace b:=Blk.below b hb (Blk.lt b));(try replace i3:=IsPn.below i3 hb);refine hK _ _ (fun _ _=>s) ?_;simp only[Yf];generalize U.heap.size=gz at z ⊢;generalize U.alloc (.cells (madeCells #[.int .u8 0] 64) 5)=U at*)
      |(refine up 6 ?_;refine AJ (v:=.string (bs (List.replicate 64 0))) (w':=U) (by have h:=Jl z;go_simp) ?_;show K (Act.put _ (some 26) _) _;refine hK _ _ (fun _ h=>h) ?_;simp only[Yf])
      |(refine up 7 ?_;refine G4 (f:=50) (args:=#[pval X ⟨P1,c1⟩ ⟨P2,c2⟩,.int .i64 (96+2*t+(i:Int)),.string (bs (List.replicate 64 0))]) (w':=U) (by go_simp) ((hs U s.2).mono ?_);clear i3;rintro e U ⟨⟨p3,q3,rfl,i3,o3⟩,hb⟩;have o4:∀h,h<w3.heap.size->PnOff h X ⟨P1,c1⟩ ⟨P2,c2⟩->PnOff h Y p3 q3:=fun h hh ho=>o3 h (Nat.lt_of_lt_of_le hh s.2.size) ho;(try (have hz:Blk _ _ _ _:=b;have oB:=o3 gb b.lt (ac.out gb gb0)));clear o3;refine⟨_,rfl,?_⟩;show K (Act.put _ (some 27) _) _;replace s:=As s hb;(try replace b:=Blk.below b hb (Blk.lt b));refine hK _ _ (fun _ _=>s) ?_;simp only[Yf];refine Yt 8 19 (.tuple #[pval Y p3 q3,.int .i64 er2]) rfl (by kernel_rfl) (fun _ _ _ h=>h) (fun W=>by first|rfl|go_simp) ?_;simp only[Yf];refine Yt 9 28 (pval Y p3 q3) rfl (by kernel_rfl) (fun _ _ _ h=>h) (fun W=>by first|rfl|go_simp) ?_;simp only[Yf];refine Yt 10 29 (.int .i64 er2) rfl (by kernel_rfl) (fun _ _ _ h=>h) (fun W=>by first|rfl|go_simp) ?_;simp only[Yf])
      |(refine up 11 ?_;refine AJ (v:=.pointer (some ⟨U.heap.size,0,none⟩)) (w':=U.alloc (.cells #[.slice none 0 0,.slice none 0 0] 63)) (by go_simp) ?_;show K (Act.put _ (some 8) _) _;have hb:=BH U (.cells #[.slice none 0 0,.slice none 0 0] 63);have gb0:w3.heap.size<=U.heap.size:=s.2.size;replace s:=As s hb;(try replace z:=Jk z hb);replace b:=Blk.new U 63 #[.slice none 0 0,.slice none 0 0];(try (have hz:IsPn _ _ _ _:=i3;have oB:=i3.apart (g:=U.heap.size) (Nat.le_refl _)));(try replace i3:=IsPn.below i3 hb);refine hK _ _ (fun _ _=>s) ?_;simp only[Yf];clear hb;generalize U.heap.size=gb at*;generalize U.alloc (.cells #[.slice none 0 0,.slice none 0 0] 63)=U at*)
      |(refine up 12 ?_;have Yy:=ap2 (Aj b) Y p3.a p3.c q3.a q3.c;refine Yq Yy (by have H:=Yk2 b Yy;go_simp) ?_;show K (Act.put _ none _) _;have b':=ap2 (Aj b) Y p3.a p3.c q3.a q3.c;have bw:=Ym2 s.2 Yy gb0;replace i3:=ap2 (i3.off2 oB) Y p3.a p3.c q3.a q3.c;refine hK _ _ (fun h=>by cases h) ?_;(try simp only[Yf]);refine Yt 13 9 (.int .i64 er2) rfl (by kernel_rfl) (fun _ _ _ h=>h) (fun W=>by first|rfl|go_simp) ?_;simp only[Yf];refine AD (by kernel_rfl) ?_ _;go_wp2_with fail;go_meet;exact⟨gb,p3,q3,rfl,rfl,gb0,b',i3,o4,bw⟩)
    case rest=>
    obtain⟨gu,p3,q3,rfl,rfl,hgu,u,i3,o3,hb5⟩:=hcut;have an:=hB.size;replace z:=z.bl hb5;replace r:=r.bl hb5;replace y:=y.bl hb5;replace hB:=bt hB hb5;have oy:=o3 w2.heap.size (by omega) (a5.out _ (by omega) (by omega));have or:=o3 (w.heap.size+1) (by omega) (a5.out _ (by omega) (by omega));have aw:w.heap.size+1<wc.heap.size:=r.lt;have ay:w2.heap.size<wc.heap.size:=y.lt;clear hX s0 am b0 ah hs;have zk:=blk2 z;have rk:=blk2 r;have yk:=blk2 y;have uk:=blk2 u;have rf:=r.fz;have yf:=y.fz;have ar:¬gu=w2.heap.size:=by omega
    have ne2:¬w2.heap.size=gu:=by omega
    have au:¬gu=w.heap.size+1:=by omega
    have av:¬w.heap.size+1=gu:=by omega
    by_cases he:er2=0
    case neg=>
     have n1:(er2 !=0)=true:=by simpa using he
     have Hq:=hid (a1.out he);clear he;go_wp2_with fail
     rw[Hr.out,Hq.out];have yy:=blk2 (ap2 (Aj r) L B1 b1 B2 b2);have b9:=ap2 (Ae hB (g:=w.heap.size+1) (by omega)) L B1 b1 B2 b2;exact retPn (Hz.out _ b9) (fun _ _ h=>h) b9 (by simp[results,Tryz.results158,go_sem,yy]) rfl
    subst he;have Hn:=hid (a0.out rfl);have ak:=hid aa.out;clear a0 a1 aa;go_wp2_with fail
    go_roundw
    case rel=>
     have o4:PnOff w2.heap.size Y p3 q3:=oy;exact⟨i+1,by omega,by go_num,Y,p3,q3,Hn,ak,i3.off2 o4 _ _,hid (fun g hg h=>o3 g (by omega) (hoff.out g hg h)),AQ z (g:=w2.heap.size) (by omega) _ _,AQ r (g:=w2.heap.size) (by omega) _ _,Aj y _ _,Ae hB (g:=w2.heap.size) (by omega) _ _⟩
    case measure=>simp[intOf];omega
  · obtain rfl:i=2:=by omega
    have Hq:=hid (show Pn.set2 L t (fun _ _=>(List.replicate 64 0,0))=(X,0)from hst.out);have or:=a5.out (w.heap.size+1) (by omega) (by omega);have yk:=blk2 y;have rk:=blk2 r;have rf:=r.fz;have rl:w.heap.size+1<wr.heap.size:=r.lt;go_wp2_with fail
    rw[Hr.out,Hq.out];have yy:=blk2 (ap2 (Aj r) X P1 c1 P2 c2);have b9:=ap2 (Ae hB (g:=w.heap.size+1) (by omega)) X P1 c1 P2 c2;exact retPn (hX.off2 or _ _) (fun g hg h=>hoff.out g (by omega) h) b9 (by simp[results,Tryz.results158,go_sem,yy]) rfl
theorem PR (L:Pn)(p' q':Pl)(w:World)(hL:IsPn w L p' q')(hfl:L.Fit)(t:Int):
 CX 158 #[pval L p' q',.int .i64 t] w (RetPn w.heap.size L p' q' (Pn.tabBlank L t)):=by
 by_cases h:t<0\/256<=t
 · exact PS L p' q' w hL t h
 · exact PU L p' q' w hL hfl t h
end
section
open Go.RowKit Go.Shelf
attribute [local go_sem] Ad Af Ag Ab Ai Ah
def DU (B:Nat)(L:Pn)(p q:Pl)(X:Pn×Int×Int)(e:Ending)(w:World):Prop:=
 ∃p' q',e=.returned (.tuple #[pval X.1 p' q',.int .i64 X.2.1,.int .i64 X.2.2])/\IsPn w X.1 p' q'/\∀g,g<B->PnOff g L p q->PnOff g X.1 p' q'
theorem AU {P:Program}{f:Func}{B B':Nat}{L:Pn}{p q:Pl}{X:Pn×Int×Int}{p' q':Pl}{a:Act}{u w:World}(i:IsPn w X.1 p' q')(ho:∀g,g<B->PnOff g L p q->PnOff g X.1 p' q')(bw:Below B' u w)(hr:(results f a.tmps).run P w=.ok (.tuple #[pval X.1 p' q',.int .i64 X.2.1,.int .i64 X.2.2]) w)(hd:a.defers=[]):
 bodyPost P f (fun e w'=>DU B L p q X e w'/\Below B' u w') .ret a w:=bodyPost_ret hr hd ⟨⟨p',q',rfl,i,ho⟩,bw⟩
theorem NB (D:Dk)(L:Pn)(p q p' q':Pl)(w:World)(hD:IsDk w D p q)(hL:IsPn w L p' q')(hf:D.fit=true)(hfl:L.Fit)(g:Int)(h:Nat)(hh:h<=256)(l1 i f:Int)(hlf:f= -1\/0<=f):
 CX 130 #[dval D p q,pval L p' q',gval g h,.int .i64 l1,.int .i64 i,.int .i64 f] w (DU w.heap.size L p' q' (Pn.ptFresh D L h l1 i f)):=by
 have HD:=hid (fun(W:World)(hb:Below w.heap.size w W)=>hD.below hb);have HL:=hid (fun(W:World)(hb:Below w.heap.size w W)=>hL.below hb);have oP:∀B,w.heap.size<=B->PnOff B L p' q':=fun B hB=>hL.apart hB
 have aD:=fun(W:World)(hb:Below w.heap.size w W)=>Ih D L p q p' q' W (hD.below hb) (hL.below hb) hf hfl g h hh
 have aR:=fun(W:World)(hb:Below w.heap.size w W)(Y:Pn)(p1 q1:Pl)(hY:IsPn W Y p1 q1)(hYf:Y.Fit)(k:Int)=>PW D Y p q p1 q1 W (hD.below hb) hY hf hYf f k
 have aL:=fun(W:World)(Y:Pn)(p1 q1:Pl)(hY:IsPn W Y p1 q1)(hYf:Y.Fit)(k:Int)=>PR Y p1 q1 W hY hYf k
 have b5:=fun(W:World)(hb:Below w.heap.size w W)(Y:Pn)(p1 q1:Pl)(hY:IsPn W Y p1 q1)(hYf:Y.Fit)=>DH D Y p q p1 q1 W (hD.below hb) hY hf hYf f (-1) (by decide)
 have aC:=fun(W:World)(hb:Below w.heap.size w W)(Y:Pn)(p1 q1:Pl)(hY:IsPn W Y p1 q1)(hYf:Y.Fit)(k:Int)=>IU D Y p q p1 q1 W (hD.below hb) hY hf hYf l1 i 1 k
 have aP:=Pn.alTake_fit hf hfl h;have bw:=hid (fun(Y:Pn)(hY:Y.Fit)(k:Int)=>Pn.tabBlank_fit hY k);have bx:=hid (fun(Y:Pn)(hY:Y.Fit)(k:Int)=>Pn.tabCopy_fit (D:=D) hY f k);have bv:=hid (fun(Y:Pn)(hY:Y.Fit)=>Pn.cntAdd_fit hf hY f (-1));have aQ:=hid (@Pn.ptFresh_take D L h l1 i f);have HN:=hid (Pn.freshSteps_new D L h l1 i);have HO:=hid (Pn.freshSteps_old D L h l1 i f);clear hD hL hf hfl;obtain⟨A1,a1⟩:=p;obtain⟨A2,a2⟩:=q;obtain⟨B1,b1⟩:=p';obtain⟨B2,b2⟩:=q';have hB:=Y0 w;have x:=apc5 (Blk.new w 25) D A1 a1 A2 a2;have aK:=Ya hB x;have z:=apc2 (Yd aK 63) L B1 b1 B2 b2;simp only[Ys]at z;have ax:=Ya aK z;have bn:=Yc x ax;have y:=Yd ax 27 #[.int .i64 g,.int .i64 h];simp only[Ys]at y;have ai:=Ya ax y;have bo:=Yc bn ai;have bq:=Yc z ai;have r:=Yd ai 63 #[.slice none 0 0,.slice none 0 0];simp only[Ys]at r;have rk:=blk2 r;have ac:=Ya ai r;obtain⟨bp,bi⟩:=Z5 (Yc bo ac);obtain⟨br,bj⟩:=Z2 (Yc bq ac);obtain⟨aV,aW⟩:=Z2 (Yc y ac);go_enter Tryz.func130,Tryz.ntmps130;have bE:=(r).lt;have bB:=(ac).size;go_wp2_with fail
 refine((aD _ ac)).mono ?_;rintro e w1 ⟨p1,q1,rfl,i1,o1,hb1⟩;replace hB:=bt ac hb1;replace x:=bp.bl hb1;replace z:=br.bl hb1;replace y:=aV.bl hb1;replace r:=r.bl hb1;replace rk:=blk2 r;clear aK ax bn ai bo bq ac bi bp bj br aW aV;have b3:=o1 _ bE (oP (w.heap.size+1+1+1) (by omega));have O1:∀b,b<w.heap.size->PnOff b L ⟨B1,b1⟩ ⟨B2,b2⟩->PnOff b (Pn.alTake D L h).1 p1 q1:=fun b hb ho=>o1 b (Nat.lt_of_lt_of_le hb bB) ho
 have b0:=i1.apart (Nat.le_refl w1.heap.size);have aY:=(hB).size;have aZ:=(r).lt;clear o1 aD;obtain⟨⟨T,k,er⟩,hT⟩:∃x,Pn.alTake D L h=x:=⟨_,rfl⟩;rw[hT]at i1 b3 O1 b0 aP aQ HN HO;have Hk:=hid (show(Pn.alTake D L h).2.1=k by rw[hT]);rw[hT];clear hT;simp only at i1 b3 O1 b0 aP aQ HN HO;have aS:=fun(W:World)(hb:Below w.heap.size w W)(Y:Pn)(p1 q1:Pl)(hY:IsPn W Y p1 q1)(hYf:Y.Fit)=>aC W hb Y p1 q1 hY hYf k
 clear aC;have rp:=r;have Bp:=hB;obtain⟨qb,qbk,qbkf⟩:=Z2f (apc2 (Blk.new w1 63) T p1.a p1.c q1.a q1.c);have a4:=Ya hB qb;obtain⟨az,aG⟩:=Z5 (Yc x a4);obtain⟨aB,aI⟩:=Z2 (Yc z a4);have aA:=Yc y a4;obtain⟨ag,aE,ao⟩:=Z2f (Yc r a4);have aa:=i1.below (Yb a4);by_cases h1:er=0
 rotate_left
 · have n1:(er !=0)=true:=by simpa using h1
   have HE:=hid (aQ.out h1);clear h1;have yy:=blk2 ((ap2 (Aj rp) L B1 b1 B2 b2).alloc (.cells #[.slice p1.a T.targets.length p1.c,.slice q1.a T.data.length q1.c] 63));have qq:=(rp.set 0 (.slice B1 L.targets.length b1)).frozen;have b8:=ap2 (Ae Bp (g:=w.heap.size+1+1+1) (by omega)) L B1 b1 B2 b2;have b9:=b8.alloc b8.size (.cells #[.slice p1.a T.targets.length p1.c,.slice q1.a T.data.length q1.c] 63);have i9:=(ap2 ((HL.out _ Bp).off2 (oP (w.heap.size+1+1+1) (by omega))) L B1 b1 B2 b2).below (Yb b9);go_wp2_with fail
   rw[HE.out];exact AU i9 (fun b hb ho=>ho) b9 (by simp[results,Tryz.results130,go_sem,yy]) rfl
 subst h1
 rcases hlf with rfl|hf0
 · have d1:decide ((-1:Int)<0)=true:=rfl;replace HN:=hid (HN.out.trans (by rw[Pn.step_zero (s:=(T,0)) rfl]));have ah:=HN;clear HO HN aQ;have b7:=(qb).lt;have aZ:=(ag).lt;have aY:=(a4).size;go_wp2_with fail
   refine((aL _ T p1 q1 aa aP k)).mono ?_;rintro e w2 ⟨⟨p2,q2,rfl,i2,o2⟩,hb2⟩;replace hB:=bt a4 hb2;replace x:=az.bl hb2;replace z:=aB.bl hb2;replace y:=aA.bl hb2;replace r:=ag.bl hb2;replace rk:=blk2 r;replace i1:=aa.below hb2;replace qb:=qb.bl hb2;replace qbk:=blk2 qb;replace qbkf:=qb.fz;clear a4 aG az aI aB aA aE ao ag aa;generalize hM2:Pn.tabBlank T k=R at*;have bd:=o2 _ aZ b3;have bc:=o2 _ b7 b0;have O2:∀b,b<w.heap.size->PnOff b L ⟨B1,b1⟩ ⟨B2,b2⟩->PnOff b R.1 p2 q2:=fun b hb ho=>o2 b (Nat.lt_of_lt_of_le hb aY) (O1 b hb ho)
   have b4:=hid hM2;clear o2 hM2;have a0:=ap2 (Ae hB (g:=w1.heap.size) (by omega)) R.1 p2.a p2.c q2.a q2.c;obtain⟨aq,ar⟩:=Z5 (Yk x a0 (by omega));obtain⟨av,aw⟩:=Z2 (Yk z a0 (by omega));have au:=Yk y a0 (by omega);obtain⟨a8,an,ae⟩:=Z2f (Yk r a0 (by omega));have ab:=i1.oa a0 (by assumption);obtain⟨a7,ad⟩:=Z2 (Yl qb a0);have a6:=i2.oa a0 (by assumption);have aX:R.1.Fit:=by rw[<-b4.out];exact bw.out T aP k
   by_cases h2:R.2=0
   · have n2:(R.2 !=0)=false:=by simp[h2]
     replace ah:=hid (ah.out.trans (Pn.step_zero h2));clear h2;have ba:=(a7).lt;have bb:=(a8).lt;have b6:=(a0).size;go_wp2_with fail
     refine((aS _ a0 R.1 p2 q2 a6 aX)).mono ?_;rintro e w9 ⟨⟨p9,q9,rfl,i9,o9⟩,hb9⟩;replace hB:=bt a0 hb9;replace x:=aq.bl hb9;replace z:=av.bl hb9;replace y:=au.bl hb9;replace r:=a8.bl hb9;replace rk:=blk2 r;replace i1:=ab.below hb9;replace qb:=a7.bl hb9;replace qbk:=blk2 qb;replace qbkf:=qb.fz;replace i2:=a6.below hb9;clear a0 ar aq aw av au an ae a8 ab ad a7 a6;generalize hM9:Pn.tabSet D R.1 l1 i 1 k=S at*;have bf:=o9 _ bb bd;have bH:=o9 _ ba bc;have O9:∀b,b<w.heap.size->PnOff b L ⟨B1,b1⟩ ⟨B2,b2⟩->PnOff b S.1 p9 q9:=fun b hb ho=>o9 b (Nat.lt_of_lt_of_le hb b6) (O2 b hb ho)
     clear o9 hM9;have a3:=ap2 (Ae hB (g:=w1.heap.size) (by omega)) S.1 p9.a p9.c q9.a q9.c;obtain⟨aM,aH⟩:=Z5 (Yk x a3 (by omega));obtain⟨aO,aJ⟩:=Z2 (Yk z a3 (by omega));have aN:=Yk y a3 (by omega);obtain⟨a9,aF,ap⟩:=Z2f (Yk r a3 (by omega));have aj:=i1.oa a3 (by assumption);obtain⟨af,am⟩:=Z2 (Yl qb a3);have ak:=i2.oa a3 (by assumption);have aT:=i9.oa a3 (by assumption);have Hs:=hid (show Pn.freshSteps D L h l1 i (-1)=S by rw[ah.out]);by_cases h9:S.2=0
     · have HE:=hid (show Pn.ptFresh D L h l1 i (-1)=(S.1,k,0) by rw[Pn.ptFresh,Hs.out,if_neg (by rw[h9];simp),Hk.out]);have n9:(S.2 !=0)=false:=by simp[h9]
       clear h9;have yy:=blk2 (ap2 (Aj a9) S.1 p9.a p9.c q9.a q9.c);have qq:=((a9).set 0 (.slice p9.a S.1.targets.length p9.c)).frozen;have b9:=ap2 (Ae a3 (g:=w.heap.size+1+1+1) (by omega)) S.1 p9.a p9.c q9.a q9.c;have i9:=ap2 (aT.off2 bf) S.1 p9.a p9.c q9.a q9.c;go_wp2_with fail
       rw[HE.out];exact AU i9 O9 b9 (by simp[results,Tryz.results130,go_sem,yy]) rfl
     · have HE:=hid (show Pn.ptFresh D L h l1 i (-1)=(L,0,S.2) by rw[Pn.ptFresh,Hs.out,if_pos h9]);have n9:(S.2 !=0)=true:=by simpa using h9
       clear h9;have yy:=blk2 (ap2 (Aj a9) L B1 b1 B2 b2);have qq:=((a9).set 0 (.slice B1 L.targets.length b1)).frozen;have b9:=ap2 (Ae a3 (g:=w.heap.size+1+1+1) (by omega)) L B1 b1 B2 b2;have i9:=ap2 ((HL.out _ a3).off2 (oP (w.heap.size+1+1+1) (by omega))) L B1 b1 B2 b2;go_wp2_with fail
       rw[HE.out];exact AU i9 (fun b hb ho=>ho) b9 (by simp[results,Tryz.results130,go_sem,yy]) rfl
   · have HE:=hid (show Pn.ptFresh D L h l1 i (-1)=(L,0,R.2) by rw[Pn.ptFresh,ah.out,Pn.step_err h2,if_pos h2]);have n2:(R.2 !=0)=true:=by simpa using h2
     clear h2;have yy:=blk2 (ap2 (Aj a8) L B1 b1 B2 b2);have qq:=((a8).set 0 (.slice B1 L.targets.length b1)).frozen;have b9:=ap2 (Ae a0 (g:=w.heap.size+1+1+1) (by omega)) L B1 b1 B2 b2;have i9:=ap2 ((HL.out _ a0).off2 (oP (w.heap.size+1+1+1) (by omega))) L B1 b1 B2 b2;go_wp2_with fail
     rw[HE.out];exact AU i9 (fun b hb ho=>ho) b9 (by simp[results,Tryz.results130,go_sem,yy]) rfl
 · have d1:decide (f<0)=false:=decide_eq_false (by omega);have ah:=hid ((HO.out hf0).trans (by rw[Pn.step_zero (s:=(T,0)) rfl]));clear HO HN aQ;have b7:=(qb).lt;have aZ:=(ag).lt;have aY:=(a4).size;go_wp2_with fail
   refine((aR _ a4 T p1 q1 aa aP k)).mono ?_;rintro e w2 ⟨⟨p2,q2,rfl,i2,o2⟩,hb2⟩;replace hB:=bt a4 hb2;replace x:=az.bl hb2;replace z:=aB.bl hb2;replace y:=aA.bl hb2;replace r:=ag.bl hb2;replace rk:=blk2 r;replace i1:=aa.below hb2;replace qb:=qb.bl hb2;replace qbk:=blk2 qb;replace qbkf:=qb.fz;clear a4 aG az aI aB aA aE ao ag aa;generalize hM2:Pn.tabCopy D T f k=R at*;have bd:=o2 _ aZ b3;have bc:=o2 _ b7 b0;have O2:∀b,b<w.heap.size->PnOff b L ⟨B1,b1⟩ ⟨B2,b2⟩->PnOff b R.1 p2 q2:=fun b hb ho=>o2 b (Nat.lt_of_lt_of_le hb aY) (O1 b hb ho)
   have b4:=hid hM2;clear o2 hM2;have a0:=ap2 (Ae hB (g:=w1.heap.size) (by omega)) R.1 p2.a p2.c q2.a q2.c;obtain⟨aq,ar⟩:=Z5 (Yk x a0 (by omega));obtain⟨av,aw⟩:=Z2 (Yk z a0 (by omega));have au:=Yk y a0 (by omega);obtain⟨a8,an,ae⟩:=Z2f (Yk r a0 (by omega));have ab:=i1.oa a0 (by assumption);obtain⟨a7,ad⟩:=Z2 (Yl qb a0);have a6:=i2.oa a0 (by assumption);have aX:R.1.Fit:=by rw[<-b4.out];exact bx.out T aP k
   by_cases h2:R.2=0
   rotate_left
   · have HE:=hid (show Pn.ptFresh D L h l1 i f=(L,0,R.2) by rw[Pn.ptFresh,ah.out,Pn.step_err h2,Pn.step_err h2,if_pos h2]);have n2:(R.2 !=0)=true:=by simpa using h2
     clear h2;have yy:=blk2 (ap2 (Aj a8) L B1 b1 B2 b2);have qq:=((a8).set 0 (.slice B1 L.targets.length b1)).frozen;have b9:=ap2 (Ae a0 (g:=w.heap.size+1+1+1) (by omega)) L B1 b1 B2 b2;have i9:=ap2 ((HL.out _ a0).off2 (oP (w.heap.size+1+1+1) (by omega))) L B1 b1 B2 b2;go_wp2_with fail
     rw[HE.out];exact AU i9 (fun b hb ho=>ho) b9 (by simp[results,Tryz.results130,go_sem,yy]) rfl
   have n2:(R.2 !=0)=false:=by simp[h2]
   replace ah:=hid (ah.out.trans (by rw[Pn.step_zero h2]));clear h2;have bD:=(a7).lt;have bF:=(a8).lt;have bC:=(a0).size;go_wp2_with fail
   refine((b5 _ a0 R.1 p2 q2 a6 aX)).mono ?_;rintro e w3 ⟨⟨p3,q3,rfl,i3,o3⟩,hb3⟩;replace hB:=bt a0 hb3;replace x:=aq.bl hb3;replace z:=av.bl hb3;replace y:=au.bl hb3;replace r:=a8.bl hb3;replace rk:=blk2 r;replace i1:=ab.below hb3;replace qb:=a7.bl hb3;replace qbk:=blk2 qb;replace qbkf:=qb.fz;replace i2:=a6.below hb3;clear a0 ar aq aw av au an ae a8 ab ad a7 a6;generalize hM3:Pn.cntAdd D R.1 f (-1)=U at*;have bI:=o3 _ bF bd;have bG:=o3 _ bD bc;have O3:∀b,b<w.heap.size->PnOff b L ⟨B1,b1⟩ ⟨B2,b2⟩->PnOff b U.1 p3 q3:=fun b hb ho=>o3 b (Nat.lt_of_lt_of_le hb bC) (O2 b hb ho)
   have bz:=hid hM3;clear o3 hM3;have a3:=ap2 (Ae hB (g:=w1.heap.size) (by omega)) U.1 p3.a p3.c q3.a q3.c;obtain⟨aM,aH⟩:=Z5 (Yk x a3 (by omega));obtain⟨aO,aJ⟩:=Z2 (Yk z a3 (by omega));have aN:=Yk y a3 (by omega);obtain⟨a9,aF,ap⟩:=Z2f (Yk r a3 (by omega));have aj:=i1.oa a3 (by assumption);obtain⟨af,am⟩:=Z2 (Yl qb a3);have ak:=i2.oa a3 (by assumption);have al:=i3.oa a3 (by assumption);have bA:U.1.Fit:=by rw[<-bz.out];exact bv.out R.1 aX
   by_cases h3:U.2=0
   rotate_left
   · have HE:=hid (show Pn.ptFresh D L h l1 i f=(L,0,U.2) by rw[Pn.ptFresh,ah.out,Pn.step_err h3,if_pos h3]);have n3:(U.2 !=0)=true:=by simpa using h3
     clear h3;have yy:=blk2 (ap2 (Aj a9) L B1 b1 B2 b2);have qq:=((a9).set 0 (.slice B1 L.targets.length b1)).frozen;have b9:=ap2 (Ae a3 (g:=w.heap.size+1+1+1) (by omega)) L B1 b1 B2 b2;have i9:=ap2 ((HL.out _ a3).off2 (oP (w.heap.size+1+1+1) (by omega))) L B1 b1 B2 b2;go_wp2_with fail
     rw[HE.out];exact AU i9 (fun b hb ho=>ho) b9 (by simp[results,Tryz.results130,go_sem,yy]) rfl
   have n3:(U.2 !=0)=false:=by simp[h3]
   replace ah:=hid (ah.out.trans (Pn.step_zero h3));clear h3;have ba:=(af).lt;have bb:=(a9).lt;have b6:=(a3).size;go_wp2_with fail
   refine((aS _ a3 U.1 p3 q3 al bA)).mono ?_;rintro e w9 ⟨⟨p9,q9,rfl,i9,o9⟩,hb9⟩;replace hB:=bt a3 hb9;replace x:=aM.bl hb9;replace z:=aO.bl hb9;replace y:=aN.bl hb9;replace r:=a9.bl hb9;replace rk:=blk2 r;replace i1:=aj.below hb9;replace qb:=af.bl hb9;replace qbk:=blk2 qb;replace qbkf:=qb.fz;replace i2:=ak.below hb9;replace i3:=al.below hb9;clear a3 aH aM aJ aO aN aF ap a9 aj am af ak al;generalize hM9:Pn.tabSet D U.1 l1 i 1 k=S at*;have bf:=o9 _ bb bI;have bH:=o9 _ ba bG;have O9:∀b,b<w.heap.size->PnOff b L ⟨B1,b1⟩ ⟨B2,b2⟩->PnOff b S.1 p9 q9:=fun b hb ho=>o9 b (Nat.lt_of_lt_of_le hb b6) (O3 b hb ho)
   clear o9 hM9;have a5:=ap2 (Ae hB (g:=w1.heap.size) (by omega)) S.1 p9.a p9.c q9.a q9.c;obtain⟨bJ,bu⟩:=Z2 (Yk z a5 (by omega));obtain⟨ay,bm,bh⟩:=Z2f (Yk r a5 (by omega));obtain⟨bk,bg⟩:=Z2 (Yl qb a5);have aU:=i9.oa a5 (by assumption);have Hs:=hid (show Pn.freshSteps D L h l1 i f=S by rw[ah.out]);by_cases h9:S.2=0
   · have HE:=hid (show Pn.ptFresh D L h l1 i f=(S.1,k,0) by rw[Pn.ptFresh,Hs.out,if_neg (by rw[h9];simp),Hk.out]);have n9:(S.2 !=0)=false:=by simp[h9]
     clear h9;have yy:=blk2 (ap2 (Aj ay) S.1 p9.a p9.c q9.a q9.c);have qq:=((ay).set 0 (.slice p9.a S.1.targets.length p9.c)).frozen;have b9:=ap2 (Ae a5 (g:=w.heap.size+1+1+1) (by omega)) S.1 p9.a p9.c q9.a q9.c;have i9:=ap2 (aU.off2 bf) S.1 p9.a p9.c q9.a q9.c;go_wp2_with fail
     rw[HE.out];exact AU i9 O9 b9 (by simp[results,Tryz.results130,go_sem,yy]) rfl
   · have HE:=hid (show Pn.ptFresh D L h l1 i f=(L,0,S.2) by rw[Pn.ptFresh,Hs.out,if_pos h9]);have n9:(S.2 !=0)=true:=by simpa using h9
     clear h9;have yy:=blk2 (ap2 (Aj ay) L B1 b1 B2 b2);have qq:=((ay).set 0 (.slice B1 L.targets.length b1)).frozen;have b9:=ap2 (Ae a5 (g:=w.heap.size+1+1+1) (by omega)) L B1 b1 B2 b2;have i9:=ap2 ((HL.out _ a5).off2 (oP (w.heap.size+1+1+1) (by omega))) L B1 b1 B2 b2;go_wp2_with fail
     rw[HE.out];exact AU i9 (fun b hb ho=>ho) b9 (by simp[results,Tryz.results130,go_sem,yy]) rfl
theorem NC (D:Dk)(L:Pn)(p q p' q':Pl)(w:World)(hD:IsDk w D p q)(hL:IsPn w L p' q')(hf:D.fit=true)(hfl:L.Fit)(g:Int)(h:Nat)(hh:h<=256)(hg64:g<=64)(u:Int):
 CX 102 #[dval D p q,pval L p' q',gval g h,.int .i64 u] w (DU w.heap.size L p' q' (Pn.ptOwn D L g h u)):=by
 have HL:=hid (fun(W:World)(hb:Below w.heap.size w W)=>hL.below hb);have oP:∀B,w.heap.size<=B->PnOff B L p' q':=fun B hB=>hL.apart hB
 by_cases hu:u<0\/g<=u
 · have HE:=hid (Pn.ptOwn_out (D:=D) (L:=L) (h:=h) hu);clear hD hL hf hfl;obtain⟨A1,a1⟩:=p;obtain⟨A2,a2⟩:=q;obtain⟨B1,b1⟩:=p';obtain⟨B2,b2⟩:=q';have hB:=Y0 w;obtain⟨x,xk⟩:=Z5 (apc5 (Blk.new w 25) D A1 a1 A2 a2);have a9:=Ya hB x;have z:=apc2 (Yd a9 63) L B1 b1 B2 b2;simp only[Ys]at z;have zk:=blk2 z;have a7:=Ya a9 z;have aC:=Yc x a7;have y:=Yd a7 27 #[.int .i64 g,.int .i64 h];simp only[Ys]at y;have yk:=blk2 y;have a5:=Ya a7 y;have aD:=Yc aC a5;obtain⟨aE,aA⟩:=Z2 (Yc z a5);have r:=apc2 (Yd a5 63) L B1 b1 B2 b2;simp only[Ys]at r;have rk:=blk2 r;have a4:=Ya a5 r;obtain⟨aH,aw⟩:=Z5 (Yc aD a4);obtain⟨aI,aB⟩:=Z2 (Yc aE a4);obtain⟨am,ai⟩:=Z2 (Yc y a4);by_cases h1:u<0
   · have d1:decide (u<0)=true:=decide_eq_true h1;clear h1 hu;go_enter Tryz.func102,Tryz.ntmps102;have yy:=rk;go_wp2_with fail
     rw[HE.out];exact AU (HL.out _ a4) (fun b hb ho=>ho) a4 (by simp[results,Tryz.results102,go_sem,yy]) rfl
   · have d1:decide (u<0)=false:=decide_eq_false h1;have d2:decide (g<=u)=true:=decide_eq_true (by omega);clear h1 hu;go_enter Tryz.func102,Tryz.ntmps102;have yy:=rk;go_wp2_with fail
     rw[HE.out];exact AU (HL.out _ a4) (fun b hb ho=>ho) a4 (by simp[results,Tryz.results102,go_sem,yy]) rfl
 obtain⟨u,rfl⟩:=Int.eq_ofNat_of_zero_le (show 0<=u by omega);have ao:=fun(W:World)(hb:Below w.heap.size w W)=>HK D L p q p' q' W (hD.below hb) (hL.below hb) hf hfl
 have aL:=fun(l:Int)(W:World)(hb:Below w.heap.size w W)=>DP D L p q p' q' W (hD.below hb) (hL.below hb) hf hfl l ((u:Int)/16)
 have hc:=fun(k:Int)(W:World)(hb:Below w.heap.size w W)=>Cq D L p q p' q' W (hD.below hb) (hL.below hb) hf hfl k
 have an:=fun(l f:Int)(hlf:f= -1\/0<=f)(W:World)(hb:Below w.heap.size w W)=>NB D L p q p' q' W (hD.below hb) (hL.below hb) hf hfl g h hh l ((u:Int)/16) f hlf
 have Hw:=hid (show Pn.ptOwn D L g h u=_ by rw[Pn.ptOwn,if_neg hu]);have aN:=fun l:Int=>Pn.tabGet_small D L l ((u:Int)/16)
 have g0:(0:Int)<=(u:Int):=by omega
 have g1:(u:Int)<64:=by omega
 have d1:decide ((u:Int)<0)=false:=decide_eq_false (by omega);have d2:decide (g<=(u:Int))=false:=decide_eq_false (by omega);clear hD hL hf hfl hu;generalize Pn.rtGet D L=E at*;obtain⟨⟨l,n⟩,er⟩:=E;simp only at ao Hw;have aM:=aL l;have aK:=an l;have ap:=aN l;clear aL an aN;generalize Pn.tabGet D L l ((u:Int)/16)=E at*;obtain⟨⟨K,B⟩,e2⟩:=E;simp only at aM Hw ap;have aF:=hc B;clear hc;generalize Pn.cntGet D L B=E at*;obtain⟨c,e3⟩:=E;simp only at aF Hw;obtain⟨s1,s2,s3,s4⟩:=ap;obtain⟨A1,a1⟩:=p;obtain⟨A2,a2⟩:=q;obtain⟨B1,b1⟩:=p';obtain⟨B2,b2⟩:=q';have hB:=Y0 w;obtain⟨x,xk⟩:=Z5 (apc5 (Blk.new w 25) D A1 a1 A2 a2);have a9:=Ya hB x;have z:=apc2 (Yd a9 63) L B1 b1 B2 b2;simp only[Ys]at z;have zk:=blk2 z;have a7:=Ya a9 z;have aC:=Yc x a7;have y:=Yd a7 27 #[.int .i64 g,.int .i64 h];simp only[Ys]at y;have yk:=blk2 y;have a5:=Ya a7 y;have aD:=Yc aC a5;obtain⟨aE,aA⟩:=Z2 (Yc z a5);have r:=Yd a5 63 #[.slice none 0 0,.slice none 0 0];simp only[Ys]at r;have rk:=blk2 r;have ar:=r.fz;have a4:=Ya a5 r;obtain⟨aH,aw⟩:=Z5 (Yc aD a4);obtain⟨aI,aB⟩:=Z2 (Yc aE a4);obtain⟨am,ai⟩:=Z2 (Yc y a4);go_enter Tryz.func102,Tryz.ntmps102;go_wp2_with fail
 refine((ao _ a4)).mono ?_;rintro e w1 ⟨rfl,hb1⟩;replace hB:=bt a4 hb1;replace x:=aH.bl hb1;replace xk:=blk5 x;replace z:=aI.bl hb1;replace zk:=blk2 z;replace y:=am.bl hb1;replace yk:=blk2 y;replace r:=r.bl hb1;replace rk:=blk2 r;replace ar:=r.fz;clear a9 a7 aC a5 aD aA aE a4 aw aH aB aI ai am;obtain⟨ro,rok⟩:=Z2 (Blk.new w1 95 #[.int .i64 l,.int .u32 n]);have a3:=Ya hB ro;obtain⟨au,av⟩:=Z5 (Yc x a3);obtain⟨ay,az⟩:=Z2 (Yc z a3);have ax:=Yc y a3;obtain⟨ac,aq,al⟩:=Z2f (Yc r a3);by_cases h1:er=0
 rotate_left
 · have n1:(er !=0)=true:=by simpa using h1
   have HE:=hid (Hw.out.trans (if_pos h1));clear h1;have yy:=blk2 (ap2 (Aj ac) L B1 b1 B2 b2);have qq:=((ac).set 0 (.slice B1 L.targets.length b1)).frozen;have b9:=ap2 (Ae a3 (g:=w.heap.size+1+1+1) (by omega)) L B1 b1 B2 b2;have i9:=ap2 ((HL.out _ a3).off2 (oP (w.heap.size+1+1+1) (by omega))) L B1 b1 B2 b2;go_wp2_with fail
   rw[HE.out];exact AU i9 (fun b hb ho=>ho) b9 (by simp[results,Tryz.results102,go_sem,yy]) rfl
 have n1:(er !=0)=false:=by simp[h1]
 replace Hw:=hid (Hw.out.trans (if_neg (by simpa using h1)));clear h1;go_wp2_with fail
 refine((aM _ a3)).mono ?_;rintro e w2 ⟨rfl,hb2⟩;replace hB:=bt a3 hb2;replace x:=au.bl hb2;replace xk:=blk5 x;replace z:=ay.bl hb2;replace zk:=blk2 z;replace y:=ax.bl hb2;replace yk:=blk2 y;replace r:=ac.bl hb2;replace rk:=blk2 r;replace ar:=r.fz;replace ro:=ro.bl hb2;replace rok:=blk2 ro;clear a3 av au az ay ax aq al ac;have aJ:=hid (r).lt;obtain⟨en,enk⟩:=Z2 (Blk.new w2 102 #[.int .i64 K,.int .i64 B]);have a0:=Ya hB en;obtain⟨ad,ah⟩:=Z5 (Yc x a0);obtain⟨af,ak⟩:=Z2 (Yc z a0);obtain⟨ae,aj⟩:=Z2 (Yc y a0);obtain⟨a6,ag,aa⟩:=Z2f (Yc r a0);obtain⟨a8,ab⟩:=Z2 (Yc ro a0);by_cases h2:e2=0
 rotate_left
 · have n2:(e2 !=0)=true:=by simpa using h2
   have HE:=hid (Hw.out.trans (if_pos h2));clear h2;have yy:=blk2 (ap2 (Aj a6) L B1 b1 B2 b2);have qq:=((a6).set 0 (.slice B1 L.targets.length b1)).frozen;have b9:=ap2 (Ae a0 (g:=w.heap.size+1+1+1) (by omega)) L B1 b1 B2 b2;have i9:=ap2 ((HL.out _ a0).off2 (oP (w.heap.size+1+1+1) (by omega))) L B1 b1 B2 b2;go_wp2_with fail
   rw[HE.out];exact AU i9 (fun b hb ho=>ho) b9 (by simp[results,Tryz.results102,go_sem,yy]) rfl
 have n2:(e2 !=0)=false:=by simp[h2]
 replace Hw:=hid (Hw.out.trans (if_neg (by simpa using h2)));clear h2;by_cases hK2:K=2
 · subst hK2;have HE:=hid (Hw.out.trans (if_pos rfl));clear Hw;have yy:=blk2 (ap2 (Aj a6) L B1 b1 B2 b2);have qq:=((a6).set 0 (.slice B1 L.targets.length b1)).frozen;have b9:=ap2 (Ae a0 (g:=w.heap.size+1+1+1) (by omega)) L B1 b1 B2 b2;have i9:=ap2 ((HL.out _ a0).off2 (oP (w.heap.size+1+1+1) (by omega))) L B1 b1 B2 b2;go_wp2_with fail
   rw[HE.out];exact AU i9 (fun b hb ho=>ho) b9 (by simp[results,Tryz.results102,go_sem,yy]) rfl
 replace Hw:=hid (Hw.out.trans (if_neg hK2));have aT:(K==2)=false:=by simpa using hK2
 clear hK2;by_cases hK0:K=0
 · subst hK0;have HE:=hid (Hw.out.trans (if_pos rfl));clear Hw aF;have aO:=(a0).size;have aQ:=(a6).lt;go_wp2_with fail
   refine((aK (-1) (by omega) _ a0)).mono ?_;rintro e w4 ⟨⟨p3,q3,rfl,i3,o3⟩,hb4⟩;replace hB:=bt a0 hb4;replace x:=ad.bl hb4;replace xk:=blk5 x;replace z:=af.bl hb4;replace zk:=blk2 z;replace y:=ae.bl hb4;replace yk:=blk2 y;replace r:=a6.bl hb4;replace rk:=blk2 r;replace ar:=r.fz;replace ro:=a8.bl hb4;replace rok:=blk2 ro;replace en:=en.bl hb4;replace enk:=blk2 en;clear a0 ah ad ak af aj ae ag aa a6 ab a8;have aG:=o3 _ aQ (oP (w.heap.size+1+1+1) (by omega));have O3:∀b,b<w.heap.size->PnOff b L ⟨B1,b1⟩ ⟨B2,b2⟩->PnOff b (Pn.ptFresh D L h l ((u:Int)/16) (-1)).1 p3 q3:=fun b hb ho=>o3 b (Nat.lt_of_lt_of_le hb aO) ho
   clear o3;generalize Pn.ptFresh D L h l ((u:Int)/16) (-1)=S at*;have yy:=blk2 (ap2 (Aj r) S.1 p3.a p3.c q3.a q3.c);have qq:=((r).set 0 (.slice p3.a S.1.targets.length p3.c)).frozen;have b9:=ap2 (Ae hB (g:=w.heap.size+1+1+1) (by omega)) S.1 p3.a p3.c q3.a q3.c;have i9:=ap2 (i3.off2 aG) S.1 p3.a p3.c q3.a q3.c;go_wp2_with fail
   rw[HE.out];exact AU i9 O3 b9 (by simp[results,Tryz.results102,go_sem,yy]) rfl
 replace Hw:=hid (Hw.out.trans (if_neg hK0));have aS:(K==0)=false:=by simpa using hK0
 clear hK0;go_wp2_with fail
 refine((aF _ a0)).mono ?_;rintro e w3 ⟨rfl,hb3⟩;replace hB:=bt a0 hb3;replace x:=ad.bl hb3;replace xk:=blk5 x;replace z:=af.bl hb3;replace zk:=blk2 z;replace y:=ae.bl hb3;replace yk:=blk2 y;replace r:=a6.bl hb3;replace rk:=blk2 r;replace ar:=r.fz;replace ro:=a8.bl hb3;replace rok:=blk2 ro;replace en:=en.bl hb3;replace enk:=blk2 en;clear a0 ah ad ak af aj ae ag aa a6 ab a8;by_cases h3:e3=0
 rotate_left
 · have n3:(e3 !=0)=true:=by simpa using h3
   have HE:=hid (Hw.out.trans (if_pos h3));clear h3;have yy:=blk2 (ap2 (Aj r) L B1 b1 B2 b2);have qq:=((r).set 0 (.slice B1 L.targets.length b1)).frozen;have b9:=ap2 (Ae hB (g:=w.heap.size+1+1+1) (by omega)) L B1 b1 B2 b2;have i9:=ap2 ((HL.out _ hB).off2 (oP (w.heap.size+1+1+1) (by omega))) L B1 b1 B2 b2;go_wp2_with fail
   rw[HE.out];exact AU i9 (fun b hb ho=>ho) b9 (by simp[results,Tryz.results102,go_sem,yy]) rfl
 have n3:(e3 !=0)=false:=by simp[h3]
 replace Hw:=hid (Hw.out.trans (if_neg (by simpa using h3)));clear h3;by_cases h4:c<=1
 · have d4:decide (c<=1)=true:=decide_eq_true h4;have HE:=hid (Hw.out.trans (if_pos h4));clear h4;have aU:¬w2.heap.size=w.heap.size+1+1+1:=by have:=aJ.out;omega
   have ne2:¬w.heap.size+1+1+1=w2.heap.size:=by have:=aJ.out;omega
   have yy:=blk2 (ap2 (Aj r) L B1 b1 B2 b2);have qq:=((r).set 0 (.slice B1 L.targets.length b1)).frozen;have b9:=ap2 (Ae hB (g:=w.heap.size+1+1+1) (by omega)) L B1 b1 B2 b2;have i9:=ap2 ((HL.out _ hB).off2 (oP (w.heap.size+1+1+1) (by omega))) L B1 b1 B2 b2;go_wp2_with fail
   go_region
   go_wp2_with fail
   rw[HE.out];exact AU (i9.below (Below.refl _ _).drew) (fun b hb ho=>ho) b9.drew (by simp[results,Tryz.results102,go_sem,yy]) rfl
 have d4:decide (c<=1)=false:=decide_eq_false h4;have HE:=hid (Hw.out.trans (if_neg h4));clear h4 Hw;have aP:=(hB).size;have aR:=(r).lt;go_wp2_with fail
 refine((aK B (by omega) _ hB)).mono ?_;rintro e w5 ⟨⟨p3,q3,rfl,i3,o3⟩,hb5⟩;replace hB:=bt hB hb5;replace x:=x.bl hb5;replace xk:=blk5 x;replace z:=z.bl hb5;replace zk:=blk2 z;replace y:=y.bl hb5;replace yk:=blk2 y;replace r:=r.bl hb5;replace rk:=blk2 r;replace ar:=r.fz;replace ro:=ro.bl hb5;replace rok:=blk2 ro;replace en:=en.bl hb5;replace enk:=blk2 en;have aG:=o3 _ aR (oP (w.heap.size+1+1+1) (by omega));have O3:∀b,b<w.heap.size->PnOff b L ⟨B1,b1⟩ ⟨B2,b2⟩->PnOff b (Pn.ptFresh D L h l ((u:Int)/16) B).1 p3 q3:=fun b hb ho=>o3 b (Nat.lt_of_lt_of_le hb aP) ho
 clear o3;generalize Pn.ptFresh D L h l ((u:Int)/16) B=S at*;have yy:=blk2 (ap2 (Aj r) S.1 p3.a p3.c q3.a q3.c);have qq:=((r).set 0 (.slice p3.a S.1.targets.length p3.c)).frozen;have b9:=ap2 (Ae hB (g:=w.heap.size+1+1+1) (by omega)) S.1 p3.a p3.c q3.a q3.c;have i9:=ap2 (i3.off2 aG) S.1 p3.a p3.c q3.a q3.c;go_wp2_with fail
 rw[HE.out];exact AU i9 O3 b9 (by simp[results,Tryz.results102,go_sem,yy]) rfl
theorem ND (D:Dk)(L:Pn)(p q p' q':Pl)(w:World)(hD:IsDk w D p q)(hL:IsPn w L p' q')(hf:D.fit=true)(hfl:L.Fit)(g:Int)(h:Nat)(hh:h<=256)(hg64:g<=64)(u K B:Int)(hu64: -9223372036854775808<=u/\u<=9223372036854775807):
 CX 64 #[dval D p q,pval L p' q',gval g h,.int .i64 u,AH K B] w (RetPn w.heap.size L p' q' (Pn.ptPoint D L g h u K B)):=by
 have HL:=hid (fun(W:World)(hb:Below w.heap.size w W)=>hL.below hb);have oP:∀B,w.heap.size<=B->PnOff B L p' q':=fun B hB=>hL.apart hB
 have aV:=fun(W:World)(hb:Below w.heap.size w W)=>NC D L p q p' q' W (hD.below hb) (hL.below hb) hf hfl g h hh hg64 u
 have aC:=fun(t:Int)(W:World)(hb:Below w.heap.size w W)(Y:Pn)(p1 q1:Pl)(hY:IsPn W Y p1 q1)(hYf:Y.Fit)=>IU D Y p q p1 q1 W (hD.below hb) hY hf hYf t (u%16) K B
 have aA:=fun(t:Int)(W:World)(hb:Below w.heap.size w W)(Y:Pn)(p1 q1:Pl)(hY:IsPn W Y p1 q1)(hYf:Y.Fit)=>DP D Y p q p1 q1 W (hD.below hb) hY hf hYf t (u%16)
 have bn:=fun(W:World)(hb:Below w.heap.size w W)(Y:Pn)(p1 q1:Pl)(hY:IsPn W Y p1 q1)(hYf:Y.Fit)(k:Int)=>DH D Y p q p1 q1 W (hD.below hb) hY hf hYf k (-1) (by decide)
 have bI:=hid (fun(Y:Pn)(hY:Y.Fit)(k:Int)=>Pn.cntAdd_fit hf hY k (-1));have aT:=Pn.ptOwn_fit hf hfl g h u;have aN:=hid (fun hu:u<0=>Pn.ptOwn_out (D:=D) (L:=L) (g:=g) (h:=h) (.inl hu));have Hw:=hid (show Pn.ptPoint D L g h u K B=_ from rfl);have bi:=hid (@Pn.ptPoint_own D L g h u K B);have ar:=hid (@Pn.ptPoint_in D L g h u K B);clear hD hL hf hfl Hw;obtain⟨A1,a1⟩:=p;obtain⟨A2,a2⟩:=q;obtain⟨B1,b1⟩:=p';obtain⟨B2,b2⟩:=q';have hB:=Y0 w;have x:=apc5 (Blk.new w 25) D A1 a1 A2 a2;have aO:=Ya hB x;have z:=apc2 (Yd aO 63) L B1 b1 B2 b2;simp only[Ys]at z;have au:=Ya aO z;have bC:=Yc x au;have y:=Yd au 27 #[.int .i64 g,.int .i64 h];simp only[Ys]at y;have ag:=Ya au y;have bD:=Yc bC ag;have bF:=Yc z ag;have xe:=Yd ag 102 #[.int .i64 K,.int .i64 B];simp only[Ys]at xe;have ae:=Ya ag xe;have bE:=Yc bD ae;have bG:=Yc bF ae;have b7:=Yc y ae;have r:=Yd ae 63 #[.slice none 0 0,.slice none 0 0];simp only[Ys]at r;have rk:=blk2 r;have a5:=Ya ae r;obtain⟨b3,b5⟩:=Z5 (Yc bE a5);obtain⟨bd,bg⟩:=Z2 (Yc bG a5);obtain⟨ba,bc⟩:=Z2 (Yc b7 a5);have aG:=Yc xe a5;go_enter Tryz.func64,Tryz.ntmps64;have bN:=(r).lt;have bM:=(a5).size;go_wp2_with fail
 refine((aV _ a5)).mono ?_;rintro e w1 ⟨⟨p1,q1,rfl,i1,o1⟩,hb1⟩;replace hB:=bt a5 hb1;replace x:=b3.bl hb1;replace z:=bd.bl hb1;replace y:=ba.bl hb1;replace xe:=aG.bl hb1;replace r:=r.bl hb1;replace rk:=blk2 r;clear aO au bC ag bD bF ae bE bG b7 a5 b5 b3 bg bd bc ba aG;have bk:=o1 _ bN (oP (w.heap.size+1+1+1+1) (by omega));have O1:∀b,b<w.heap.size->PnOff b L ⟨B1,b1⟩ ⟨B2,b2⟩->PnOff b (Pn.ptOwn D L g h u).1 p1 q1:=fun b hb ho=>o1 b (Nat.lt_of_lt_of_le hb bM) ho
 have bj:=i1.apart (Nat.le_refl w1.heap.size);have bw:=(hB).size;have bz:=(r).lt;clear o1 aV;obtain⟨⟨T,t,er⟩,hT⟩:∃x,Pn.ptOwn D L g h u=x:=⟨_,rfl⟩;rw[hT]at i1 bk O1 bj aT bi ar aN;rw[hT];clear hT;simp only at i1 bk O1 bj aT bi ar;have aD:=aC t;have aB:=aA t;clear aC aA;have rp:=r;have Bp:=hB;obtain⟨qb,qbk,qbkf⟩:=Z2f (apc2 (Blk.new w1 63) T p1.a p1.c q1.a q1.c);have a4:=Ya hB qb;obtain⟨b4,b6⟩:=Z5 (Yc x a4);obtain⟨bf,bh⟩:=Z2 (Yc z a4);have bb:=Yc y a4;have aH:=Yc xe a4;obtain⟨aZ,b0,aP⟩:=Z2f (Yc r a4);have ah:=i1.below (Yb a4);by_cases h1:er=0
 rotate_left
 · have n1:(er !=0)=true:=by simpa using h1
   have HE:=hid (bi.out h1);clear h1;have yy:=blk2 ((ap2 (Aj rp) L B1 b1 B2 b2).alloc (.cells #[.slice p1.a T.targets.length p1.c,.slice q1.a T.data.length q1.c] 63));have qq:=(rp.set 0 (.slice B1 L.targets.length b1)).frozen;have b8:=ap2 (Ae Bp (g:=w.heap.size+1+1+1+1) (by omega)) L B1 b1 B2 b2;have b9:=b8.alloc b8.size (.cells #[.slice p1.a T.targets.length p1.c,.slice q1.a T.data.length q1.c] 63);have i9:=(ap2 ((HL.out _ Bp).off2 (oP (w.heap.size+1+1+1+1) (by omega))) L B1 b1 B2 b2).below (Yb b9);go_wp2_with fail
   rw[HE.out];exact retPn i9 (fun b hb ho=>ho) b9 (by simp[results,Tryz.results64,go_sem,yy]) rfl
 have n1:(er !=0)=false:=by simp[h1]
 have u0:0<=u:=by
  rcases Int.lt_or_le u 0 with hlt|hle
  · have h9:er=10:=congrArg (fun x:Pn×Int×Int=>x.2.2) (aN.out hlt);exact absurd (h1.symm.trans h9) (by decide)
  · exact hle
 obtain⟨u,rfl⟩:=Int.eq_ofNat_of_zero_le u0;have Hw:=hid (ar.out h1);have bJ:=hid (@Pn.tabGet_err D T t ((u:Int)%16));clear h1 rp Bp bi ar aN u0;have aU:=fun(W:World)(hb:Below w.heap.size w W)(hY:IsPn W T p1 q1)=>aB W hb T p1 q1 hY aT
 have aW:=aD;clear aB aD;have bm:=hid (show Pn.putSteps D T t u K B=Pn.step (if(Pn.tabGet D T t ((u:Int)%16)).1.1=1 then Pn.cntAdd D T (Pn.tabGet D T t ((u:Int)%16)).1.2 (-1)else(T,0)) fun Y=>Pn.tabSet D Y t ((u:Int)%16) K B from rfl);generalize Pn.tabGet D T t ((u:Int)%16)=E at*;obtain⟨⟨K2,A3⟩,e2⟩:=E;simp only at aU Hw bJ bm;have bx:=(qb).lt;go_wp2_with fail
 refine((aU _ a4 ah)).mono ?_;rintro e w2 ⟨rfl,hb2⟩;replace hB:=bt a4 hb2;replace x:=b4.bl hb2;replace z:=bf.bl hb2;replace y:=bb.bl hb2;replace xe:=aH.bl hb2;replace r:=aZ.bl hb2;replace rk:=blk2 r;replace i1:=ah.below hb2;replace qb:=qb.bl hb2;replace qbk:=blk2 qb;replace qbkf:=qb.fz;clear a4 b6 b4 bh bf bb aH b0 aP aZ ah;have nq:¬w2.heap.size=w1.heap.size:=by have:=(qb).lt;omega
 obtain⟨en,enk⟩:=Z2 (Blk.new w2 102 #[.int .i64 K2,.int .i64 A3]);have a3:=Ya hB en;obtain⟨aw,aI⟩:=Z5 (Yc x a3);obtain⟨ay,aL⟩:=Z2 (Yc z a3);obtain⟨ax,aK⟩:=Z2 (Yc y a3);obtain⟨ad,ap⟩:=Z2 (Yc xe a3);obtain⟨aa,aE,am⟩:=Z2f (Yc r a3);have a8:=i1.below (Yb a3);obtain⟨a9,ak,ac⟩:=Z2f (Yc qb a3);by_cases h2:e2=0
 rotate_left
 · have n2:(e2 !=0)=true:=by simpa using h2
   have HE:=hid (Hw.out.trans (if_pos h2));clear h2;have yy:=blk2 (ap2 (Aj aa) L B1 b1 B2 b2);have qq:=((aa).set 0 (.slice B1 L.targets.length b1)).frozen;have b9:=ap2 (Ae a3 (g:=w.heap.size+1+1+1+1) (by omega)) L B1 b1 B2 b2;have i9:=ap2 ((HL.out _ a3).off2 (oP (w.heap.size+1+1+1+1) (by omega))) L B1 b1 B2 b2;go_wp2_with fail
   rw[HE.out];exact retPn i9 (fun b hb ho=>ho) b9 (by simp[results,Tryz.results64,go_sem,yy]) rfl
 have n2:(e2 !=0)=false:=by simp[h2]
 replace Hw:=hid (Hw.out.trans (if_neg (by simpa using h2)));clear h2;by_cases hK:K2=1
 · subst hK;have az:=hid (bm.out.trans (by rw[if_pos rfl]));have bx:=(a9).lt;have bz:=(aa).lt;have bw:=(a3).size;go_wp2_with fail
   refine((bn _ a3 T p1 q1 a8 aT A3)).mono ?_;rintro e w2 ⟨⟨p2,q2,rfl,i2,o2⟩,hb2⟩;replace hB:=bt a3 hb2;replace x:=aw.bl hb2;replace z:=ay.bl hb2;replace y:=ax.bl hb2;replace xe:=ad.bl hb2;replace r:=aa.bl hb2;replace rk:=blk2 r;replace i1:=a8.below hb2;replace qb:=a9.bl hb2;replace qbk:=blk2 qb;replace qbkf:=qb.fz;replace en:=en.bl hb2;replace enk:=blk2 en;clear a3 aI aw aL ay aK ax ap ad aE am aa a8 ak ac a9;generalize hM2:Pn.cntAdd D T A3 (-1)=U at*;have bQ:=o2 _ bz bk;have bO:=o2 _ bx bj;have O2:∀b,b<w.heap.size->PnOff b L ⟨B1,b1⟩ ⟨B2,b2⟩->PnOff b U.1 p2 q2:=fun b hb ho=>o2 b (Nat.lt_of_lt_of_le hb bw) (O1 b hb ho)
   have bK:=hid hM2;clear o2 hM2;have a0:=ap2 (Ae hB (g:=w1.heap.size) (by omega)) U.1 p2.a p2.c q2.a q2.c;obtain⟨aQ,aJ⟩:=Z5 (Yk x a0 (by omega));obtain⟨aS,aM⟩:=Z2 (Yk z a0 (by omega));have aR:=Yk y a0 (by omega);obtain⟨ao,aq⟩:=Z2 (Yk xe a0 (by omega));obtain⟨a7,aF,an⟩:=Z2f (Yk r a0 (by omega));have ai:=i1.oa a0 (by assumption);obtain⟨ab,al⟩:=Z2 (Yl qb a0);have af:=Yk en a0 (by omega);have aj:=i2.oa a0 (by assumption);have bL:U.1.Fit:=by rw[<-bK.out];exact bI.out T aT A3
   by_cases h3:U.2=0
   rotate_left
   · have HE:=hid (show Pn.ptPoint D L g h u K B=(L,U.2) by rw[Hw.out,az.out,Pn.step_err h3,if_pos h3]);have n3:(U.2 !=0)=true:=by simpa using h3
     clear h3;have yy:=blk2 (ap2 (Aj a7) L B1 b1 B2 b2);have qq:=((a7).set 0 (.slice B1 L.targets.length b1)).frozen;have b9:=ap2 (Ae a0 (g:=w.heap.size+1+1+1+1) (by omega)) L B1 b1 B2 b2;have i9:=ap2 ((HL.out _ a0).off2 (oP (w.heap.size+1+1+1+1) (by omega))) L B1 b1 B2 b2;go_wp2_with fail
     rw[HE.out];exact retPn i9 (fun b hb ho=>ho) b9 (by simp[results,Tryz.results64,go_sem,yy]) rfl
   have n3:(U.2 !=0)=false:=by simp[h3]
   replace az:=hid (az.out.trans (Pn.step_zero h3));clear h3;have bp:=(ab).lt;have bq:=(a7).lt;have bo:=(a0).size;go_wp2_with fail
   refine((aW _ a0 U.1 p2 q2 aj bL)).mono ?_;rintro e w9 ⟨⟨p9,q9,rfl,i9,o9⟩,hb9⟩;replace hB:=bt a0 hb9;replace x:=aQ.bl hb9;replace z:=aS.bl hb9;replace y:=aR.bl hb9;replace xe:=ao.bl hb9;replace r:=a7.bl hb9;replace rk:=blk2 r;replace i1:=ai.below hb9;replace qb:=ab.bl hb9;replace qbk:=blk2 qb;replace qbkf:=qb.fz;replace en:=af.bl hb9;replace enk:=blk2 en;replace i2:=aj.below hb9;clear a0 aJ aQ aM aS aR aq ao aF an a7 ai al ab af aj;generalize hM9:Pn.tabSet D U.1 t ((u:Int)%16) K B=S at*;have br:=o9 _ bq bQ;have bP:=o9 _ bp bO;have O9:∀b,b<w.heap.size->PnOff b L ⟨B1,b1⟩ ⟨B2,b2⟩->PnOff b S.1 p9 q9:=fun b hb ho=>o9 b (Nat.lt_of_lt_of_le hb bo) (O2 b hb ho)
   clear o9 hM9;have a6:=ap2 (Ae hB (g:=w1.heap.size) (by omega)) S.1 p9.a p9.c q9.a q9.c;obtain⟨bR,bH⟩:=Z2 (Yk z a6 (by omega));obtain⟨av,bB,bv⟩:=Z2f (Yk r a6 (by omega));obtain⟨bA,bu⟩:=Z2 (Yl qb a6);have aY:=i9.oa a6 (by assumption);by_cases h9:S.2=0
   · have HE:=hid (show Pn.ptPoint D L g h u K B=(S.1,0) by rw[Hw.out,az.out,if_neg (by rw[h9];simp)]);have n9:(S.2 !=0)=false:=by simp[h9]
     clear h9;have yy:=blk2 (ap2 (Aj av) S.1 p9.a p9.c q9.a q9.c);have qq:=((av).set 0 (.slice p9.a S.1.targets.length p9.c)).frozen;have b9:=ap2 (Ae a6 (g:=w.heap.size+1+1+1+1) (by omega)) S.1 p9.a p9.c q9.a q9.c;have i9:=ap2 (aY.off2 br) S.1 p9.a p9.c q9.a q9.c;go_wp2_with fail
     rw[HE.out];exact retPn i9 O9 b9 (by simp[results,Tryz.results64,go_sem,yy]) rfl
   · have HE:=hid (show Pn.ptPoint D L g h u K B=(L,S.2) by rw[Hw.out,az.out,if_pos h9]);have n9:(S.2 !=0)=true:=by simpa using h9
     clear h9;have yy:=blk2 (ap2 (Aj av) L B1 b1 B2 b2);have qq:=((av).set 0 (.slice B1 L.targets.length b1)).frozen;have b9:=ap2 (Ae a6 (g:=w.heap.size+1+1+1+1) (by omega)) L B1 b1 B2 b2;have i9:=ap2 ((HL.out _ a6).off2 (oP (w.heap.size+1+1+1+1) (by omega))) L B1 b1 B2 b2;go_wp2_with fail
     rw[HE.out];exact retPn i9 (fun b hb ho=>ho) b9 (by simp[results,Tryz.results64,go_sem,yy]) rfl
 · have nK:(K2==1)=false:=by simpa using hK
   have az:=hid (bm.out.trans (by rw[if_neg hK,Pn.step_zero (s:=(T,0)) rfl]));have Tf:=aT;have bp:=(a9).lt;have bq:=(aa).lt;have bo:=(a3).size;go_wp2_with fail
   refine((aW _ a3 T p1 q1 a8 Tf)).mono ?_;rintro e w9 ⟨⟨p9,q9,rfl,i9,o9⟩,hb9⟩;replace hB:=bt a3 hb9;replace x:=aw.bl hb9;replace z:=ay.bl hb9;replace y:=ax.bl hb9;replace xe:=ad.bl hb9;replace r:=aa.bl hb9;replace rk:=blk2 r;replace i1:=a8.below hb9;replace qb:=a9.bl hb9;replace qbk:=blk2 qb;replace qbkf:=qb.fz;replace en:=en.bl hb9;replace enk:=blk2 en;clear a3 aI aw aL ay aK ax ap ad aE am aa a8 ak ac a9;generalize hM9:Pn.tabSet D T t ((u:Int)%16) K B=S at*;have br:=o9 _ bq bk;have bP:=o9 _ bp bj;have O9:∀b,b<w.heap.size->PnOff b L ⟨B1,b1⟩ ⟨B2,b2⟩->PnOff b S.1 p9 q9:=fun b hb ho=>o9 b (Nat.lt_of_lt_of_le hb bo) (O1 b hb ho)
   clear o9 hM9;have a0:=ap2 (Ae hB (g:=w1.heap.size) (by omega)) S.1 p9.a p9.c q9.a q9.c;obtain⟨aQ,aJ⟩:=Z5 (Yk x a0 (by omega));obtain⟨aS,aM⟩:=Z2 (Yk z a0 (by omega));have aR:=Yk y a0 (by omega);obtain⟨ao,aq⟩:=Z2 (Yk xe a0 (by omega));obtain⟨a7,aF,an⟩:=Z2f (Yk r a0 (by omega));have ai:=i1.oa a0 (by assumption);obtain⟨ab,al⟩:=Z2 (Yl qb a0);have af:=Yk en a0 (by omega);have aX:=i9.oa a0 (by assumption);by_cases h9:S.2=0
   · have HE:=hid (show Pn.ptPoint D L g h u K B=(S.1,0) by rw[Hw.out,az.out,if_neg (by rw[h9];simp)]);have n9:(S.2 !=0)=false:=by simp[h9]
     clear h9;have yy:=blk2 (ap2 (Aj a7) S.1 p9.a p9.c q9.a q9.c);have qq:=((a7).set 0 (.slice p9.a S.1.targets.length p9.c)).frozen;have b9:=ap2 (Ae a0 (g:=w.heap.size+1+1+1+1) (by omega)) S.1 p9.a p9.c q9.a q9.c;have i9:=ap2 (aX.off2 br) S.1 p9.a p9.c q9.a q9.c;go_wp2_with fail
     rw[HE.out];exact retPn i9 O9 b9 (by simp[results,Tryz.results64,go_sem,yy]) rfl
   · have HE:=hid (show Pn.ptPoint D L g h u K B=(L,S.2) by rw[Hw.out,az.out,if_pos h9]);have n9:(S.2 !=0)=true:=by simpa using h9
     clear h9;have yy:=blk2 (ap2 (Aj a7) L B1 b1 B2 b2);have qq:=((a7).set 0 (.slice B1 L.targets.length b1)).frozen;have b9:=ap2 (Ae a0 (g:=w.heap.size+1+1+1+1) (by omega)) L B1 b1 B2 b2;have i9:=ap2 ((HL.out _ a0).off2 (oP (w.heap.size+1+1+1+1) (by omega))) L B1 b1 B2 b2;go_wp2_with fail
     rw[HE.out];exact retPn i9 (fun b hb ho=>ho) b9 (by simp[results,Tryz.results64,go_sem,yy]) rfl
end
end Go.Proofs.YtmiilfnchfdfcaaGreatDoor
