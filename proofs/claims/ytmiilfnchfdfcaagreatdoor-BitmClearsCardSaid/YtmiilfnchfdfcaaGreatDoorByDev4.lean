/- By: Dev4. -/
import Derived.Test.YtmiilfnchfdfcaaGreatDoorByDev2
import Derived.StillTailTactics
set_option maxRecDepth 100000
set_option maxHeartbeats 40000000
set_option linter.unusedVariables false
namespace Go.Proofs.YtmiilfnchfdfcaaGreatDoor
section
open Go.RowKit Go.Shelf
attribute [local go_sem] Ad Ag Ah Ac Aj Ai
theorem Tryz.infoPut':(Tryz.prog.info? 115).map (fun i=>(i.zero,i.size,i.bytes))=some (some (.agg #[.int .i64 0,.string ⟨#[]⟩]),2,24):=by kernel_rfl
theorem IT (A:Option Addr)(l:List (Int×List UInt8))(c:Nat)(w:World)(hA:Cells w A (putCells l))(hl:l.length<=1099511627776)(hn:A=none->c=0):
 Calls Tryz.prog 181 #[.slice A l.length c] w fun e w'=>∃v',e=.returned v'/\w'.ownsRow w.heap.size 115 2 v' l.length (putCells l)/\Below w.heap.size w w':=by
 have q22:∀(w:World)(a:Option Addr)(n c n' c':Nat),(binOp .eql 22 (.slice a n c) (.slice none n' c')).run Tryz.prog w=.ok (.bool a.isNone) w:=fun w a n c n' c'=>Lib.run_eql_slice_nil w _ _ a n c n' c' Tryz.underlying22
 obtain⟨i0,hi,hz0,hz1,hz2⟩:=info_parts Tryz.infoPut';cases A with
 |none=>
  have hl0:l=[]:=by
   rcases hA with h|⟨b,off,he,_⟩
   · have:=congrArg List.length h;rw[Cb]at this;exact List.length_eq_zero_iff.1 (by simp at this;omega)
   · cases he
  subst hl0;go_enter Tryz.func181,Tryz.ntmps181;go_wp2_with fail
  go_ret
  exact⟨_,rfl,World.ownsRow_nil _ _ _ _,Below.refl _ _⟩
 |some ad=>
  go_enter Tryz.func181,Tryz.ntmps181;go_wp2_with (at_builtin;refine A6 rfl _ _ 22 rfl w.heap.size 115 i0 (.agg #[.int .i64 0,.string ⟨#[]⟩]) 2 24 Tryz.underlying22 hi hz0 hz1 hz2 rfl (by decide) _ 0 [] rfl (World.ownsRow_made w #[] 0 (Nat.le_refl _) (Nat.zero_le _) rfl) (some ad) l.length c (putCells l) rfl (hA.below (Yz _)) (Cb _) (fun h=>by cases h) (Gc _) (by unfold maxLen;omega) (by omega) (by simp) ?_;intro v1 w3 hown1 hbl1;rw[Nat.zero_add,List.nil_append]at hown1)
  go_ret
  exact⟨_,rfl,hown1,(Yz _).trans hbl1⟩
theorem JK (D:Dk)(p q:Pl)(w:World)(hD:IsDk w D p q)(k:Int)(s:List UInt8)(hs:s.length<=9223372036854775807)(h1:D.off=true):
 Calls Tryz.prog 154 #[dval D p q,.int .i64 k,.string (bs s)] w fun e w'=>RetDkN w.heap.size D p q (D.write k s) e w'/\Below w.heap.size w w':=by
 have Hw:=hid (show D.write k s=(D,12) by simp[Dk.write,h1]);obtain⟨A1,c1⟩:=p;obtain⟨A2,c2⟩:=q;obtain⟨data,cache,fuse,off,bad⟩:=D;simp only at h1;subst h1;go_enter Tryz.func154,Tryz.ntmps154;go_wp2_with fail
 rw[Hw.out];refine bodyPost_ret (v:=.tuple #[dval ⟨data,cache,fuse,true,bad⟩ ⟨A1,c1⟩ ⟨A2,c2⟩,.int .i64 12]) (by simp[results,Tryz.results154,go_sem]) rfl ?_;exact⟨⟨_,_,rfl,hD.below (Ap _ _ _),fun _ _ h=>h⟩,Ap _ _ _⟩
theorem JM (D:Dk)(p q:Pl)(w:World)(hD:IsDk w D p q)(k:Int)(s:List UInt8)(hs:s.length<=9223372036854775807)(h1:D.off=false)(h2:D.there k=false):
 Calls Tryz.prog 154 #[dval D p q,.int .i64 k,.string (bs s)] w fun e w'=>RetDkN w.heap.size D p q (D.write k s) e w'/\Below w.heap.size w w':=by
 have Hw:=hid (show D.write k s=(D,10) by simp[Dk.write, *]);obtain⟨A1,c1⟩:=p;obtain⟨A2,c2⟩:=q;have hdl:=hD.data;have hcl:=hD.cl;have hout2:=Bi D ⟨A1,c1⟩ ⟨A2,c2⟩ hD.data k;rw[h2]at hout2;obtain⟨data,cache,fuse,off,bad⟩:=D;simp only at h1 hdl hcl;subst h1;clear h2;go_enter Tryz.func154,Tryz.ntmps154;go_wp2_with (go_at_call 179;refine(hout2 _).mono ?_;rintro e w1 ⟨rfl,hb1⟩;obtain⟨b0,b1⟩:=AO hb1;have y0:=blk5 b0;have y1:=blk5 b1;have y2:=b1.frozen;have y3:=b0.frozen)
 rw[Hw.out];have z1:=Ao b1 (.string (bs data)) (.slice A1 cache.length c1) (.int .i64 fuse) (.bool false) (.slice A2 bad.length c2);have hb:=Am (bt (Ap _ _ _) hb1) (g:=w.heap.size+1) (by omega) (.string (bs data)) (.slice A1 cache.length c1) (.int .i64 fuse) (.bool false) (.slice A2 bad.length c2);have z2:=blk5 z1;refine bodyPost_ret (v:=.tuple #[dval ⟨data,cache,fuse,false,bad⟩ ⟨A1,c1⟩ ⟨A2,c2⟩,.int .i64 10]) (by simp[results,Tryz.results154,go_sem,z2]) rfl ?_;exact⟨⟨_,_,rfl,hD.below hb,fun _ _ h=>h⟩,hb⟩
theorem JN (D:Dk)(p q:Pl)(w:World)(hD:IsDk w D p q)(k:Int)(s:List UInt8)(hs:s.length<=9223372036854775807)(h1:D.off=false)(h2:D.there k=true)(h3:s.length≠64):
 Calls Tryz.prog 154 #[dval D p q,.int .i64 k,.string (bs s)] w fun e w'=>RetDkN w.heap.size D p q (D.write k s) e w'/\Below w.heap.size w w':=by
 have Hw:=hid (show D.write k s=(D,11) by simp[Dk.write, *]);obtain⟨A1,c1⟩:=p;obtain⟨A2,c2⟩:=q;have hdl:=hD.data;have hcl:=hD.cl;have hout2:=Bi D ⟨A1,c1⟩ ⟨A2,c2⟩ hD.data k;rw[h2]at hout2;obtain⟨data,cache,fuse,off,bad⟩:=D;simp only at h1 hdl hcl;subst h1;have hl:((s.length:Int) !=64)=true:=by simp;omega
 clear h2 h3;go_enter Tryz.func154,Tryz.ntmps154;go_wp2_with (go_at_call 179;refine(hout2 _).mono ?_;rintro e w1 ⟨rfl,hb1⟩;obtain⟨b0,b1⟩:=AO hb1;have y0:=blk5 b0;have y1:=blk5 b1;have y2:=b1.frozen;have y3:=b0.frozen)
 rw[Hw.out];have z1:=Ao b1 (.string (bs data)) (.slice A1 cache.length c1) (.int .i64 fuse) (.bool false) (.slice A2 bad.length c2);have hb:=Am (bt (Ap _ _ _) hb1) (g:=w.heap.size+1) (by omega) (.string (bs data)) (.slice A1 cache.length c1) (.int .i64 fuse) (.bool false) (.slice A2 bad.length c2);have z2:=blk5 z1;refine bodyPost_ret (v:=.tuple #[dval ⟨data,cache,fuse,false,bad⟩ ⟨A1,c1⟩ ⟨A2,c2⟩,.int .i64 11]) (by simp[results,Tryz.results154,go_sem,z2]) rfl ?_;exact⟨⟨_,_,rfl,hD.below hb,fun _ _ h=>h⟩,hb⟩
theorem JI (D:Dk)(p q:Pl)(w:World)(hD:IsDk w D p q)(k:Int)(s:List UInt8)(hs:s.length<=9223372036854775807)(h1:D.off=false)(h2:D.there k=true)(h3:s.length=64)(h4:D.fuse=0):
 Calls Tryz.prog 154 #[dval D p q,.int .i64 k,.string (bs s)] w fun e w'=>RetDkN w.heap.size D p q (D.write k s) e w'/\Below w.heap.size w w':=by
 have Hw:=hid (show D.write k s=({D with off:=true},12) by simp[Dk.write, *]);obtain⟨A1,c1⟩:=p;obtain⟨A2,c2⟩:=q;have hdl:=hD.data;have hcl:=hD.cl;have hout2:=Bi D ⟨A1,c1⟩ ⟨A2,c2⟩ hD.data k;rw[h2]at hout2;have hbn:=fun W=>Fj D ⟨A1,c1⟩ ⟨A2,c2⟩ W h4
 obtain⟨data,cache,fuse,off,bad⟩:=D;simp only at h1 hdl hcl h4;subst h1;subst h4;have hl:((s.length:Int) !=64)=false:=by simp;omega
 clear h2 h3;go_enter Tryz.func154,Tryz.ntmps154;go_wp2_with first|(go_at_call 179;refine(hout2 _).mono ?_;rintro e w1 ⟨rfl,hb1⟩;obtain⟨b0,b1⟩:=AO hb1;have y0:=blk5 b0;have y1:=blk5 b1;have y2:=b1.frozen;have y3:=b0.frozen)|(go_at_call 79;refine(hbn _).mono ?_;rintro e w2 ⟨rfl,hb2⟩;have s2:w.heap.size+1+1<=w1.heap.size:=(by simpa using hb1.size);have s3:w1.heap.size<=w2.heap.size:=hb2.size;have ne1:¬(w2.heap.size=w.heap.size+1):=(by omega);have ne2:¬(w.heap.size+1=w2.heap.size):=(by omega);have hW:=(bt (bt (Ap _ _ _) hb1) hb2).alloc (by omega) (.cells #[.string (bs data),.slice A1 cache.length c1,.int .i64 0,.bool true,.slice A2 bad.length c2] 25);have b02:=(b0.below hb2 b0.lt).alloc (.cells #[.string (bs data),.slice A1 cache.length c1,.int .i64 0,.bool true,.slice A2 bad.length c2] 25);have b12:=(b1.below hb2 b1.lt).alloc (.cells #[.string (bs data),.slice A1 cache.length c1,.int .i64 0,.bool true,.slice A2 bad.length c2] 25);have b22:=Blk.new w2 25 #[.string (bs data),.slice A1 cache.length c1,.int .i64 0,.bool true,.slice A2 bad.length c2];have y02:=blk5 b02;have y12:=blk5 b12;have y22:=blk5 b22;have f12:=b12.frozen)
 rw[Hw.out];have z1:=Ao b12 (.string (bs data)) (.slice A1 cache.length c1) (.int .i64 0) (.bool true) (.slice A2 bad.length c2);have hb:=Am (hW) (g:=w.heap.size+1) (by omega) (.string (bs data)) (.slice A1 cache.length c1) (.int .i64 0) (.bool true) (.slice A2 bad.length c2);have z2:=blk5 z1;refine bodyPost_ret (v:=.tuple #[dval ⟨data,cache,0,true,bad⟩ ⟨A1,c1⟩ ⟨A2,c2⟩,.int .i64 12]) (by simp[results,Tryz.results154,go_sem,z2]) rfl ?_;exact⟨⟨_,_,rfl,(hD.setOff true).below hb,fun _ _ h=>h⟩,hb⟩
theorem JH (D:Dk)(p q:Pl)(w:World)(hD:IsDk w D p q)(k:Int)(s:List UInt8)(hs:s.length<=9223372036854775807)(h1:D.off=false)(h2:D.there k=true)(h3:s.length=64)(h4:D.fuse≠0)(h5:k∈D.bad):
 Calls Tryz.prog 154 #[dval D p q,.int .i64 k,.string (bs s)] w fun e w'=>RetDkN w.heap.size D p q (D.write k s) e w'/\Below w.heap.size w w':=by
 have Hw:=hid (show D.write k s=(D,13) by simp[Dk.write, *]);obtain⟨A1,c1⟩:=p;obtain⟨A2,c2⟩:=q;have hdl:=hD.data;have hcl:=hD.cl;have hcon2:=fun(W:World)(hW:Below w.heap.size w W)=>Cm A2 D.bad c2 k W (hD.below hW).bad hD.bl
 rw[decide_eq_true h5]at hcon2;have hout2:=Bi D ⟨A1,c1⟩ ⟨A2,c2⟩ hD.data k;rw[h2]at hout2;have hbn:=fun W=>CP D ⟨A1,c1⟩ ⟨A2,c2⟩ W h4 hD.fuse.2
 obtain⟨data,cache,fuse,off,bad⟩:=D;simp only at h1 hdl hcl h4;subst h1;obtain⟨F,hF⟩:∃F,F=if 0<fuse then fuse-1 else fuse:=⟨_,rfl⟩
 rw[show(⟨data,cache,fuse,false,bad⟩:Dk).burnt=⟨data,cache,F,false,bad⟩ by rw[hF];rfl]at hbn;have hl:((s.length:Int) !=64)=false:=by simp;omega
 clear h2 h3 h4 h5 hF;go_enter Tryz.func154,Tryz.ntmps154;go_wp2_with first|(go_at_call 179;refine(hout2 _).mono ?_;rintro e w1 ⟨rfl,hb1⟩;obtain⟨b0,b1⟩:=AO hb1;have y0:=blk5 b0;have y1:=blk5 b1;have y2:=b1.frozen;have y3:=b0.frozen)|(go_at_call 79;refine(hbn _).mono ?_;rintro e w2 ⟨rfl,hb2⟩;have s2:w.heap.size+1+1<=w1.heap.size:=(by simpa using hb1.size);have s3:w1.heap.size<=w2.heap.size:=hb2.size;have ne1:¬(w2.heap.size=w.heap.size+1):=(by omega);have ne2:¬(w.heap.size+1=w2.heap.size):=(by omega);have hW:=(bt (bt (Ap _ _ _) hb1) hb2).alloc (by omega) (.cells #[.string (bs data),.slice A1 cache.length c1,.int .i64 F,.bool false,.slice A2 bad.length c2] 25);have b02:=(b0.below hb2 b0.lt).alloc (.cells #[.string (bs data),.slice A1 cache.length c1,.int .i64 F,.bool false,.slice A2 bad.length c2] 25);have b12:=(b1.below hb2 b1.lt).alloc (.cells #[.string (bs data),.slice A1 cache.length c1,.int .i64 F,.bool false,.slice A2 bad.length c2] 25);have b22:=Blk.new w2 25 #[.string (bs data),.slice A1 cache.length c1,.int .i64 F,.bool false,.slice A2 bad.length c2];have y02:=blk5 b02;have y12:=blk5 b12;have y22:=blk5 b22;have f12:=b12.frozen)|(go_at_call 180;refine(hcon2 _ hW).mono ?_;rintro e w3 ⟨rfl,rfl⟩)
 rw[Hw.out];have z1:=Ao b12 (.string (bs data)) (.slice A1 cache.length c1) (.int .i64 fuse) (.bool false) (.slice A2 bad.length c2);have hb:=Am (hW) (g:=w.heap.size+1) (by omega) (.string (bs data)) (.slice A1 cache.length c1) (.int .i64 fuse) (.bool false) (.slice A2 bad.length c2);have z2:=blk5 z1;refine bodyPost_ret (v:=.tuple #[dval ⟨data,cache,fuse,false,bad⟩ ⟨A1,c1⟩ ⟨A2,c2⟩,.int .i64 13]) (by simp[results,Tryz.results154,go_sem,z2]) rfl ?_;exact⟨⟨_,_,rfl,hD.below hb,fun _ _ h=>h⟩,hb⟩
theorem JJ (D:Dk)(p q:Pl)(w:World)(hD:IsDk w D p q)(k:Int)(s:List UInt8)(hs:s.length<=9223372036854775807)(h1:D.off=false)(h2:D.there k=true)(h3:s.length=64)(h4:D.fuse≠0)(h5:k∉D.bad)(h6:4096<=D.cache.length):
 Calls Tryz.prog 154 #[dval D p q,.int .i64 k,.string (bs s)] w fun e w'=>RetDkN w.heap.size D p q (D.write k s) e w'/\Below w.heap.size w w':=by
 have Hw:=hid (show D.write k s=(D,16) by simp[Dk.write, *]);obtain⟨A1,c1⟩:=p;obtain⟨A2,c2⟩:=q;have hdl:=hD.data;have hcl:=hD.cl;have hcon2:=fun(W:World)(hW:Below w.heap.size w W)=>Cm A2 D.bad c2 k W (hD.below hW).bad hD.bl
 rw[decide_eq_false h5]at hcon2;have hout2:=Bi D ⟨A1,c1⟩ ⟨A2,c2⟩ hD.data k;rw[h2]at hout2;have hbn:=fun W=>CP D ⟨A1,c1⟩ ⟨A2,c2⟩ W h4 hD.fuse.2
 obtain⟨data,cache,fuse,off,bad⟩:=D;simp only at h1 hdl hcl h4 h6;subst h1;obtain⟨F,hF⟩:∃F,F=if 0<fuse then fuse-1 else fuse:=⟨_,rfl⟩
 rw[show(⟨data,cache,fuse,false,bad⟩:Dk).burnt=⟨data,cache,F,false,bad⟩ by rw[hF];rfl]at hbn;have hl:((s.length:Int) !=64)=false:=by simp;omega
 clear h2 h3 h4 h5 hF;go_enter Tryz.func154,Tryz.ntmps154;go_wp2_with first|(go_at_call 179;refine(hout2 _).mono ?_;rintro e w1 ⟨rfl,hb1⟩;obtain⟨b0,b1⟩:=AO hb1;have y0:=blk5 b0;have y1:=blk5 b1;have y2:=b1.frozen;have y3:=b0.frozen)|(go_at_call 79;refine(hbn _).mono ?_;rintro e w2 ⟨rfl,hb2⟩;have s2:w.heap.size+1+1<=w1.heap.size:=(by simpa using hb1.size);have s3:w1.heap.size<=w2.heap.size:=hb2.size;have ne1:¬(w2.heap.size=w.heap.size+1):=(by omega);have ne2:¬(w.heap.size+1=w2.heap.size):=(by omega);have hW:=(bt (bt (Ap _ _ _) hb1) hb2).alloc (by omega) (.cells #[.string (bs data),.slice A1 cache.length c1,.int .i64 F,.bool false,.slice A2 bad.length c2] 25);have b02:=(b0.below hb2 b0.lt).alloc (.cells #[.string (bs data),.slice A1 cache.length c1,.int .i64 F,.bool false,.slice A2 bad.length c2] 25);have b12:=(b1.below hb2 b1.lt).alloc (.cells #[.string (bs data),.slice A1 cache.length c1,.int .i64 F,.bool false,.slice A2 bad.length c2] 25);have b22:=Blk.new w2 25 #[.string (bs data),.slice A1 cache.length c1,.int .i64 F,.bool false,.slice A2 bad.length c2];have y02:=blk5 b02;have y12:=blk5 b12;have y22:=blk5 b22;have f12:=b12.frozen)|(go_at_call 180;refine(hcon2 _ hW).mono ?_;rintro e w3 ⟨rfl,rfl⟩)
 rw[Hw.out];have z1:=Ao b12 (.string (bs data)) (.slice A1 cache.length c1) (.int .i64 fuse) (.bool false) (.slice A2 bad.length c2);have hb:=Am (hW) (g:=w.heap.size+1) (by omega) (.string (bs data)) (.slice A1 cache.length c1) (.int .i64 fuse) (.bool false) (.slice A2 bad.length c2);have z2:=blk5 z1;refine bodyPost_ret (v:=.tuple #[dval ⟨data,cache,fuse,false,bad⟩ ⟨A1,c1⟩ ⟨A2,c2⟩,.int .i64 16]) (by simp[results,Tryz.results154,go_sem,z2]) rfl ?_;exact⟨⟨_,_,rfl,hD.below hb,fun _ _ h=>h⟩,hb⟩
theorem JL (D:Dk)(p q:Pl)(w:World)(hD:IsDk w D p q)(k:Int)(hk: -9223372036854775808<=k/\k<=9223372036854775807)(s:List UInt8)(hs:s.length<=9223372036854775807)(h1:D.off=false)(h2:D.there k=true)(h3:s.length=64)(h4:D.fuse≠0)(h5:k∉D.bad)(h6:D.cache.length<4096):
 Calls Tryz.prog 154 #[dval D p q,.int .i64 k,.string (bs s)] w fun e w'=>RetDkN w.heap.size D p q (D.write k s) e w'/\Below w.heap.size w w':=by
 have Hw:=hid (show D.write k s=(({D with cache:=D.cache++[(k,s)]}:Dk).burnt,0) by simp[Dk.write,h1,h2,h3,h4,h5];omega);obtain⟨A1,c1⟩:=p;obtain⟨A2,c2⟩:=q;have hdl:=hD.data;have hcl:=hD.cl;have hcon2:=fun(W:World)(hW:Below w.heap.size w W)=>Cm A2 D.bad c2 k W (hD.below hW).bad hD.bl
 rw[decide_eq_false h5]at hcon2;have hout2:=Bi D ⟨A1,c1⟩ ⟨A2,c2⟩ hD.data k;rw[h2]at hout2;have hbn:=fun W=>CP D ⟨A1,c1⟩ ⟨A2,c2⟩ W h4 hD.fuse.2
 have hclo:=fun(W:World)(hW:Below w.heap.size w W)=>IT A1 D.cache c1 W (hD.below hW).cache hcl hD.pn
 obtain⟨data,cache,fuse,off,bad⟩:=D;simp only at h1 hdl hcl h4 h6;subst h1;obtain⟨F,hF⟩:∃F,F=if 0<fuse then fuse-1 else fuse:=⟨_,rfl⟩
 have hF2: -9223372036854775808<=F/\F<=9223372036854775807:=by have:=hD.fuse;simp only at this;rw[hF];split<;>omega
 rw[show(⟨data,cache,fuse,false,bad⟩:Dk).burnt=⟨data,cache,F,false,bad⟩ by rw[hF];rfl]at hbn;rw[show(⟨data,cache++[(k,s)],fuse,false,bad⟩:Dk).burnt=⟨data,cache++[(k,s)],F,false,bad⟩ by rw[hF];rfl]at Hw;have hl:((s.length:Int) !=64)=false:=by simp;omega
 clear h2 h3 h4 h5 hF;obtain⟨i0,hi,hz0,hz1,hz2⟩:=info_parts Tryz.infoPut';go_enter Tryz.func154,Tryz.ntmps154;go_wp2_with (first|(go_at_call 179;refine(hout2 _).mono ?_;rintro e w1 ⟨rfl,hb1⟩;obtain⟨b0,b1⟩:=AO hb1;have y0:=blk5 b0;have y1:=blk5 b1;have y2:=b1.frozen;have y3:=b0.frozen)|(go_at_call 180;refine(hcon2 _ hW).mono ?_;rintro e w2 ⟨rfl,rfl⟩)|(go_at_call 79;go_loud (refine(hbn _).mono ?_;rintro e w2 ⟨rfl,hb2⟩;have s2:w.heap.size+1+1<=w1.heap.size:=(by simpa using hb1.size);have s3:w1.heap.size<=w2.heap.size:=hb2.size;have ne1:¬(w2.heap.size=w.heap.size+1):=(by omega);have ne2:¬(w.heap.size+1=w2.heap.size):=(by omega);have hW:=(bt (bt (Ap _ _ _) hb1) hb2).alloc (by omega) (.cells #[.string (bs data),.slice A1 cache.length c1,.int .i64 F,.bool false,.slice A2 bad.length c2] 25);have b02:=(b0.below hb2 b0.lt).alloc (.cells #[.string (bs data),.slice A1 cache.length c1,.int .i64 F,.bool false,.slice A2 bad.length c2] 25);have b12:=(b1.below hb2 b1.lt).alloc (.cells #[.string (bs data),.slice A1 cache.length c1,.int .i64 F,.bool false,.slice A2 bad.length c2] 25);have b22:=Blk.new w2 25 #[.string (bs data),.slice A1 cache.length c1,.int .i64 F,.bool false,.slice A2 bad.length c2];have y02:=blk5 b02;have y12:=blk5 b12;have y22:=blk5 b22))|(go_at_call 181;refine(hclo _ hW).mono ?_;rintro e w4 ⟨v1,rfl,hown1,hb4⟩;obtain⟨V1,C1,hv1,hv2,hv3,hv4⟩:=Az hown1;rw[hv1];rw[hv1]at hown1;clear hv1)|(at_builtin;refine A6 rfl (.tmp 47) (.tmp 51) 22 rfl _ 115 i0 (.agg #[.int .i64 0,.string ⟨#[]⟩]) 2 24 Tryz.underlying22 hi hz0 hz1 hz2 rfl (by decide) _ cache.length (putCells cache) rfl (hown1.alloc _) (some ⟨w4.heap.size,0,none⟩) 1 1 [.int .i64 k,.string (bs s)] rfl (EX _ _ _) rfl (fun h=>by cases h) (by simp[Value.oneCell']) (by unfold maxLen;omega) (by omega) (by have:=hb4.size;simp at this ⊢;omega) ?_;intro v2 w5 hown2 hbl2;obtain⟨V2,C2,hw1,hw2,hw3,hw4⟩:=Az hown2;rw[hw1];rw[hw1]at hown2;clear hw1;have b05:=((b02.below hb4 b02.lt).alloc (.cells #[.int .i64 k,.string (bs s)] 115)).below hbl2 b02.lt;have b15:=((b12.below hb4 b12.lt).alloc (.cells #[.int .i64 k,.string (bs s)] 115)).below hbl2 b12.lt;have b25:=((b22.below hb4 b22.lt).alloc (.cells #[.int .i64 k,.string (bs s)] 115)).below hbl2 b22.lt;have y15:=blk5 b15;have y25:=blk5 b25;have f15:=b15.frozen;have f25:=b25.frozen))
 rw[Hw.out];have hb5:Below w.heap.size w w5:=(((hW.trans (hb4.mono (by simp;omega))).alloc (by have:=hb4.size;simp at this;omega) _).trans (hbl2.mono (by simp;omega)));have hb6:=hb5.setCell (p:=⟨w2.heap.size,1,none⟩) (by simp;omega) (.slice V2 (cache.length+1) C2);have b16:=b15.other (a:=⟨w2.heap.size,1,none⟩) (by simp;omega) (.slice V2 (cache.length+1) C2);have z1:=Ao b16 (.string (bs data)) (.slice V2 (cache.length+1) C2) (.int .i64 F) (.bool false) (.slice A2 bad.length c2);have hb:=Am hb6 (g:=w.heap.size+1) (by omega) (.string (bs data)) (.slice V2 (cache.length+1) C2) (.int .i64 F) (.bool false) (.slice A2 bad.length c2);have z2:=blk5 z1;refine bodyPost_ret (v:=.tuple #[dval ⟨data,cache++[(k,s)],F,false,bad⟩ ⟨V2,C2⟩ ⟨A2,c2⟩,.int .i64 0]) (by simp[results,Tryz.results154,go_sem,z2]) rfl ?_;have hD':=hD.below hb;refine⟨⟨⟨V2,C2⟩,⟨A2,c2⟩,rfl,{hD' with cache:=?_,pn:=hw4,pc:=by simpa using hw2,pm:=hw3,cl:=by simp;omega,fuse:=hF2,strs:=?_,ats:=?_},fun g hg h=>⟨by have:=AX (g:=g) hown2 (by have:=b12.lt;omega);simpa using this,h.2⟩⟩,hb⟩
 · have hc:=Cells.of_own hown2;have e0:putCells cache++[.int .i64 k,.string (bs s)]=putCells (cache++[(k,s)]):=by simp[putCells]
   rw[e0]at hc;have q0:=AF hown2 b22.lt;have q1:=AF hown2 b12.lt;exact(hc.setCell (p:=⟨w2.heap.size,1,none⟩) q0 _).set5 q1 _ _ _ _ _
 · intro x hx
   rcases List.mem_append.1 hx with h|h
   · exact hD.strs x h
   · simp at h;subst h;exact hs
 · intro x hx
   rcases List.mem_append.1 hx with h|h
   · exact hD.ats x h
   · simp at h;subst h;exact hk
theorem Fl (D:Dk)(p q:Pl)(w:World)(hD:IsDk w D p q)(k:Int)(hk: -9223372036854775808<=k/\k<=9223372036854775807)(s:List UInt8)(hs:s.length<=9223372036854775807):
 Calls Tryz.prog 154 #[dval D p q,.int .i64 k,.string (bs s)] w fun e w'=>RetDkN w.heap.size D p q (D.write k s) e w'/\Below w.heap.size w w':=by
 cases h1:D.off with
 |true=>exact JK D p q w hD k s hs h1
 |false=>
  cases h2:D.there k with
  |false=>exact JM D p q w hD k s hs h1 h2
  |true=>
   by_cases h3:s.length=64
   · by_cases h4:D.fuse=0
     · exact JI D p q w hD k s hs h1 h2 h3 h4
     · by_cases h5:k∈D.bad
       · exact JH D p q w hD k s hs h1 h2 h3 h4 h5
       · by_cases h6:4096<=D.cache.length
         · exact JJ D p q w hD k s hs h1 h2 h3 h4 h5 h6
         · exact JL D p q w hD k hk s hs h1 h2 h3 h4 h5 (by omega)
   · exact JN D p q w hD k s hs h1 h2 h3
theorem Lw:Tryz.prog.follows .mixedOrders=true:=by kernel_rfl
theorem IN (w:World)(e:TypeId)(l:List UInt8):Below w.heap.size w (Lib.bytesWorld w e (bs l))/\RowB (Lib.bytesWorld w e (bs l)) w.heap.size l:=by
 refine⟨⟨rfl,rfl,rfl,by rw[Lib.bytesWorld_size];omega,fun k hk=>Lib.bytesWorld_at_old w e _ k hk⟩,fun j hj=>⟨?_,?_⟩⟩
 · rw[Lib.bytesWorld_cell w e (bs l) j (by rw[Ac];exact hj),AY];simp[hj]
 · have hs:l.length<=(Lib.bytesCells w e (bs l)).size:=by simp[Lib.bytesCells,bs]
   simp only[World.frozen?,Lib.bytesWorld_at_new];simp;omega
theorem Jv (i:Int)(w:World):Calls Tryz.prog 81 #[.int .i64 i] w fun e w'=>e=.returned (.bool true)/\w'=w:=by
 go_enter Tryz.func81,Tryz.ntmps81;go_wp2_with fail
 go_ret
 exact⟨rfl,rfl⟩
theorem JA (D:Dk)(p q:Pl)(w:World)(hD:IsDk w D p q)(hf:D.fit=true):
 Calls Tryz.prog 80 #[dval D p q,.func (.func 81) #[] #[]] w fun e w'=>e=.returned (.string (bs (D.last fun i=>true)))/\Below w.heap.size w w':=by
 obtain⟨A1,c1⟩:=p;obtain⟨A2,c2⟩:=q;obtain⟨f1,f2,f3,f4,f5,_⟩:=Dk.fit_parts hf;have Hf:=hid hf;clear hf
 have Hf5:=hid f5;clear f5
 have F3:=hid f3;clear f3
 have hdl:=hD.data;have hb:=Yz (W:=w) (.cells #[.string (bs D.data),.slice A1 D.cache.length c1,.int .i64 D.fuse,.bool D.off,.slice A2 D.bad.length c2] 25);have hbx:=Blk.new w 25 #[.string (bs D.data),.slice A1 D.cache.length c1,.int .i64 D.fuse,.bool D.off,.slice A2 D.bad.length c2];generalize hkeep:(fun i:Nat=>true)=keep;have Hkeep:=hid hkeep;clear hkeep
 have hcv:=Lib.run_convert_string_bytes (P:=Tryz.prog) (w.alloc (.cells #[.string (bs D.data),.slice A1 D.cache.length c1,.int .i64 D.fuse,.bool D.off,.slice A2 D.bad.length c2] 25)) 9 139 5 (bs D.data) Tryz.underlying9 Tryz.underlying139 Tryz.underlying5;obtain⟨q1,q2⟩:=IN (w.alloc (.cells #[.string (bs D.data),.slice A1 D.cache.length c1,.int .i64 D.fuse,.bool D.off,.slice A2 D.bad.length c2] 25)) 5 D.data;have hcap:D.data.length<=grownCap (w.alloc (.cells #[.string (bs D.data),.slice A1 D.cache.length c1,.int .i64 D.fuse,.bool D.off,.slice A2 D.bad.length c2] 25)) D.data.length 0 5:=grownCap_ge _ _ _ _;rw[World.size_alloc]at q2;replace hb:=bt hb q1;replace hbx:=hbx.below q1 (by simp);clear q1;simp only[Ac,World.size_alloc]at hcv;generalize grownCap (w.alloc (.cells #[.string (bs D.data),.slice A1 D.cache.length c1,.int .i64 D.fuse,.bool D.off,.slice A2 D.bad.length c2] 25)) D.data.length 0 5=cap at*;generalize Lib.bytesWorld (w.alloc (.cells #[.string (bs D.data),.slice A1 D.cache.length c1,.int .i64 D.fuse,.bool D.off,.slice A2 D.bad.length c2] 25)) 5 (bs D.data)=w1 at*;have k1:=blk5 hbx;go_enter Tryz.func80,Tryz.ntmps80;go_wp2_with fail
 go_loopw [14] (fun x W=>∃i:Nat,i<=D.cache.length/\x=.int .i64 i/\RowB W (w.heap.size+1) (D.lastN keep i)/\
  Blk W w.heap.size 25 #[.string (bs D.data),.slice A1 D.cache.length c1,.int .i64 D.fuse,.bool D.off,.slice A2 D.bad.length c2]/\Below w.heap.size w W) (fun x _=>D.cache.length-(intOf x).toNat)
 case atStart=>exact⟨0,Nat.zero_le _,rfl,q2,hbx,hb⟩
 case round=>
  clear hbx hb q2 hcv k1;obtain⟨i,hi,rfl,hrow,hbx,hb⟩:=hrel;have k0:=blk5 hbx;by_cases hlt:i<D.cache.length
  · obtain⟨pb,po,hpa,hcell⟩:=(hD.below hb).cache.put hlt;simp only at hpa;subst hpa;obtain⟨x0,x1⟩:=hcell i hlt;clear hcell;obtain⟨z1,z2,z3⟩:=Hf5.out i hlt;obtain⟨k,s,hx⟩:∃(k:Nat)(s:List UInt8),D.cache[i]=((k:Int),s):=⟨D.cache[i].1.toNat,D.cache[i].2,Prod.ext (by simp;omega) rfl⟩;have Hls:=hid (Dk.lastN_succ D keep i hlt);rw[hx]at x0 x1 z2 z3 Hls;simp only at x0 x1 z2 z3 Hls;clear z1 hx;have hdl2:D.data.length=D.sz*64:=F3.out;have hw:IntKind.i64.wrap ((k:Int)*64)=(k:Int)*64:=IntWalk.i64_in _ (by omega);have hle0:(0:Int)<=(k:Int)*64:=by omega
    have hle2:(k:Int)*64<=D.data.length:=by omega
    have hle3:¬cap=k*64:=by omega
    have htn:((k:Int)*64).toNat=k*64:=by omega
    clear hdl2;have hki:keep i=true:=by rw[<-Hkeep.out]
    have Hki:=hid hki;clear hki
    have hcl1:=fun(W:World)=>Jv i W
    have hpbx:=Blk.new wr 115 #[.int .i64 k,.string (bs s)];have kp:=blk2 hpbx;go_wp2_with (go_at_call 81;refine(hcl1 _).mono ?_;rintro e w' ⟨rfl,rfl⟩)
    have hgt:w.heap.size+1<wr.heap.size:=AZ (hrow 0 (by rw[Dk.lastN_length Hf.out];omega)).1;have hrow2:RowB (wr.alloc (.cells #[.int .i64 k,.string (bs s)] 115)) (w.heap.size+1) (D.lastN keep i):=hrow.kept (Below.heap_alloc _ _ _ hgt);have hb2:=hb.alloc (by omega) (.cells #[.int .i64 k,.string (bs s)] 115);have hbx2:=hbx.alloc (.cells #[.int .i64 k,.string (bs s)] 115);clear hrow x0 x1 k0 hcl1;generalize wr.alloc (.cells #[.int .i64 k,.string (bs s)] 115)=W2 at*
    go_still_tail 7,Lw
    change wpList _ _ _ _ _ W2.drew
    have hrow2:RowB W2.drew (w.heap.size+1) (D.lastN keep i):=hrow2;have hlen:=Dk.lastN_length Hf.out keep i;have hdl2:D.data.length=D.sz*64:=F3.out;refine wpList_step (fun K hK=>step_copy_string rfl (.tmp 26) (.tmp 28) 139 9 rfl 5 Tryz.underlying139 Tryz.sizeOf5 (w.heap.size+1) (k*64) (D.data.length-k*64) (cap-k*64) rfl (bs s) rfl
     (by rw[Ac];omega) (fun j hj=>by rw[Ac]at hj;rw[(hrow2 (k*64+j) (by omega)).1];rfl) (fun j hj=>by rw[Ac]at hj;exact(hrow2 (k*64+j) (by omega)).2) (hK _ _ ?_))
    rw[AY];have hrow3:=hrow2.setCells s (k*64) (by omega);have hb3:=below_setCells' (B:=w.heap.size) (g:=w.heap.size+1) (by omega) (s.map fun x=>Value.int .u8 (x.toNat:Int)) (k*64) hb2.drew;have hbx3:Blk (W2.drew.setCells (w.heap.size+1) (k*64) (s.map fun x=>Value.int .u8 (x.toNat:Int))) w.heap.size 25 _:=(BK (by omega) _ _ _).trans hbx2;generalize W2.drew.setCells (w.heap.size+1) (k*64) (s.map fun x=>Value.int .u8 (x.toNat:Int))=w3 at*;clear hdl2 hlen;go_wp2_with fail
    refine⟨?_,?measure⟩
    (repeat apply Exists.intro)
    refine⟨?rel,rfl⟩
    case rel=>exact⟨i+1,by omega,by go_num,by rw[Hls.out,Hki.out,if_pos rfl];exact hrow3,hbx3,hb3⟩
    case measure=>simp[intOf];omega
  · obtain rfl:i=D.cache.length:=by omega
    have hcv:=run_convert_bytes_back (P:=Tryz.prog) wr 139 9 5 ⟨w.heap.size+1,0,none⟩ cap (D.lastN keep D.cache.length) Tryz.underlying139 Tryz.underlying5 Tryz.underlying9 (fun j hj=>by
     have e:(Addr.add ⟨w.heap.size+1,0,none⟩ j)=⟨w.heap.size+1,j,none⟩:=by simp only[Addr.add];split<;>simp_all
     rw[e];exact(hrow j hj).1)
    rw[Dk.lastN_length Hf.out,<-F3.out,Ad]at hcv;go_wp2_with fail
    go_ret
    exact⟨rfl,hb⟩
theorem Jy (D:Dk)(p q:Pl)(w:World)(hD:IsDk w D p q)(h1:D.off=true):
 Calls Tryz.prog 40 #[dval D p q] w fun e w'=>RetDkN w.heap.size D p q D.flush e w'/\Below w.heap.size w w':=by
 have Hw:=hid (show D.flush=(D,12) by simp[Dk.flush,h1]);go_enter Tryz.func40,Tryz.ntmps40;go_wp2_with fail
 rw[Hw.out];refine bodyPost_ret (v:=.tuple #[dval D p q,.int .i64 12]) (by simp[results,Tryz.results40,go_sem,h1]) rfl ?_;exact⟨⟨_,_,rfl,hD.below (Ap _ _ _),fun _ _ h=>h⟩,Ap _ _ _⟩
theorem Jw (D:Dk)(p q:Pl)(w:World)(hD:IsDk w D p q)(h1:D.off=false)(h2:D.fuse=0):
 Calls Tryz.prog 40 #[dval D p q] w fun e w'=>RetDkN w.heap.size D p q D.flush e w'/\Below w.heap.size w w':=by
 have Hw:=hid (show D.flush=({D with off:=true},12) by simp[Dk.flush,h1,h2]);obtain⟨A1,c1⟩:=p;obtain⟨A2,c2⟩:=q;have hbn:=fun W=>Fj D ⟨A1,c1⟩ ⟨A2,c2⟩ W h2
 obtain⟨data,cache,fuse,off,bad⟩:=D;simp only at h1 h2;subst h1 h2;go_enter Tryz.func40,Tryz.ntmps40;go_wp2_with (go_at_call 79;refine(hbn _).mono ?_;rintro e w2 ⟨rfl,hb2⟩;obtain⟨b0,b1⟩:=AO hb2;have s2:w.heap.size+1+1<=w2.heap.size:=(by simpa using hb2.size);have ne1:¬(w2.heap.size=w.heap.size+1):=(by omega);have ne2:¬(w.heap.size+1=w2.heap.size):=(by omega);have b12:=b1.alloc (.cells #[.string (bs data),.slice A1 cache.length c1,.int .i64 0,.bool true,.slice A2 bad.length c2] 25);have y12:=blk5 b12;have f12:=b12.frozen;have hW:=(bt (Ap _ _ _) hb2).alloc (by omega) (.cells #[.string (bs data),.slice A1 cache.length c1,.int .i64 0,.bool true,.slice A2 bad.length c2] 25))
 rw[Hw.out];have z1:=Ao b12 (.string (bs data)) (.slice A1 cache.length c1) (.int .i64 0) (.bool true) (.slice A2 bad.length c2);have hb:=Am hW (g:=w.heap.size+1) (by omega) (.string (bs data)) (.slice A1 cache.length c1) (.int .i64 0) (.bool true) (.slice A2 bad.length c2);have z2:=blk5 z1;refine bodyPost_ret (v:=.tuple #[dval ⟨data,cache,0,true,bad⟩ ⟨A1,c1⟩ ⟨A2,c2⟩,.int .i64 12]) (by simp[results,Tryz.results40,go_sem,z2]) rfl ?_;exact⟨⟨_,_,rfl,(hD.setOff true).below hb,fun _ _ h=>h⟩,hb⟩
theorem Jz (D:Dk)(p q:Pl)(w:World)(hD:IsDk w D p q)(hf:D.fit=true)(h1:D.off=false)(h2:D.fuse≠0):
 Calls Tryz.prog 40 #[dval D p q] w fun e w'=>RetDkN w.heap.size D p q D.flush e w'/\Below w.heap.size w w':=by
 have Hw:=hid (show D.flush=(({D with data:=D.last fun _=>true,cache:=[]}:Dk).burnt,0) by simp[Dk.flush,h1,h2]);have hll:=Dk.lastN_length hf (fun _=>true) D.cache.length;obtain⟨f1,f2,f3,_⟩:=Dk.fit_parts hf;obtain⟨A1,c1⟩:=p;obtain⟨A2,c2⟩:=q;have hlast:=fun(W:World)(hW:IsDk W D ⟨A1,c1⟩ ⟨A2,c2⟩)=>JA D ⟨A1,c1⟩ ⟨A2,c2⟩ W hW hf
 have hbn:=fun W=>CP D ⟨A1,c1⟩ ⟨A2,c2⟩ W h2 hD.fuse.2
 change (D.last fun _=>true).length=_ at hll
 generalize (D.last fun _=>true)=L at*;have hL:L.length<=140737488355328:=by have:=hD.data;omega
 clear f1 f2 f3 hll hf h2;obtain⟨data,cache,fuse,off,bad⟩:=D;simp only at h1;subst h1;obtain⟨F,hF⟩:∃F,F=if 0<fuse then fuse-1 else fuse:=⟨_,rfl⟩
 have hF2: -9223372036854775808<=F/\F<=9223372036854775807:=by have:=hD.fuse;simp only at this;rw[hF];split<;>omega
 rw[show(⟨data,cache,fuse,false,bad⟩:Dk).burnt=⟨data,cache,F,false,bad⟩ by rw[hF];rfl]at hbn;rw[show(⟨L,[],fuse,false,bad⟩:Dk).burnt=⟨L,[],F,false,bad⟩ by rw[hF];rfl]at Hw;clear hF;go_enter Tryz.func40,Tryz.ntmps40;go_wp2_with (first|(go_at_call 79;refine(hbn _).mono ?_;rintro e w2 ⟨rfl,hb2⟩;obtain⟨b0,b1⟩:=AO hb2;have s2:w.heap.size+1+1<=w2.heap.size:=(by simpa using hb2.size);have ne1:¬(w2.heap.size=w.heap.size+1):=(by omega);have ne2:¬(w.heap.size+1=w2.heap.size):=(by omega);have b02:=b0.alloc (.cells #[.string (bs data),.slice A1 cache.length c1,.int .i64 F,.bool false,.slice A2 bad.length c2] 25);have b12:=b1.alloc (.cells #[.string (bs data),.slice A1 cache.length c1,.int .i64 F,.bool false,.slice A2 bad.length c2] 25);have b22:=Blk.new w2 25 #[.string (bs data),.slice A1 cache.length c1,.int .i64 F,.bool false,.slice A2 bad.length c2];have y02:=blk5 b02;have y12:=blk5 b12;have f12:=b12.frozen;have hW:=(bt (Ap _ _ _) hb2).alloc (by omega) (.cells #[.string (bs data),.slice A1 cache.length c1,.int .i64 F,.bool false,.slice A2 bad.length c2] 25))|(go_at_call 80;refine(hlast _ (hD.below hW)).mono ?_;rintro e w3 ⟨rfl,hb3⟩;have b13:=b12.below hb3 b12.lt;have b23:=b22.below hb3 b22.lt;have y13:=blk5 b13;have y23:=blk5 b23;have f13:=b13.frozen;have f23:=b23.frozen;have hX:=bt hW hb3))
 rw[Hw.out];have hX2:=(hX.setCell (p:=⟨w2.heap.size,0,none⟩) (by simp;omega) (.string (bs L))).setCell (p:=⟨w2.heap.size,1,none⟩) (by simp;omega) (.slice none 0 0);have b14:=(b13.other (a:=⟨w2.heap.size,0,none⟩) (by simp;omega) (.string (bs L))).other (a:=⟨w2.heap.size,1,none⟩) (by simp;omega) (.slice none 0 0);have z1:=Ao b14 (.string (bs L)) (.slice none 0 0) (.int .i64 F) (.bool false) (.slice A2 bad.length c2);have hb:=Am hX2 (g:=w.heap.size+1) (by omega) (.string (bs L)) (.slice none 0 0) (.int .i64 F) (.bool false) (.slice A2 bad.length c2);have z2:=blk5 z1;refine bodyPost_ret (v:=.tuple #[dval ⟨L,[],F,false,bad⟩ ⟨none,0⟩ ⟨A2,c2⟩,.int .i64 0]) (by simp[results,Tryz.results40,go_sem,z2]) rfl ?_;exact⟨⟨_,_,rfl,((hD.flushed hL).setFuse hF2).below hb,fun _ _ h=>⟨.inl rfl,h.2⟩⟩,hb⟩
theorem Fk (D:Dk)(p q:Pl)(w:World)(hD:IsDk w D p q)(hf:D.fit=true):
 Calls Tryz.prog 40 #[dval D p q] w fun e w'=>RetDkN w.heap.size D p q D.flush e w'/\Below w.heap.size w w':=by
 cases h1:D.off with
 |true=>exact Jy D p q w hD h1
 |false=>
  by_cases h2:D.fuse=0
  · exact Jw D p q w hD h1 h2
  · exact Jz D p q w hD hf h1 h2
end
end Go.Proofs.YtmiilfnchfdfcaaGreatDoor
