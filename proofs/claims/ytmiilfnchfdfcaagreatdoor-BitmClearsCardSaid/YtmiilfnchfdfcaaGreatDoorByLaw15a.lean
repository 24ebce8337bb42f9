/- By: JourA, Img1, SuperLaw, Super2, Img9, SpanPlain, SpanLaw, Law15a. -/
import Derived.Test.YtmiilfnchfdfcaaGreatDoorByLay2
import Derived.Shelf.Strings.Trim
set_option maxRecDepth 100000
set_option maxHeartbeats 40000000
set_option linter.unusedVariables false
namespace Go.Proofs.YtmiilfnchfdfcaaGreatDoor
section
open Go.RowKit Go.Shelf
attribute [local go_sem] Ad Ag Ah Ac Aj Ai
abbrev jval (j:Jr):Value:=.agg #[.int .u64 j.seq,.int .i64 j.pos]
theorem BR (w:World):Calls Tryz.prog 119 #[] w fun e w'=>e=.returned (.tuple #[.int .i64 6,.int .i64 81])/\Below w.heap.size w w':=by
 go_enter Tryz.func119,Tryz.ntmps119;go_wp2_with fail
 go_at_call 152;refine(N3 _).mono ?_;rintro e w1 ⟨rfl,hb⟩;go_wp2_with fail
 go_ret2
 exact⟨rfl,hb⟩
theorem Bx {pos size:Int}(h:pos<0\/size<0\/81<size\/81-size<pos):jrPlace pos size=0:=by unfold jrPlace;rw[if_pos h]
theorem FO {pos size:Int}(h:¬(pos<0\/size<0\/81<size\/81-size<pos)):jrPlace pos size=pos:=by unfold jrPlace;rw[if_neg h]
theorem K5 (pos size:Int)(h1: -9223372036854775808<=pos/\pos<=9223372036854775807)(h2: -9223372036854775808<=size/\size<=9223372036854775807)(w:World):
 Calls Tryz.prog 120 #[.int .i64 pos,.int .i64 size] w fun e w'=>e=.returned (.int .i64 (jrPlace pos size))/\Below w.heap.size w w':=by
 by_cases a1:pos<0
 · have Hw:=hid (Bx (pos:=pos) (size:=size) (.inl a1));go_enter Tryz.func120,Tryz.ntmps120;go_wp2_with fail
   go_at_call 119;refine(BR _).mono ?_;rintro e w1 ⟨rfl,hb⟩;go_wp2_with fail
   go_ret
   exact⟨by rw[Hw.out];rfl,hb⟩
 by_cases a2:size<0
 · have Hw:=hid (Bx (pos:=pos) (size:=size) (.inr (.inl a2)));go_enter Tryz.func120,Tryz.ntmps120;go_wp2_with fail
   go_at_call 119;refine(BR _).mono ?_;rintro e w1 ⟨rfl,hb⟩;go_wp2_with fail
   go_ret
   exact⟨by rw[Hw.out];rfl,hb⟩
 by_cases a3:81<size
 · have Hw:=hid (Bx (pos:=pos) (size:=size) (.inr (.inr (.inl a3))));go_enter Tryz.func120,Tryz.ntmps120;go_wp2_with fail
   go_at_call 119;refine(BR _).mono ?_;rintro e w1 ⟨rfl,hb⟩;go_wp2_with fail
   go_ret
   exact⟨by rw[Hw.out];rfl,hb⟩
 have w8:=i64w (x:=81-size) ⟨by omega,by omega⟩;by_cases a4:81-size<pos
 · have Hw:=hid (Bx (pos:=pos) (size:=size) (.inr (.inr (.inr a4))));go_enter Tryz.func120,Tryz.ntmps120;go_wp2_with fail
   go_at_call 119;refine(BR _).mono ?_;rintro e w1 ⟨rfl,hb⟩;go_wp2_with fail
   go_ret
   exact⟨by rw[Hw.out];rfl,hb⟩
 · have Hw:=hid (FO (pos:=pos) (size:=size) (by omega));go_enter Tryz.func120,Tryz.ntmps120;go_wp2_with fail
   go_at_call 119;refine(BR _).mono ?_;rintro e w1 ⟨rfl,hb⟩;go_wp2_with fail
   go_ret
   exact⟨by rw[Hw.out];rfl,hb⟩
theorem Nu (pos size:Int)(h1: -9223372036854775808<=pos/\pos<=9223372036854775807)(h2: -9223372036854775808<=size/\size<=9223372036854775807)(w:World):
 Calls Tryz.prog 111 #[.int .i64 pos,.int .i64 size] w fun e w'=>e=.returned (.int .i64 (jrPlace pos size))/\Below w.heap.size w w':=by
 by_cases a1:pos<0
 · have Hw:=hid (Bx (pos:=pos) (size:=size) (.inl a1));go_enter Tryz.func111,Tryz.ntmps111;go_wp2_with fail
   go_ret
   exact⟨by rw[Hw.out];rfl,Below.refl _ _⟩
 by_cases a2:size<0
 · have Hw:=hid (Bx (pos:=pos) (size:=size) (.inr (.inl a2)));go_enter Tryz.func111,Tryz.ntmps111;go_wp2_with fail
   go_ret
   exact⟨by rw[Hw.out];rfl,Below.refl _ _⟩
 by_cases a3:81<size
 · have Hw:=hid (Bx (pos:=pos) (size:=size) (.inr (.inr (.inl a3))));go_enter Tryz.func111,Tryz.ntmps111;go_wp2_with fail
   go_ret
   exact⟨by rw[Hw.out];rfl,Below.refl _ _⟩
 have w8:=i64w (x:=81-size) ⟨by omega,by omega⟩;by_cases a4:81-size<pos
 · have Hw:=hid (Bx (pos:=pos) (size:=size) (.inr (.inr (.inr a4))));go_enter Tryz.func111,Tryz.ntmps111;go_wp2_with fail
   go_ret
   exact⟨by rw[Hw.out];rfl,Below.refl _ _⟩
 · have Hw:=hid (FO (pos:=pos) (size:=size) (by omega));go_enter Tryz.func111,Tryz.ntmps111;go_wp2_with fail
   go_ret
   exact⟨by rw[Hw.out];rfl,Below.refl _ _⟩
theorem La {j:Jr}(h:j.seq=0\/4611686018427387904<j.seq\/j.pos<0\/81<j.pos):jrFit j=false:=by
 rw[<-Bool.not_eq_true,D7];omega
theorem Lb {j:Jr}(h:¬(j.seq=0\/4611686018427387904<j.seq\/j.pos<0\/81<j.pos)):jrFit j=true:=D7.2 (by omega)
theorem Nt (j:Jr)(h1:j.seq<18446744073709551616)(h2: -9223372036854775808<=j.pos/\j.pos<=9223372036854775807)(w:World):
 Calls Tryz.prog 47 #[jval j] w fun e w'=>e=.returned (.bool (jrFit j))/\Below w.heap.size w w':=by
 have x0:=Blk.new w 30 #[.int .u64 j.seq,.int .i64 j.pos];have hb:=Yz (W:=w) (.cells #[.int .u64 j.seq,.int .i64 j.pos] 30);have k0:=blk2 x0;have Hno:=hid (@La j);have Hyes:=hid (@Lb j);obtain⟨s,p⟩:=j;simp only at h1 h2;by_cases a1:s=0
 · have Hw:=hid (Hno.out (.inl a1));subst a1;go_enter Tryz.func47,Tryz.ntmps47;go_wp2_with fail
   go_ret
   exact⟨by rw[Hw.out];rfl,hb⟩
 by_cases a2:4611686018427387904<s
 · have Hw:=hid (Hno.out (.inr (.inl a2)));have a2':(4611686018427387904:Int)<(s:Int):=by omega
   have a1':(1:Int)<=(s:Int):=by omega
   go_enter Tryz.func47,Tryz.ntmps47;go_wp2_with fail
   go_ret
   exact⟨by rw[Hw.out];rfl,hb⟩
 by_cases a3:p<0
 · have Hw:=hid (Hno.out (.inr (.inr (.inl a3))));have a3':decide (0<=p)=false:=decide_eq_false (by omega);have a2':(s:Int)<=4611686018427387904:=by omega
   have a1':(1:Int)<=(s:Int):=by omega
   go_enter Tryz.func47,Tryz.ntmps47;go_wp2_with fail
   go_ret
   exact⟨by rw[Hw.out];rfl,hb⟩
 by_cases a4:81<p
 · have Hw:=hid (Hno.out (.inr (.inr (.inr a4))));have a4':decide (p<=81)=false:=decide_eq_false (by omega);have a2':(s:Int)<=4611686018427387904:=by omega
   have a1':(1:Int)<=(s:Int):=by omega
   go_enter Tryz.func47,Tryz.ntmps47;go_wp2_with fail
   go_ret
   exact⟨by rw[Hw.out];rfl,hb⟩
 · have Hw:=hid (Hyes.out (by simp only;omega));have a4':decide (p<=81)=true:=decide_eq_true (by omega);have a2':(s:Int)<=4611686018427387904:=by omega
   have a1':(1:Int)<=(s:Int):=by omega
   go_enter Tryz.func47,Tryz.ntmps47;go_wp2_with fail
   go_ret
   exact⟨by rw[Hw.out];rfl,hb⟩
structure RowBox (V:World) (B0:Nat) (t:TypeId) (D0:Dk) (p0 q0:Pl) (X:Dk):Prop where
 ex:∃p q:Pl,Blk V B0 t #[.string (bs X.data),.slice p.a X.cache.length p.c,.int .i64 X.fuse,.bool X.off,.slice q.a X.bad.length q.c]/\IsDk V X p q/\(∀g,g<=B0+1->(g<B0->DkOff g D0 p0 q0)->DkOff g X p q)
 zero:Blk V (B0+1) t #[.string (bs []),.slice none 0 0,.int .i64 0,.bool false,.slice none 0 0]
theorem K7 (D:Dk)(p q:Pl)(at_:Int)(l:List (List UInt8))(A:Option Addr)(c G1 G2:Nat)(w:World)(hD:IsDk w D p q)(h1:Blk w G1 61 #[.slice A l.length c])(h2:Blk w G2 3 #[.int .i64 at_])(hA:Cells w A (strCells l))
 (hat:0<=at_/\at_<=1000000) (hl:l.length<=1000000) (hs:∀s∈l,s.length<=9223372036854775807):
 Calls Tryz.prog 153 #[dval D p q,.pointer (some ⟨G1,0,none⟩),.pointer (some ⟨G2,0,none⟩)] w fun e w'=>RetDkN w.heap.size D p q (Dk.layIn (rowsFrom at_ l) D) e w'/\Below w.heap.size w w':=by
 have HAt:=hid (fun(W:World)(hb:Below w.heap.size w W)=>hA.below hb);have HDo:=hid (fun g (hg:w.heap.size<=g)=>hD.apart hg);have HDW:=hid (fun(W:World)(hb:Below w.heap.size w W)=>(hD.below hb:IsDk W D p q));have H1:=hid (fun(W:World)(hb:Below w.heap.size w W)=>blk1 (h1.below hb h1.lt));have H2:=hid (fun(W:World)(hb:Below w.heap.size w W)=>blk1 (h2.below hb h2.lt));clear hD hA h1 h2;obtain⟨A1,a1⟩:=p;obtain⟨A2,a2⟩:=q;have hB:=Below.refl w.heap.size w;have x:=Blk.new w 25 #[.string (bs D.data),.slice A1 D.cache.length a1,.int .i64 D.fuse,.bool D.off,.slice A2 D.bad.length a2];have hB_1:=Ya hB x;have r:=Yd hB_1 25 #[.string (bs []),.slice none 0 0,.int .i64 0,.bool false,.slice none 0 0];simp only[Ys]at r;have hB_2:=Ya hB_1 r;have x_3:=Yc x hB_2;have y1:=H1.out _ hB_2;go_enter Tryz.func153,Tryz.ntmps153;go_wp2_with fail
 go_loopw [6,11] (fun er u W=>∃i:Nat,i<=l.length/\u=.int .i64 i/\er=.int .i64 0/\∃X:Dk,Hid (Dk.layIn ((rowsFrom at_ l).take i) D=(X,0))/\RowBox W w.heap.size 25 D ⟨A1,a1⟩ ⟨A2,a2⟩ X/\Below w.heap.size w W) (fun _ u _=>l.length-(intOf u).toNat)
 case atStart=>exact⟨0,Nat.zero_le _,rfl,rfl,D,hid rfl,⟨⟨⟨A1,a1⟩,⟨A2,a2⟩,x_3,HDW.out _ hB_2,fun g _ h2=>by rcases Nat.lt_or_ge g w.heap.size with h|h;(exact h2 h);(exact HDo.out g h)⟩,r⟩,hB_2⟩
 case round=>
  obtain⟨i,hi,rfl,rfl,X,hX,⟨⟨p1,q1,h1,h2,h3⟩,h4⟩,hb⟩:=hrel;have z1:=blk5 h1;have z4:=blk5 h4;have v4:=h4.fz;clear y1;by_cases hlt:i<l.length
  · obtain⟨c2,o2,e2,cs⟩:=(HAt.out _ hb).str hlt;subst e2;replace cs:=cs i hlt;have y2:=H2.out _ hb;have hsl:=hs _ (List.getElem_mem hlt);obtain⟨⟨E,er⟩,hE⟩:∃X',X.write (at_+i) l[i]=X':=⟨_,rfl⟩;have hZ:i<(rowsFrom at_ l).length:=by rw[A4];exact hlt
    have Hn:=hid (show Dk.layIn ((rowsFrom at_ l).take (i+1)) D=(E,er) by
     rw[List.take_succ_eq_append_getElem hZ,Dk.layIn_snoc _ _ _ (by rw[hX.out]),hX.out,Ce l at_ i hlt];exact hE)
    have hw:=fun(W:World)(hb:Below wr.heap.size wr W)=>Fl X p1 q1 W (h2.below hb) (at_+i) ⟨by omega,by omega⟩ l[i] hsl
    simp only[hE]at hw;have Hst:=hid (fun(h:er≠0)=>show Dk.layIn (rowsFrom at_ l) D=(E,er) by
     have e:rowsFrom at_ l=(rowsFrom at_ l).take (i+1)++(rowsFrom at_ l).drop (i+1):=(List.take_append_drop _ _).symm;rw[e,Dk.layIn_stop _ _ _ (by rw[Hn.out];exact h),Hn.out])
    have wk:=i64w (x:=at_+(i:Int)) ⟨by omega,by omega⟩;have H3:=hid h3;clear h3 hE hX hZ;generalize l[i]=s at*;go_wp2_with fail
    go_at_call 154;refine(hw _ (Below.refl _ _)).mono ?_;rintro e W1 ⟨⟨p2,q2,rfl,i2,o2'⟩,hbl⟩;have g1:w.heap.size+1<wr.heap.size:=h4.lt;have bd7:=h1.below hbl h1.lt;have br7:=h4.below hbl h4.lt;have b7:=bt hb hbl;have kd:=blk5 bd7;have fd:=bd7.fz;have kr:=blk5 br7;have fr:=br7.fz;have H3':=hid (fun g (g1:g<=w.heap.size+1)(g2:g<w.heap.size->DkOff g D ⟨A1,a1⟩ ⟨A2,a2⟩)=>o2' g (by omega) (H3.out g g1 g2));have od:DkOff w.heap.size E p2 q2:=H3'.out _ (by omega) (fun h=>absurd h (by omega));have or_:DkOff (w.heap.size+1) E p2 q2:=H3'.out _ (by omega) (fun h=>absurd h (by omega));clear z1 z4 v4 hw h1 h4 h2 cs y2;by_cases he:er=0
    · subst he;go_wp2_with fail
      go_roundw
      case rel=>exact⟨i+1,by omega,by go_num,rfl,E,Hn,⟨⟨p2,q2,Ao bd7 (.string (bs E.data)) (.slice p2.a E.cache.length p2.c) (.int .i64 E.fuse) (.bool E.off) (.slice q2.a E.bad.length q2.c),i2.off5 od (.string (bs E.data)) (.slice p2.a E.cache.length p2.c) (.int .i64 E.fuse) (.bool E.off) (.slice q2.a E.bad.length q2.c),H3'.out⟩,At br7 (by omega) (.string (bs E.data)) (.slice p2.a E.cache.length p2.c) (.int .i64 E.fuse) (.bool E.off) (.slice q2.a E.bad.length q2.c)⟩,Am b7 (Nat.le_refl _) (.string (bs E.data)) (.slice p2.a E.cache.length p2.c) (.int .i64 E.fuse) (.bool E.off) (.slice q2.a E.bad.length q2.c)⟩
      case measure=>simp[intOf];omega
    · have Hl:=hid (Hst.out he);have n1:(er !=0)=true:=by simpa using he
      clear he Hst;go_wp2_with fail
      have yy:=blk5 (Ao (At br7 (g:=w.heap.size) (by omega) (.string (bs E.data)) (.slice p2.a E.cache.length p2.c) (.int .i64 E.fuse) (.bool E.off) (.slice q2.a E.bad.length q2.c)) (.string (bs E.data)) (.slice p2.a E.cache.length p2.c) (.int .i64 E.fuse) (.bool E.off) (.slice q2.a E.bad.length q2.c));refine bodyPost_ret (v:=.tuple #[dval E p2 q2,.int .i64 er]) (by simp[results,Tryz.results153,go_sem,yy]) rfl ?_;exact⟨⟨p2,q2,by rw[Hl.out],by rw[Hl.out];exact(i2.off5 od (.string (bs E.data)) (.slice p2.a E.cache.length p2.c) (.int .i64 E.fuse) (.bool E.off) (.slice q2.a E.bad.length q2.c)).off5 or_ (.string (bs E.data)) (.slice p2.a E.cache.length p2.c) (.int .i64 E.fuse) (.bool E.off) (.slice q2.a E.bad.length q2.c),by rw[Hl.out];exact fun g g1 g2=>H3'.out g (by omega) (fun _=>g2)⟩,Am (Am b7 (Nat.le_refl _) (.string (bs E.data)) (.slice p2.a E.cache.length p2.c) (.int .i64 E.fuse) (.bool E.off) (.slice q2.a E.bad.length q2.c)) (by omega) (.string (bs E.data)) (.slice p2.a E.cache.length p2.c) (.int .i64 E.fuse) (.bool E.off) (.slice q2.a E.bad.length q2.c)⟩
  · obtain rfl:i=l.length:=by omega
    have Hl:=hid (show Dk.layIn (rowsFrom at_ l) D=(X,0) by
     have:=hX.out
     rwa [List.take_of_length_le (by rw[A4];exact Nat.le_refl _)]at this)
    clear hX;go_wp2_with fail
    have z5:=blk5 (Ao h4 (.string (bs X.data)) (.slice p1.a X.cache.length p1.c) (.int .i64 X.fuse) (.bool X.off) (.slice q1.a X.bad.length q1.c));refine bodyPost_ret (v:=.tuple #[dval X p1 q1,.int .i64 0]) (by simp[results,Tryz.results153,go_sem,z5]) rfl ?_;exact⟨⟨p1,q1,by rw[Hl.out],by rw[Hl.out];exact h2.off5 (h3 _ (Nat.le_refl _) (fun h=>absurd h (by omega))) _ _ _ _ _,by rw[Hl.out];exact fun g g1 g2=>h3 g (by omega) (fun _=>g2)⟩,Am hb (by omega) _ _ _ _ _⟩
theorem KW (D:Dk)(L:Pn)(p q p' q':Pl)(G:Nat)(w:World)(hD:IsDk w D p q)(hL:IsPn w L p' q')(hG:Blk w G 63 #[.slice p'.a L.targets.length p'.c,.slice q'.a L.data.length q'.c])(hlen:L.targets.length=L.data.length)(hmany:L.targets.length<=1000000):
 Calls Tryz.prog 155 #[dval D p q,.pointer (some ⟨G,0,none⟩)] w fun e w'=>RetDkN w.heap.size D p q (Pn.lay D L) e w'/\Below w.heap.size w w':=by
 have h1:=fun(W:World)(hb:Below w.heap.size w W)=>L3 D L p q p' q' W (hD.below hb) (hL.below hb) hlen hmany
 have hap:DkOff w.heap.size D p q/\DkOff (w.heap.size+1) D p q:=⟨hD.apart (Nat.le_refl _),hD.apart (by omega)⟩;generalize Pn.lay D L=X at*;obtain⟨X,xe⟩:=X;clear hD hL hlen;obtain⟨A1,a1⟩:=p;obtain⟨A2,a2⟩:=q;have hB:=Below.refl w.heap.size w;have x:=Blk.new w 25 #[.string (bs D.data),.slice A1 D.cache.length a1,.int .i64 D.fuse,.bool D.off,.slice A2 D.bad.length a2];have hB_1:=Ya hB x;have hG_2:=Yc hG hB_1;have r:=Yd hB_1 25 #[.string (bs []),.slice none 0 0,.int .i64 0,.bool false,.slice none 0 0];simp only[Ys]at r;have rk:=blk5 r;have hB_3:=Ya hB_1 r;have hG_4:=Yc hG_2 hB_3;have hGk_4:=blk2 hG_4;have x_5:=Yc x hB_3;have xk_5:=blk5 x_5;have hr:=r.lt;go_enter Tryz.func155,Tryz.ntmps155;go_wp2_with fail
 go_at_call 156;refine((h1 _ hB_3)).mono ?_;rintro e w1 ⟨⟨p2,q2,rfl,i2,o2⟩,hb1⟩;replace hB:=bt hB_3 hb1;replace hG:=hG_4.below hb1 hG_4.lt;replace x:=x_5.below hb1 x_5.lt;replace r:=r.below hb1 r.lt;replace rk:=blk5 r;clear hB_1 hG_2 hB_3 hGk_4 hG_4 xk_5 x_5;have fr:=r.fz;simp only at i2 o2;go_wp2_with fail
 have or_:DkOff (w.heap.size+1) X p2 q2:=o2 _ hr hap.2;have yy:=blk5 (Ao r (.string (bs X.data)) (.slice p2.a X.cache.length p2.c) (.int .i64 X.fuse) (.bool X.off) (.slice q2.a X.bad.length q2.c));refine bodyPost_ret (v:=.tuple #[dval X p2 q2,.int .i64 xe]) (by simp[results,Tryz.results155,go_sem,yy]) rfl ?_;exact⟨⟨p2,q2,rfl,i2.off5 or_ _ _ _ _ _,fun g g1 g2=>o2 g (by omega) g2⟩,Am hB (by omega) _ _ _ _ _⟩
inductive Stp where
 |flush
 |rows (G1 G2:Nat) (k:Int) (l:List (List UInt8))
 |laid (G:Nat) (L:Pn)
def Stp.run:Stp->Dk->Dk×Int
 | .flush,D=>D.flush
 | .rows _ _ k l,D=>Dk.layIn (rowsFrom k l) D
 | .laid _ L,D=>Pn.lay D L
theorem Stp.fit (s:Stp){D:Dk}(h:D.fit=true):(s.run D).1.fit=true:=by
 cases s with
 |flush=>exact Dk.flush_fit h
 |rows G1 G2 k l=>exact Dk.layIn_fit h
 |laid G L=>exact Dk.layIn_fit h
def runAll:List Stp->Dk->Dk×Int
 |[],D=>(D,0)
 |s::l,D=>if(s.run D).2≠0 then s.run D else runAll l (s.run D).1
theorem N1:∀(l:List Stp)(D:Dk)(x:Stp),(runAll l D).2=0->runAll (l++[x]) D=x.run (runAll l D).1:=by
 intro l
 induction l with
 |nil=>
  intro D x _;show(if(x.run D).2≠0 then x.run D else((x.run D).1,0))=x.run D
  split
  · rfl
  · rename_i h
    have h0:(x.run D).2=0:=by simpa using h
    exact Prod.ext rfl h0.symm
 |cons s l ih=>
  intro D x h;rw[List.cons_append,runAll,runAll]at*
  split
  · rename_i h1;rw[if_pos h1]at h;exact absurd h h1
  · rename_i h1;rw[if_neg h1]at h;exact ih _ _ h
theorem N2:∀(l r:List Stp)(D:Dk),(runAll l D).2≠0->runAll (l++r) D=runAll l D:=by
 intro l
 induction l with
 |nil=>intro r D h;exact absurd rfl h
 |cons s l ih=>
  intro r D h;rw[List.cons_append,runAll,runAll]at*
  split
  · rfl
  · rename_i h1;rw[if_neg h1]at h;exact ih _ _ h
theorem blk6 {w:World}{g:Nat}{t:TypeId}{a b c d e f:Value}(h:Blk w g t #[a,b,c,d,e,f]):
 w.cell? ⟨g,0,none⟩=some a/\w.cell? ⟨g,1,none⟩=some b/\w.cell? ⟨g,2,none⟩=some c/\w.cell? ⟨g,3,none⟩=some d/\w.cell? ⟨g,4,none⟩=some e/\w.cell? ⟨g,5,none⟩=some f:=
 ⟨h.cell 0,h.cell 1,h.cell 2,h.cell 3,h.cell 4,h.cell 5⟩
theorem DD {w:World}{g:Nat}{t:TypeId}{a b c d e f:Value}(h:Blk w g t #[a,b,c,d,e,f])(v0 v1 v2 v3 v4 v5:Value):
 Blk ((((((w.setCell ⟨g,0,none⟩ v0).setCell ⟨g,1,none⟩ v1).setCell ⟨g,2,none⟩ v2).setCell ⟨g,3,none⟩ v3).setCell ⟨g,4,none⟩ v4).setCell ⟨g,5,none⟩ v5) g t #[v0,v1,v2,v3,v4,v5]:=by
 have:=(((((h.set 0 v0).set 1 v1).set 2 v2).set 3 v3).set 4 v4).set 5 v5;simpa using this
theorem DZ {w:World}{D:Dk}{p q:Pl}(h:IsDk w D p q){g:Nat}(ho:DkOff g D p q)(v0 v1 v2 v3 v4 v5:Value):
 IsDk ((((((w.setCell ⟨g,0,none⟩ v0).setCell ⟨g,1,none⟩ v1).setCell ⟨g,2,none⟩ v2).setCell ⟨g,3,none⟩ v3).setCell ⟨g,4,none⟩ v4).setCell ⟨g,5,none⟩ v5) D p q:=by
 have h5:=h.off5 ho v0 v1 v2 v3 v4;obtain⟨W,hW⟩:∃W,(((((w.setCell ⟨g,0,none⟩ v0).setCell ⟨g,1,none⟩ v1).setCell ⟨g,2,none⟩ v2).setCell ⟨g,3,none⟩ v3).setCell ⟨g,4,none⟩ v4)=W:=⟨_,rfl⟩;rw[hW]at h5 ⊢;have:=IsDk.off h5 (a:=⟨g,5,none⟩) ho v5;exact this
def Stp.val:Stp->Value
 | .flush=>.func (.func 40) #[] #[]
 | .rows G1 G2 _ _=>.func (.func 153) #[] #[.pointer (some ⟨G1,0,none⟩),.pointer (some ⟨G2,0,none⟩)]
 | .laid G _=>.func (.func 155) #[] #[.pointer (some ⟨G,0,none⟩)]
def Stp.ready (w:World):Stp->Prop
 | .flush=>True
 | .rows G1 G2 k l=>∃A c,Blk w G1 61 #[.slice A l.length c]/\Blk w G2 3 #[.int .i64 k]/\Cells w A (strCells l)/\(0<=k/\k<=1000000)/\l.length<=1000000/\∀s∈l,s.length<=9223372036854775807
 | .laid G L=>∃p q:Pl,Blk w G 63 #[.slice p.a L.targets.length p.c,.slice q.a L.data.length q.c]/\IsPn w L p q/\L.targets.length=L.data.length/\L.targets.length<=1000000
theorem Kt {w:World}{D:Dk}{p q:Pl}(hD:IsDk w D p q)(hf:D.fit=true):Calls Tryz.prog 40 #[dval D p q] w fun e w'=>RetDkN w.heap.size D p q (Stp.flush.run D) e w'/\Below w.heap.size w w':=Fk D p q w hD hf
theorem NL {w:World}{G1 G2:Nat}{k:Int}{l:List (List UInt8)}(h:Stp.ready w (.rows G1 G2 k l)){D:Dk}{p q:Pl}(hD:IsDk w D p q):
 Calls Tryz.prog 153 #[dval D p q,.pointer (some ⟨G1,0,none⟩),.pointer (some ⟨G2,0,none⟩)] w fun e w'=>RetDkN w.heap.size D p q ((Stp.rows G1 G2 k l).run D) e w'/\Below w.heap.size w w':=by
 obtain⟨A,c,h1,h2,h3,h4,h5,h6⟩:=h;exact K7 D p q k l A c G1 G2 w hD h1 h2 h3 h4 h5 h6
theorem Lg {w:World}{G:Nat}{L:Pn}(h:Stp.ready w (.laid G L)){D:Dk}{p q:Pl}(hD:IsDk w D p q):
 Calls Tryz.prog 155 #[dval D p q,.pointer (some ⟨G,0,none⟩)] w fun e w'=>RetDkN w.heap.size D p q ((Stp.laid G L).run D) e w'/\Below w.heap.size w w':=by
 obtain⟨p',q',h1,h2,h3,h4⟩:=h;exact KW D L p q p' q' G w hD h2 h1 h3 h4
theorem KU (ss:List Stp)(D:Dk)(p q:Pl)(g:Nat)(A:Option Addr)(c:Nat)(w:World)(hG:Blk w g 176 #[.string (bs D.data),.slice p.a D.cache.length p.c,.int .i64 D.fuse,.bool D.off,.slice q.a D.bad.length q.c,.int .i64 0])
 (hD:IsDk w D p q) (hf:D.fit=true) (ho:DkOff g D p q) (hA:Cells w A (ss.map Stp.val)) (hAg:∀b off,A=some ⟨b,off,none⟩->b≠g) (hl:ss.length<=1000)
 (hs:∀s∈ss,∀(W:World),w.grownBy W (some g)->Stp.ready W s):
 Calls Tryz.prog 121 #[.pointer (some ⟨g,0,none⟩),.slice A ss.length c] w fun e w'=>e=.returned (.tuple #[])/\w.grownBy w' (some g)/\∃p' q',Blk w' g 176 #[.string (bs (runAll ss D).1.data),.slice p'.a (runAll ss D).1.cache.length p'.c,.int .i64 (runAll ss D).1.fuse,.bool (runAll ss D).1.off,.slice q'.a (runAll ss D).1.bad.length q'.c,.int .i64 (runAll ss D).2]/\IsDk w' (runAll ss D).1 p' q'/\DkOff g (runAll ss D).1 p' q'/\∀b,b<w.heap.size->DkOff b D p q->DkOff b (runAll ss D).1 p' q':=by
 have Hs:=hid hs;have Ho2:=hid hAg;clear hs hAg;obtain⟨A1,a1⟩:=p;obtain⟨A2,a2⟩:=q;go_enter Tryz.func121,Tryz.ntmps121;go_wp2_with fail
 go_step3
 go_wp2_with fail
 go_step3
 go_wp2_with fail
 go_loopw [8] (fun u W=>∃i:Nat,i<=ss.length/\u=.int .i64 i/\∃(E:Dk)(p1 q1:Pl),Hid (runAll (ss.take i) D=(E,0))/\Hid (E.fit=true)/\w.grownBy W (some g)/\Blk W g 176 #[.string (bs E.data),.slice p1.a E.cache.length p1.c,.int .i64 E.fuse,.bool E.off,.slice q1.a E.bad.length q1.c,.int .i64 0]/\IsDk W E p1 q1/\DkOff g E p1 q1/\Hid (∀b,b<w.heap.size->DkOff b D ⟨A1,a1⟩ ⟨A2,a2⟩->DkOff b E p1 q1)) (fun u _=>ss.length-(intOf u).toNat)
 case atStart=>exact⟨0,Nat.zero_le _,rfl,D,⟨A1,a1⟩,⟨A2,a2⟩,hid rfl,hid hf,FG _ _,hG,hD,ho,hid (fun _ _ h=>h)⟩
 case round=>
  obtain⟨i,hi,rfl,E,p1,q1,hE,hEf,hgr,hb,hIs,hog,hoff⟩:=hrel;have kk:=blk6 hb;by_cases hlt:i<ss.length
  · have hcell:∃b off,A=some ⟨b,off,none⟩/\wr.cell? ⟨b,off+i,none⟩=some (ss[i]).val:=by
     rcases hA with h|⟨b,off,e,hc⟩
     · have:=congrArg List.length h;rw[List.length_map]at this;simp only[List.length_nil]at this;omega
     · refine⟨b,off,e,?_⟩;have h1:=hc i (ss[i]).val (by simp[hlt]);have h2:=AZ h1;have h3:=Ho2.out b off e;rw[World.cell?_of_block (w:=w) (a:=⟨b,off+i,none⟩) (hgr.block b h2 (by intro e;injection e with e;exact h3 e))];exact h1
    obtain⟨b0,o0,rfl,hcell⟩:=hcell;have hrdy:=Hs.out ss[i] (List.getElem_mem hlt) wr hgr;have Hnf:=hid (Stp.fit ss[i] hEf.out);have Hn:=hid (show runAll (ss.take (i+1)) D=(ss[i]).run E by
     rw[List.take_succ_eq_append_getElem hlt,N1 _ _ _ (by rw[hE.out]),hE.out])
    have Hst:=hid (fun(h:((ss[i]).run E).2≠0)=>show runAll ss D=(ss[i]).run E by
     have e:ss=ss.take (i+1)++ss.drop (i+1):=(List.take_append_drop _ _).symm
     conv=>lhs;rw[e]
     rw[N2 _ _ _ (by rw[Hn.out];exact h),Hn.out])
    clear hE;generalize ss[i]=s at*;have hgl:=hb.lt;cases s with
    |flush=>
     have hcall:=(Kt hIs hEf.out);obtain⟨⟨X,er⟩,hX⟩:∃X,(Stp.flush).run E=X:=⟨_,rfl⟩;rw[hX]at hcall Hnf Hn Hst;simp only[Stp.val]at hcell Hnf Hst;clear hX hrdy;go_wp2_with fail
     go_at_call 40;refine hcall.mono ?_;rintro e W1 ⟨⟨p2,q2,rfl,i2,o2⟩,hbl⟩;have hb1:=hb.below hbl hgl;have kk1:=blk6 hb1;have kf1:=hb1.fz;have og:=o2 _ hgl hog;have gr1:=Cq hgr hbl;have gr2:=DU gr1 (.string (bs X.data)) (.slice p2.a X.cache.length p2.c) (.int .i64 X.fuse) (.bool X.off) (.slice q2.a X.bad.length q2.c) (.int .i64 er);have hb2:=DD hb1 (.string (bs X.data)) (.slice p2.a X.cache.length p2.c) (.int .i64 X.fuse) (.bool X.off) (.slice q2.a X.bad.length q2.c) (.int .i64 er);have is2:=DZ i2 og (.string (bs X.data)) (.slice p2.a X.cache.length p2.c) (.int .i64 X.fuse) (.bool X.off) (.slice q2.a X.bad.length q2.c) (.int .i64 er);have Hoff:=hid (fun b (h1:b<w.heap.size)(h2:DkOff b D ⟨A1,a1⟩ ⟨A2,a2⟩)=>o2 b (Nat.lt_of_lt_of_le h1 hgr.size) (hoff.out b h1 h2));have kk2:=blk6 hb2;clear kk;by_cases he:er=0
     · subst he;go_wp2_with fail
       go_roundw
       case rel=>exact⟨i+1,by omega,by go_num,X,p2,q2,Hn,Hnf,gr2,hb2,is2,og,Hoff⟩
       case measure=>simp[intOf];omega
     · have Hl:=hid (Hst.out he);have n1:(er !=0)=true:=by simpa using he
       clear he Hst;go_wp2_with fail
       rw[Exit.noGoto_normal];refine bodyPost_end (v:=.tuple #[]) (by simp[results,Tryz.results121,go_sem]) rfl ?_;exact⟨rfl,gr2,p2,q2,by rw[Hl.out];exact hb2,by rw[Hl.out];exact is2,by rw[Hl.out];exact og,by rw[Hl.out];exact Hoff.out⟩
    |rows G1 G2 k l=>
     have hcall:=(NL hrdy hIs);obtain⟨⟨X,er⟩,hX⟩:∃X,(Stp.rows G1 G2 k l).run E=X:=⟨_,rfl⟩;rw[hX]at hcall Hnf Hn Hst;simp only[Stp.val]at hcell Hnf Hst;clear hX hrdy;go_wp2_with fail
     go_at_call 153;refine hcall.mono ?_;rintro e W1 ⟨⟨p2,q2,rfl,i2,o2⟩,hbl⟩;have hb1:=hb.below hbl hgl;have kk1:=blk6 hb1;have kf1:=hb1.fz;have og:=o2 _ hgl hog;have gr1:=Cq hgr hbl;have gr2:=DU gr1 (.string (bs X.data)) (.slice p2.a X.cache.length p2.c) (.int .i64 X.fuse) (.bool X.off) (.slice q2.a X.bad.length q2.c) (.int .i64 er);have hb2:=DD hb1 (.string (bs X.data)) (.slice p2.a X.cache.length p2.c) (.int .i64 X.fuse) (.bool X.off) (.slice q2.a X.bad.length q2.c) (.int .i64 er);have is2:=DZ i2 og (.string (bs X.data)) (.slice p2.a X.cache.length p2.c) (.int .i64 X.fuse) (.bool X.off) (.slice q2.a X.bad.length q2.c) (.int .i64 er);have Hoff:=hid (fun b (h1:b<w.heap.size)(h2:DkOff b D ⟨A1,a1⟩ ⟨A2,a2⟩)=>o2 b (Nat.lt_of_lt_of_le h1 hgr.size) (hoff.out b h1 h2));have kk2:=blk6 hb2;clear kk;by_cases he:er=0
     · subst he;go_wp2_with fail
       go_roundw
       case rel=>exact⟨i+1,by omega,by go_num,X,p2,q2,Hn,Hnf,gr2,hb2,is2,og,Hoff⟩
       case measure=>simp[intOf];omega
     · have Hl:=hid (Hst.out he);have n1:(er !=0)=true:=by simpa using he
       clear he Hst;go_wp2_with fail
       rw[Exit.noGoto_normal];refine bodyPost_end (v:=.tuple #[]) (by simp[results,Tryz.results121,go_sem]) rfl ?_;exact⟨rfl,gr2,p2,q2,by rw[Hl.out];exact hb2,by rw[Hl.out];exact is2,by rw[Hl.out];exact og,by rw[Hl.out];exact Hoff.out⟩
    |laid G L=>
     have hcall:=(Lg hrdy hIs);obtain⟨⟨X,er⟩,hX⟩:∃X,(Stp.laid G L).run E=X:=⟨_,rfl⟩;rw[hX]at hcall Hnf Hn Hst;simp only[Stp.val]at hcell Hnf Hst;clear hX hrdy;go_wp2_with fail
     go_at_call 155;refine hcall.mono ?_;rintro e W1 ⟨⟨p2,q2,rfl,i2,o2⟩,hbl⟩;have hb1:=hb.below hbl hgl;have kk1:=blk6 hb1;have kf1:=hb1.fz;have og:=o2 _ hgl hog;have gr1:=Cq hgr hbl;have gr2:=DU gr1 (.string (bs X.data)) (.slice p2.a X.cache.length p2.c) (.int .i64 X.fuse) (.bool X.off) (.slice q2.a X.bad.length q2.c) (.int .i64 er);have hb2:=DD hb1 (.string (bs X.data)) (.slice p2.a X.cache.length p2.c) (.int .i64 X.fuse) (.bool X.off) (.slice q2.a X.bad.length q2.c) (.int .i64 er);have is2:=DZ i2 og (.string (bs X.data)) (.slice p2.a X.cache.length p2.c) (.int .i64 X.fuse) (.bool X.off) (.slice q2.a X.bad.length q2.c) (.int .i64 er);have Hoff:=hid (fun b (h1:b<w.heap.size)(h2:DkOff b D ⟨A1,a1⟩ ⟨A2,a2⟩)=>o2 b (Nat.lt_of_lt_of_le h1 hgr.size) (hoff.out b h1 h2));have kk2:=blk6 hb2;clear kk;by_cases he:er=0
     · subst he;go_wp2_with fail
       go_roundw
       case rel=>exact⟨i+1,by omega,by go_num,X,p2,q2,Hn,Hnf,gr2,hb2,is2,og,Hoff⟩
       case measure=>simp[intOf];omega
     · have Hl:=hid (Hst.out he);have n1:(er !=0)=true:=by simpa using he
       clear he Hst;go_wp2_with fail
       rw[Exit.noGoto_normal];refine bodyPost_end (v:=.tuple #[]) (by simp[results,Tryz.results121,go_sem]) rfl ?_;exact⟨rfl,gr2,p2,q2,by rw[Hl.out];exact hb2,by rw[Hl.out];exact is2,by rw[Hl.out];exact og,by rw[Hl.out];exact Hoff.out⟩
  · obtain rfl:i=ss.length:=by omega
    have Hl:=hid (show runAll ss D=(E,0) by have:=hE.out;rwa [List.take_length]at this);clear hE;go_wp2_with fail
    rw[Exit.noGoto_normal];refine bodyPost_end (v:=.tuple #[]) (by simp[results,Tryz.results121,go_sem]) rfl ?_;exact⟨rfl,hgr,p1,q1,by rw[Hl.out];exact hb,by rw[Hl.out];exact hIs,by rw[Hl.out];exact hog,by rw[Hl.out];exact hoff.out⟩
structure IsMs (w:World) (l:List Dm) (r:Pl):Prop where
 row:Cells w r.a (dmRows l)
 nil:r.a=none->r.c=0
 cap:l.length<=r.c
 max:r.c<=maxLen
 bits:∀m∈l,m.bits.length=64
 name:∀m∈l,m.name.length<=maxLen
def MsOff (g:Nat)(l:List Dm)(r:Pl):Prop:=Off g r.a l.length
theorem IsMs.below {w w':World}{l:List Dm}{r:Pl}(h:IsMs w l r)(hb:Below w.heap.size w w'):IsMs w' l r:={h with row:=h.row.below hb}
theorem IsMs.off {w:World}{l:List Dm}{r:Pl}(h:IsMs w l r){a:Addr}(ho:MsOff a.block l r)(v:Value):IsMs (w.setCell a v) l r:=
 {h with row:=h.row.off ho (fun e=>by rw[List.length_eq_zero_iff.1 e];rfl) v}
theorem IsMs.o1 {B:Nat}{u W:World}{a:Addr}{v:Value}{D:List Dm}{p:Pl}(h:IsMs W D p)(hb:Below B u (W.setCell a v))(ho:MsOff a.block D p:=by first|assumption|omega):IsMs (W.setCell a v) D p:=h.off ho v
theorem IsMs.apart {w:World}{l:List Dm}{r:Pl}(h:IsMs w l r){g:Nat}(hg:w.heap.size<=g):MsOff g l r:=BZ h.row (by rw[Bv h.bits];omega) hg
theorem D6 (w:World):IsMs w [] ⟨none,0⟩:=⟨.inl rfl,fun _=>rfl,Nat.le_refl _,Nat.zero_le _,fun _ h=>(by cases h),fun _ h=>(by cases h)⟩
theorem Lx (g:Nat)(r:Pl):MsOff g [] r:=.inl rfl
theorem KO {w:World}{base:Nat}{e:TypeId}{v:Value}{l:List Dm}(h:w.ownsRow base e 66 v l.length (dmRows l))(h64:∀m∈l,m.bits.length=64)(hn:∀m∈l,m.name.length<=maxLen):
 ∃r:Pl,v=.slice r.a l.length r.c/\IsMs w l r/\∀g,g<base->MsOff g l r:=by
 obtain⟨A,c,rfl,h1,h2,h3⟩:=Az h;refine⟨⟨A,c⟩,rfl,⟨Cells.of_own h,h3,h1,h2,h64,hn⟩,fun g hg=>.inr (AF h hg)⟩
abbrev imval (x:Im)(p q r:Pl):Value:=.agg #[.string (bs x.d.data),.slice p.a x.d.cache.length p.c,.int .i64 x.d.fuse,.bool x.d.off,.slice q.a x.d.bad.length q.c,.int .i64 x.g,.int .i64 x.h,.int .u64 x.j.seq,.int .i64 x.j.pos,.slice r.a x.maps.length r.c,.bool x.br]
structure IsIm (w:World) (x:Im) (p q r:Pl):Prop where
 d:IsDk w x.d p q
 m:IsMs w x.maps r
def ImOff (g:Nat)(x:Im)(p q r:Pl):Prop:=DkOff g x.d p q/\MsOff g x.maps r
theorem IsIm.below {w w':World}{x:Im}{p q r:Pl}(h:IsIm w x p q r)(hb:Below w.heap.size w w'):IsIm w' x p q r:=⟨h.d.below hb,h.m.below hb⟩
theorem IsIm.off {w:World}{x:Im}{p q r:Pl}(h:IsIm w x p q r){a:Addr}(ho:ImOff a.block x p q r)(v:Value):IsIm (w.setCell a v) x p q r:=⟨h.d.off ho.1 v,h.m.off ho.2 v⟩
theorem IsIm.o1 {B:Nat}{u W:World}{a:Addr}{v:Value}{D:Im}{p q r:Pl}(h:IsIm W D p q r)(hb:Below B u (W.setCell a v))(ho:ImOff a.block D p q r:=by first|assumption|omega):IsIm (W.setCell a v) D p q r:=h.off ho v
theorem IsIm.apart {w:World}{x:Im}{p q r:Pl}(h:IsIm w x p q r){g:Nat}(hg:w.heap.size<=g):ImOff g x p q r:=⟨h.d.apart hg,h.m.apart hg⟩
def RetIm (B:Nat)(x:Im)(p q r:Pl)(X:Im×Int)(e:Ending)(w:World):Prop:=
 ∃p' q' r',e=.returned (.tuple #[imval X.1 p' q' r',.int .i64 X.2])/\IsIm w X.1 p' q' r'/\∀g,g<B->ImOff g x p q r->ImOff g X.1 p' q' r'
theorem Aa {w:World}{g:Nat}{t:TypeId}{a0 a1 a2 a3 a4 a5 a6 a7 a8 a9 a10:Value}(h:Blk w g t #[a0,a1,a2,a3,a4,a5,a6,a7,a8,a9,a10]):
 w.cell? ⟨g,0,none⟩=some a0/\w.cell? ⟨g,1,none⟩=some a1/\w.cell? ⟨g,2,none⟩=some a2/\w.cell? ⟨g,3,none⟩=some a3/\w.cell? ⟨g,4,none⟩=some a4/\w.cell? ⟨g,5,none⟩=some a5/\
 w.cell? ⟨g,6,none⟩=some a6/\w.cell? ⟨g,7,none⟩=some a7/\w.cell? ⟨g,8,none⟩=some a8/\w.cell? ⟨g,9,none⟩=some a9/\w.cell? ⟨g,10,none⟩=some a10:=
 ⟨h.cell 0,h.cell 1,h.cell 2,h.cell 3,h.cell 4,h.cell 5,h.cell 6,h.cell 7,h.cell 8,h.cell 9,h.cell 10⟩
theorem AJ {P:World->Prop}{g:Nat}(h:∀(W:World)(o:Nat)(v:Value),P W->P (W.setCell ⟨g,o,none⟩ v)){W:World}(hP:P W)(v0 v1 v2 v3 v4 v5 v6 v7 v8 v9 v10:Value):P (((((((((((W.setCell ⟨g,0,none⟩ v0).setCell ⟨g,1,none⟩ v1).setCell ⟨g,2,none⟩ v2).setCell ⟨g,3,none⟩ v3).setCell ⟨g,4,none⟩ v4).setCell ⟨g,5,none⟩ v5).setCell ⟨g,6,none⟩ v6).setCell ⟨g,7,none⟩ v7).setCell ⟨g,8,none⟩ v8).setCell ⟨g,9,none⟩ v9).setCell ⟨g,10,none⟩ v10):=
 h _ 10 v10 (h _ 9 v9 (h _ 8 v8 (h _ 7 v7 (h _ 6 v6 (h _ 5 v5 (h _ 4 v4 (h _ 3 v3 (h _ 2 v2 (h _ 1 v1 (h _ 0 v0 hP))))))))))
theorem Ba {W:World}{g:Nat}{t:TypeId}{a0 a1 a2 a3 a4 a5 a6 a7 a8 a9 a10:Value}(h:Blk W g t #[a0,a1,a2,a3,a4,a5,a6,a7,a8,a9,a10])(v0 v1 v2 v3 v4 v5 v6 v7 v8 v9 v10:Value):Blk (((((((((((W.setCell ⟨g,0,none⟩ v0).setCell ⟨g,1,none⟩ v1).setCell ⟨g,2,none⟩ v2).setCell ⟨g,3,none⟩ v3).setCell ⟨g,4,none⟩ v4).setCell ⟨g,5,none⟩ v5).setCell ⟨g,6,none⟩ v6).setCell ⟨g,7,none⟩ v7).setCell ⟨g,8,none⟩ v8).setCell ⟨g,9,none⟩ v9).setCell ⟨g,10,none⟩ v10) g t #[v0,v1,v2,v3,v4,v5,v6,v7,v8,v9,v10]:=by
 have:=((((((((((h.set 0 v0).set 1 v1).set 2 v2).set 3 v3).set 4 v4).set 5 v5).set 6 v6).set 7 v7).set 8 v8).set 9 v9).set 10 v10;simpa using this
theorem As {B:Nat}{w W:World}{g:Nat}(h:Below B w W)(hg:B<=g)(v0 v1 v2 v3 v4 v5 v6 v7 v8 v9 v10:Value):Below B w (((((((((((W.setCell ⟨g,0,none⟩ v0).setCell ⟨g,1,none⟩ v1).setCell ⟨g,2,none⟩ v2).setCell ⟨g,3,none⟩ v3).setCell ⟨g,4,none⟩ v4).setCell ⟨g,5,none⟩ v5).setCell ⟨g,6,none⟩ v6).setCell ⟨g,7,none⟩ v7).setCell ⟨g,8,none⟩ v8).setCell ⟨g,9,none⟩ v9).setCell ⟨g,10,none⟩ v10):=
 AJ (P:=fun W=>Below B w W) (fun W o v h=>h.setCell (p:=⟨g,o,none⟩) hg v) h v0 v1 v2 v3 v4 v5 v6 v7 v8 v9 v10
theorem AV {W:World}{g k:Nat}{t:TypeId}{cs:Array Value}(h:Blk W k t cs)(hk:k≠g)(v0 v1 v2 v3 v4 v5 v6 v7 v8 v9 v10:Value):Blk (((((((((((W.setCell ⟨g,0,none⟩ v0).setCell ⟨g,1,none⟩ v1).setCell ⟨g,2,none⟩ v2).setCell ⟨g,3,none⟩ v3).setCell ⟨g,4,none⟩ v4).setCell ⟨g,5,none⟩ v5).setCell ⟨g,6,none⟩ v6).setCell ⟨g,7,none⟩ v7).setCell ⟨g,8,none⟩ v8).setCell ⟨g,9,none⟩ v9).setCell ⟨g,10,none⟩ v10) k t cs:=
 AJ (P:=fun W=>Blk W k t cs) (fun W o v h=>h.other (a:=⟨g,o,none⟩) hk v) h v0 v1 v2 v3 v4 v5 v6 v7 v8 v9 v10
theorem Yk11 {U W:World}{g:Nat}{t t':TypeId}{a0 a1 a2 a3 a4 a5 a6 a7 a8 a9 a10 v0 v1 v2 v3 v4 v5 v6 v7 v8 v9 v10:Value}(x:Blk W g t #[a0,a1,a2,a3,a4,a5,a6,a7,a8,a9,a10])(y:Blk U g t' #[v0,v1,v2,v3,v4,v5,v6,v7,v8,v9,v10]):W.frozen? ⟨g,0,none⟩=false/\W.cell? ⟨g,0,none⟩=some a0/\(W.setCell ⟨g,0,none⟩ v0).frozen? ⟨g,1,none⟩=false/\(W.setCell ⟨g,0,none⟩ v0).cell? ⟨g,1,none⟩=some a1/\((W.setCell ⟨g,0,none⟩ v0).setCell ⟨g,1,none⟩ v1).frozen? ⟨g,2,none⟩=false/\((W.setCell ⟨g,0,none⟩ v0).setCell ⟨g,1,none⟩ v1).cell? ⟨g,2,none⟩=some a2/\(((W.setCell ⟨g,0,none⟩ v0).setCell ⟨g,1,none⟩ v1).setCell ⟨g,2,none⟩ v2).frozen? ⟨g,3,none⟩=false/\(((W.setCell ⟨g,0,none⟩ v0).setCell ⟨g,1,none⟩ v1).setCell ⟨g,2,none⟩ v2).cell? ⟨g,3,none⟩=some a3/\((((W.setCell ⟨g,0,none⟩ v0).setCell ⟨g,1,none⟩ v1).setCell ⟨g,2,none⟩ v2).setCell ⟨g,3,none⟩ v3).frozen? ⟨g,4,none⟩=false/\((((W.setCell ⟨g,0,none⟩ v0).setCell ⟨g,1,none⟩ v1).setCell ⟨g,2,none⟩ v2).setCell ⟨g,3,none⟩ v3).cell? ⟨g,4,none⟩=some a4/\(((((W.setCell ⟨g,0,none⟩ v0).setCell ⟨g,1,none⟩ v1).setCell ⟨g,2,none⟩ v2).setCell ⟨g,3,none⟩ v3).setCell ⟨g,4,none⟩ v4).frozen? ⟨g,5,none⟩=false/\(((((W.setCell ⟨g,0,none⟩ v0).setCell ⟨g,1,none⟩ v1).setCell ⟨g,2,none⟩ v2).setCell ⟨g,3,none⟩ v3).setCell ⟨g,4,none⟩ v4).cell? ⟨g,5,none⟩=some a5/\((((((W.setCell ⟨g,0,none⟩ v0).setCell ⟨g,1,none⟩ v1).setCell ⟨g,2,none⟩ v2).setCell ⟨g,3,none⟩ v3).setCell ⟨g,4,none⟩ v4).setCell ⟨g,5,none⟩ v5).frozen? ⟨g,6,none⟩=false/\((((((W.setCell ⟨g,0,none⟩ v0).setCell ⟨g,1,none⟩ v1).setCell ⟨g,2,none⟩ v2).setCell ⟨g,3,none⟩ v3).setCell ⟨g,4,none⟩ v4).setCell ⟨g,5,none⟩ v5).cell? ⟨g,6,none⟩=some a6/\(((((((W.setCell ⟨g,0,none⟩ v0).setCell ⟨g,1,none⟩ v1).setCell ⟨g,2,none⟩ v2).setCell ⟨g,3,none⟩ v3).setCell ⟨g,4,none⟩ v4).setCell ⟨g,5,none⟩ v5).setCell ⟨g,6,none⟩ v6).frozen? ⟨g,7,none⟩=false/\(((((((W.setCell ⟨g,0,none⟩ v0).setCell ⟨g,1,none⟩ v1).setCell ⟨g,2,none⟩ v2).setCell ⟨g,3,none⟩ v3).setCell ⟨g,4,none⟩ v4).setCell ⟨g,5,none⟩ v5).setCell ⟨g,6,none⟩ v6).cell? ⟨g,7,none⟩=some a7/\((((((((W.setCell ⟨g,0,none⟩ v0).setCell ⟨g,1,none⟩ v1).setCell ⟨g,2,none⟩ v2).setCell ⟨g,3,none⟩ v3).setCell ⟨g,4,none⟩ v4).setCell ⟨g,5,none⟩ v5).setCell ⟨g,6,none⟩ v6).setCell ⟨g,7,none⟩ v7).frozen? ⟨g,8,none⟩=false/\((((((((W.setCell ⟨g,0,none⟩ v0).setCell ⟨g,1,none⟩ v1).setCell ⟨g,2,none⟩ v2).setCell ⟨g,3,none⟩ v3).setCell ⟨g,4,none⟩ v4).setCell ⟨g,5,none⟩ v5).setCell ⟨g,6,none⟩ v6).setCell ⟨g,7,none⟩ v7).cell? ⟨g,8,none⟩=some a8/\(((((((((W.setCell ⟨g,0,none⟩ v0).setCell ⟨g,1,none⟩ v1).setCell ⟨g,2,none⟩ v2).setCell ⟨g,3,none⟩ v3).setCell ⟨g,4,none⟩ v4).setCell ⟨g,5,none⟩ v5).setCell ⟨g,6,none⟩ v6).setCell ⟨g,7,none⟩ v7).setCell ⟨g,8,none⟩ v8).frozen? ⟨g,9,none⟩=false/\(((((((((W.setCell ⟨g,0,none⟩ v0).setCell ⟨g,1,none⟩ v1).setCell ⟨g,2,none⟩ v2).setCell ⟨g,3,none⟩ v3).setCell ⟨g,4,none⟩ v4).setCell ⟨g,5,none⟩ v5).setCell ⟨g,6,none⟩ v6).setCell ⟨g,7,none⟩ v7).setCell ⟨g,8,none⟩ v8).cell? ⟨g,9,none⟩=some a9/\((((((((((W.setCell ⟨g,0,none⟩ v0).setCell ⟨g,1,none⟩ v1).setCell ⟨g,2,none⟩ v2).setCell ⟨g,3,none⟩ v3).setCell ⟨g,4,none⟩ v4).setCell ⟨g,5,none⟩ v5).setCell ⟨g,6,none⟩ v6).setCell ⟨g,7,none⟩ v7).setCell ⟨g,8,none⟩ v8).setCell ⟨g,9,none⟩ v9).frozen? ⟨g,10,none⟩=false/\((((((((((W.setCell ⟨g,0,none⟩ v0).setCell ⟨g,1,none⟩ v1).setCell ⟨g,2,none⟩ v2).setCell ⟨g,3,none⟩ v3).setCell ⟨g,4,none⟩ v4).setCell ⟨g,5,none⟩ v5).setCell ⟨g,6,none⟩ v6).setCell ⟨g,7,none⟩ v7).setCell ⟨g,8,none⟩ v8).setCell ⟨g,9,none⟩ v9).cell? ⟨g,10,none⟩=some a10:=by
 have c0:=x;have c1:=c0.set 0 v0;simp only[List.setIfInBounds_toArray,List.set_cons_zero,List.set_cons_succ]at c1;have c2:=c1.set 1 v1;simp only[List.setIfInBounds_toArray,List.set_cons_zero,List.set_cons_succ]at c2;have c3:=c2.set 2 v2;simp only[List.setIfInBounds_toArray,List.set_cons_zero,List.set_cons_succ]at c3;have c4:=c3.set 3 v3;simp only[List.setIfInBounds_toArray,List.set_cons_zero,List.set_cons_succ]at c4;have c5:=c4.set 4 v4;simp only[List.setIfInBounds_toArray,List.set_cons_zero,List.set_cons_succ]at c5;have c6:=c5.set 5 v5;simp only[List.setIfInBounds_toArray,List.set_cons_zero,List.set_cons_succ]at c6;have c7:=c6.set 6 v6;simp only[List.setIfInBounds_toArray,List.set_cons_zero,List.set_cons_succ]at c7;have c8:=c7.set 7 v7;simp only[List.setIfInBounds_toArray,List.set_cons_zero,List.set_cons_succ]at c8;have c9:=c8.set 8 v8;simp only[List.setIfInBounds_toArray,List.set_cons_zero,List.set_cons_succ]at c9;have c10:=c9.set 9 v9;simp only[List.setIfInBounds_toArray,List.set_cons_zero,List.set_cons_succ]at c10;exact⟨c0.frozen 0,c0.cell 0,c1.frozen 1,c1.cell 1,c2.frozen 2,c2.cell 2,c3.frozen 3,c3.cell 3,c4.frozen 4,c4.cell 4,c5.frozen 5,c5.cell 5,c6.frozen 6,c6.cell 6,c7.frozen 7,c7.cell 7,c8.frozen 8,c8.cell 8,c9.frozen 9,c9.cell 9,c10.frozen 10,c10.cell 10⟩
theorem Ym11 {B:Nat}{u W:World}{g:Nat}{v0 v1 v2 v3 v4 v5 v6 v7 v8 v9 v10:Value}{t:TypeId}{cs:Array Value}(h:Below B u W)(y:Blk (((((((((((W.setCell ⟨g,0,none⟩ v0).setCell ⟨g,1,none⟩ v1).setCell ⟨g,2,none⟩ v2).setCell ⟨g,3,none⟩ v3).setCell ⟨g,4,none⟩ v4).setCell ⟨g,5,none⟩ v5).setCell ⟨g,6,none⟩ v6).setCell ⟨g,7,none⟩ v7).setCell ⟨g,8,none⟩ v8).setCell ⟨g,9,none⟩ v9).setCell ⟨g,10,none⟩ v10) g t cs)(hg:B<=g:=by omega):Below B u (((((((((((W.setCell ⟨g,0,none⟩ v0).setCell ⟨g,1,none⟩ v1).setCell ⟨g,2,none⟩ v2).setCell ⟨g,3,none⟩ v3).setCell ⟨g,4,none⟩ v4).setCell ⟨g,5,none⟩ v5).setCell ⟨g,6,none⟩ v6).setCell ⟨g,7,none⟩ v7).setCell ⟨g,8,none⟩ v8).setCell ⟨g,9,none⟩ v9).setCell ⟨g,10,none⟩ v10):=As h hg v0 v1 v2 v3 v4 v5 v6 v7 v8 v9 v10
theorem Yg {B:Nat}{u W:World}{g:Nat}{v0 v1 v2 v3 v4 v5 v6 v7 v8 v9 v10:Value}{k:Nat}{t:TypeId}{cs:Array Value}(h:Blk W k t cs)(hb:Below B u (((((((((((W.setCell ⟨g,0,none⟩ v0).setCell ⟨g,1,none⟩ v1).setCell ⟨g,2,none⟩ v2).setCell ⟨g,3,none⟩ v3).setCell ⟨g,4,none⟩ v4).setCell ⟨g,5,none⟩ v5).setCell ⟨g,6,none⟩ v6).setCell ⟨g,7,none⟩ v7).setCell ⟨g,8,none⟩ v8).setCell ⟨g,9,none⟩ v9).setCell ⟨g,10,none⟩ v10))(hk:k≠g:=by omega):Blk (((((((((((W.setCell ⟨g,0,none⟩ v0).setCell ⟨g,1,none⟩ v1).setCell ⟨g,2,none⟩ v2).setCell ⟨g,3,none⟩ v3).setCell ⟨g,4,none⟩ v4).setCell ⟨g,5,none⟩ v5).setCell ⟨g,6,none⟩ v6).setCell ⟨g,7,none⟩ v7).setCell ⟨g,8,none⟩ v8).setCell ⟨g,9,none⟩ v9).setCell ⟨g,10,none⟩ v10) k t cs:=AV h hk v0 v1 v2 v3 v4 v5 v6 v7 v8 v9 v10
theorem Yh {B:Nat}{u W:World}{g:Nat}{v0 v1 v2 v3 v4 v5 v6 v7 v8 v9 v10:Value}{t:TypeId}{a0 a1 a2 a3 a4 a5 a6 a7 a8 a9 a10:Value}(h:Blk W g t #[a0,a1,a2,a3,a4,a5,a6,a7,a8,a9,a10])(hb:Below B u (((((((((((W.setCell ⟨g,0,none⟩ v0).setCell ⟨g,1,none⟩ v1).setCell ⟨g,2,none⟩ v2).setCell ⟨g,3,none⟩ v3).setCell ⟨g,4,none⟩ v4).setCell ⟨g,5,none⟩ v5).setCell ⟨g,6,none⟩ v6).setCell ⟨g,7,none⟩ v7).setCell ⟨g,8,none⟩ v8).setCell ⟨g,9,none⟩ v9).setCell ⟨g,10,none⟩ v10)):Blk (((((((((((W.setCell ⟨g,0,none⟩ v0).setCell ⟨g,1,none⟩ v1).setCell ⟨g,2,none⟩ v2).setCell ⟨g,3,none⟩ v3).setCell ⟨g,4,none⟩ v4).setCell ⟨g,5,none⟩ v5).setCell ⟨g,6,none⟩ v6).setCell ⟨g,7,none⟩ v7).setCell ⟨g,8,none⟩ v8).setCell ⟨g,9,none⟩ v9).setCell ⟨g,10,none⟩ v10) g t #[v0,v1,v2,v3,v4,v5,v6,v7,v8,v9,v10]:=Ba h v0 v1 v2 v3 v4 v5 v6 v7 v8 v9 v10
theorem IsDk.off11 {W:World}{D:Dk}{p q:Pl}(h:IsDk W D p q){g:Nat}(ho:DkOff g D p q)(v0 v1 v2 v3 v4 v5 v6 v7 v8 v9 v10:Value):IsDk (((((((((((W.setCell ⟨g,0,none⟩ v0).setCell ⟨g,1,none⟩ v1).setCell ⟨g,2,none⟩ v2).setCell ⟨g,3,none⟩ v3).setCell ⟨g,4,none⟩ v4).setCell ⟨g,5,none⟩ v5).setCell ⟨g,6,none⟩ v6).setCell ⟨g,7,none⟩ v7).setCell ⟨g,8,none⟩ v8).setCell ⟨g,9,none⟩ v9).setCell ⟨g,10,none⟩ v10) D p q:=
 AJ (P:=fun W=>IsDk W D p q) (fun W o v h=>h.off (a:=⟨g,o,none⟩) ho v) h v0 v1 v2 v3 v4 v5 v6 v7 v8 v9 v10
theorem IsDk.oc {B:Nat}{u W:World}{g:Nat}{v0 v1 v2 v3 v4 v5 v6 v7 v8 v9 v10:Value}{D:Dk}{p q:Pl}(h:IsDk W D p q)(hb:Below B u (((((((((((W.setCell ⟨g,0,none⟩ v0).setCell ⟨g,1,none⟩ v1).setCell ⟨g,2,none⟩ v2).setCell ⟨g,3,none⟩ v3).setCell ⟨g,4,none⟩ v4).setCell ⟨g,5,none⟩ v5).setCell ⟨g,6,none⟩ v6).setCell ⟨g,7,none⟩ v7).setCell ⟨g,8,none⟩ v8).setCell ⟨g,9,none⟩ v9).setCell ⟨g,10,none⟩ v10))(ho:DkOff g D p q:=by first|assumption|omega):IsDk (((((((((((W.setCell ⟨g,0,none⟩ v0).setCell ⟨g,1,none⟩ v1).setCell ⟨g,2,none⟩ v2).setCell ⟨g,3,none⟩ v3).setCell ⟨g,4,none⟩ v4).setCell ⟨g,5,none⟩ v5).setCell ⟨g,6,none⟩ v6).setCell ⟨g,7,none⟩ v7).setCell ⟨g,8,none⟩ v8).setCell ⟨g,9,none⟩ v9).setCell ⟨g,10,none⟩ v10) D p q:=h.off11 ho v0 v1 v2 v3 v4 v5 v6 v7 v8 v9 v10
theorem IsPn.off11 {W:World}{D:Pn}{p q:Pl}(h:IsPn W D p q){g:Nat}(ho:PnOff g D p q)(v0 v1 v2 v3 v4 v5 v6 v7 v8 v9 v10:Value):IsPn (((((((((((W.setCell ⟨g,0,none⟩ v0).setCell ⟨g,1,none⟩ v1).setCell ⟨g,2,none⟩ v2).setCell ⟨g,3,none⟩ v3).setCell ⟨g,4,none⟩ v4).setCell ⟨g,5,none⟩ v5).setCell ⟨g,6,none⟩ v6).setCell ⟨g,7,none⟩ v7).setCell ⟨g,8,none⟩ v8).setCell ⟨g,9,none⟩ v9).setCell ⟨g,10,none⟩ v10) D p q:=
 AJ (P:=fun W=>IsPn W D p q) (fun W o v h=>h.off (a:=⟨g,o,none⟩) ho v) h v0 v1 v2 v3 v4 v5 v6 v7 v8 v9 v10
theorem IsPn.oc {B:Nat}{u W:World}{g:Nat}{v0 v1 v2 v3 v4 v5 v6 v7 v8 v9 v10:Value}{D:Pn}{p q:Pl}(h:IsPn W D p q)(hb:Below B u (((((((((((W.setCell ⟨g,0,none⟩ v0).setCell ⟨g,1,none⟩ v1).setCell ⟨g,2,none⟩ v2).setCell ⟨g,3,none⟩ v3).setCell ⟨g,4,none⟩ v4).setCell ⟨g,5,none⟩ v5).setCell ⟨g,6,none⟩ v6).setCell ⟨g,7,none⟩ v7).setCell ⟨g,8,none⟩ v8).setCell ⟨g,9,none⟩ v9).setCell ⟨g,10,none⟩ v10))(ho:PnOff g D p q:=by first|assumption|omega):IsPn (((((((((((W.setCell ⟨g,0,none⟩ v0).setCell ⟨g,1,none⟩ v1).setCell ⟨g,2,none⟩ v2).setCell ⟨g,3,none⟩ v3).setCell ⟨g,4,none⟩ v4).setCell ⟨g,5,none⟩ v5).setCell ⟨g,6,none⟩ v6).setCell ⟨g,7,none⟩ v7).setCell ⟨g,8,none⟩ v8).setCell ⟨g,9,none⟩ v9).setCell ⟨g,10,none⟩ v10) D p q:=h.off11 ho v0 v1 v2 v3 v4 v5 v6 v7 v8 v9 v10
theorem IsMs.off11 {W:World}{l:List Dm}{r:Pl}(h:IsMs W l r){g:Nat}(ho:MsOff g l r)(v0 v1 v2 v3 v4 v5 v6 v7 v8 v9 v10:Value):IsMs (((((((((((W.setCell ⟨g,0,none⟩ v0).setCell ⟨g,1,none⟩ v1).setCell ⟨g,2,none⟩ v2).setCell ⟨g,3,none⟩ v3).setCell ⟨g,4,none⟩ v4).setCell ⟨g,5,none⟩ v5).setCell ⟨g,6,none⟩ v6).setCell ⟨g,7,none⟩ v7).setCell ⟨g,8,none⟩ v8).setCell ⟨g,9,none⟩ v9).setCell ⟨g,10,none⟩ v10) l r:=
 AJ (P:=fun W=>IsMs W l r) (fun W o v h=>h.off (a:=⟨g,o,none⟩) ho v) h v0 v1 v2 v3 v4 v5 v6 v7 v8 v9 v10
theorem IsMs.oc {B:Nat}{u W:World}{g:Nat}{v0 v1 v2 v3 v4 v5 v6 v7 v8 v9 v10:Value}{D:List Dm}{p:Pl}(h:IsMs W D p)(hb:Below B u (((((((((((W.setCell ⟨g,0,none⟩ v0).setCell ⟨g,1,none⟩ v1).setCell ⟨g,2,none⟩ v2).setCell ⟨g,3,none⟩ v3).setCell ⟨g,4,none⟩ v4).setCell ⟨g,5,none⟩ v5).setCell ⟨g,6,none⟩ v6).setCell ⟨g,7,none⟩ v7).setCell ⟨g,8,none⟩ v8).setCell ⟨g,9,none⟩ v9).setCell ⟨g,10,none⟩ v10))(ho:MsOff g D p:=by first|assumption|omega):IsMs (((((((((((W.setCell ⟨g,0,none⟩ v0).setCell ⟨g,1,none⟩ v1).setCell ⟨g,2,none⟩ v2).setCell ⟨g,3,none⟩ v3).setCell ⟨g,4,none⟩ v4).setCell ⟨g,5,none⟩ v5).setCell ⟨g,6,none⟩ v6).setCell ⟨g,7,none⟩ v7).setCell ⟨g,8,none⟩ v8).setCell ⟨g,9,none⟩ v9).setCell ⟨g,10,none⟩ v10) D p:=h.off11 ho v0 v1 v2 v3 v4 v5 v6 v7 v8 v9 v10
theorem DQ {w:World}{g:Nat}{t:TypeId}{a0 a1 a2 a3 a4 a5 a6 a7 a8 a9 a10:Value}(h:Blk w g t #[a0,a1,a2,a3,a4,a5,a6,a7,a8,a9,a10])(x:Ext w):
 x.world.cell? ⟨g,0,none⟩=some a0/\x.world.cell? ⟨g,1,none⟩=some a1/\x.world.cell? ⟨g,2,none⟩=some a2/\x.world.cell? ⟨g,3,none⟩=some a3/\x.world.cell? ⟨g,4,none⟩=some a4/\x.world.cell? ⟨g,5,none⟩=some a5/\
 x.world.cell? ⟨g,6,none⟩=some a6/\x.world.cell? ⟨g,7,none⟩=some a7/\x.world.cell? ⟨g,8,none⟩=some a8/\x.world.cell? ⟨g,9,none⟩=some a9/\x.world.cell? ⟨g,10,none⟩=some a10:=
 ⟨x.cell (h.cell 0),x.cell (h.cell 1),x.cell (h.cell 2),x.cell (h.cell 3),x.cell (h.cell 4),x.cell (h.cell 5),x.cell (h.cell 6),x.cell (h.cell 7),x.cell (h.cell 8),x.cell (h.cell 9),x.cell (h.cell 10)⟩
theorem Gg {w:World}{base:Nat}{e:TypeId}{size n:Nat}{g cap:Nat}{xs:List Value}(h:w.ownsRow base e size (.slice (some ⟨g,0,none⟩) n cap) n xs)(j:Nat)(hj:j<xs.length)(u:Value):
 (w.setCell ⟨g,j,none⟩ u).ownsRow base e size (.slice (some ⟨g,0,none⟩) n cap) n (xs.set j u):=by
 refine⟨by rw[List.length_set];exact h.1,?_⟩
 rcases h.2 with ⟨h',_⟩|⟨g',cap',cur,hv,hb,hh,h1,h2,h3,h4⟩
 · cases h'
 · injection hv with a b c
   injection a with a
   injection a with a _
   subst a;subst c
   refine .inr ⟨g,cap,cur.setIfInBounds j u,rfl,hb,Blk.set (t:=e) hh j u,h1,h2,by rw[Array.size_setIfInBounds];exact h3,?_⟩;rw[Array.toList_setIfInBounds,List.take_set,h4]
theorem Gf {w:World}{base:Nat}{e:TypeId}{size n:Nat}{g cap:Nat}{xs:List Value}(h:w.ownsRow base e size (.slice (some ⟨g,0,none⟩) n cap) n xs)(j:Nat):w.frozen? ⟨g,j,none⟩=false:=by
 rcases h.2 with ⟨h',_⟩|⟨g',cap',cur,hv,hb,hh,_⟩
 · cases h'
 · injection hv with a b c
   injection a with a
   injection a with a _
   subst a;exact Blk.frozen (t:=e) hh j
theorem Ge {w:World}{base:Nat}{e:TypeId}{size n:Nat}{g cap:Nat}{xs:List Value}(h:w.ownsRow base e size (.slice (some ⟨g,0,none⟩) n cap) n xs)(j:Nat)(hj:j<xs.length):w.cell? ⟨g,j,none⟩=some xs[j]:=by
 rcases Cells.of_own h with h0|⟨b,off,he,hc⟩
 · rw[h0]at hj;simp at hj
 · injection he with he
   injection he with h1 h2
   subst h1;subst h2
   rw[<-hc j xs[j] (List.getElem?_eq_getElem hj),Nat.zero_add]
theorem JY (l:List Dm)(h64:∀m∈l,m.bits.length=64)(i k:Nat)(hi:i<l.length)(hk:k<64)(b:Bool):(dmRows l).set (i*66+(2+k)) (.bool b)=dmRows (l.set i {l[i]with bits:=l[i].bits.set k b}):=by
 induction l generalizing i with
 |nil=>simp at hi
 |cons x l ih=>
  have hx:=AH (h64 x (by simp));have e:dmRows (x::l)=dmCells x++dmRows l:=rfl;cases i with
  |zero=>
   rw[e,Nat.zero_mul,Nat.zero_add,List.set_append,if_pos (by omega),List.set_cons_zero];show(dmCells x).set (2+k) (.bool b)++dmRows l=dmCells _++dmRows l
   congr 1
   rw[show 2+k=k+1+1 by omega];simp[dmCells,List.map_set]
  |succ i=>
   rw[e,List.set_append,if_neg (by omega),hx,show(i+1)*66+(2+k)-66=i*66+(2+k) by omega,ih (fun m hm=>h64 m (by simp[hm])) i (by simpa using hi),List.set_cons_succ];rfl
end
section
open Go.RowKit Go.Shelf
def sumOf (l:List UInt8):List UInt8:=be 4 (crcOf l)
def headOf (g h:Nat):List UInt8:=F5++be 2 g++be 2 h
def supOf (g h:Nat):List UInt8:=headOf g h++sumOf (headOf g h)++List.replicate 52 0
def writeW (g h:Int):List UInt8:=if geomOk g h then supOf g.toNat h.toNat else []
def writeE (g h:Int):Int:=if geomOk g h then 0 else 25
theorem KA (g h:Nat):(headOf g h).length=8:=by simp[headOf,Aq,F5]
theorem Oy (l:List UInt8):(sumOf l).length=4:=Aq _ _
attribute [local go_sem] Ad Ag Ah Ac Aj Ai
theorem FI {x:Int}(h0:0<=x)(h1:x<9223372036854775808):IntKind.wrap .u64 x=x:=by
 simp[IntKind.wrap,IntKind.bits,IntKind.signed];omega
theorem Nh (g h:Int)(w:World):Calls Tryz.prog 49 #[gval g h] w fun e w'=>e=.returned (.tuple #[.string (bs (writeW g h)),.int .i64 (writeE g h)])/\Below w.heap.size w w':=by
 have hb:=Yz (W:=w) (.cells #[.int .i64 g,.int .i64 h] 27);have x0:=Blk.new w 27 #[.int .i64 g,.int .i64 h];have hf:=fun W=>Em g h W
 cases hk:geomOk g h with
 |false=>
  have Hw:=hid (show writeW g h=[]/\writeE g h=25 by simp[writeW,writeE,hk]);rw[hk]at hf;go_enter Tryz.func49,Tryz.ntmps49;go_wp2_with fail
  go_at_call 43;refine(hf _).mono ?_;rintro e w1 ⟨rfl,hb1⟩;go_wp2_with fail
  go_ret2
  rw[Hw.out.1,Hw.out.2];exact⟨rfl,bt hb hb1⟩
 |true=>
  have hg:=DR.1 hk;rw[hk]at hf;obtain⟨g,rfl⟩:=Int.eq_ofNat_of_zero_le (show 0<=g by omega);obtain⟨h,rfl⟩:=Int.eq_ofNat_of_zero_le (show 0<=h by omega);have Hw:=hid (show writeW g h=headOf g h++sumOf (headOf g h)++List.replicate 52 0/\writeE g h=0 by unfold writeW writeE;rw[if_pos hk,if_pos hk];exact⟨rfl,rfl⟩);have w1e:=FI (x:=g) (by omega) (by omega);have w2e:=FI (x:=h) (by omega) (by omega);have hh:headOf g h=67::79::70::49::(be 2 g++be 2 h):=rfl;have hl:=KA g h;have hsl:=Oy (headOf g h);have lg:=Aq 2 g;have lh:=Aq 2 h;go_enter Tryz.func49,Tryz.ntmps49;go_wp2_with fail
  go_at_call 43;refine(hf _).mono ?_;rintro e w1 ⟨rfl,hb1⟩;have b1:=bt hb hb1;have x1:=x0.below hb1 x0.lt;have K1:=ext2 x1;have p1:=fun e:Ext w1=>BI g 2 (by omega) (by omega) (by omega) e.world
  have p2:=fun e:Ext w1=>BI h 2 (by omega) (by omega) (by omega) e.world
  go_wp2_with fail
  refine Ay mixed (by kernel_rfl) ?_
  repeat (go_big_quiet_step ((first|(go_at_call 86;with_reducible exact Al (p1 _))|(go_at_call 86;with_reducible exact Al (p2 _)))))
  refine wpQuiet_nil ?_;rintro w2 ⟨pq_,hpq_⟩;have hb2:=pq_.below;rw[<-hpq_]at hb2;clear hpq_ pq_;rw[<-hh];clear hh;generalize headOf g h=H at*;have hO:=fun W=>Dj H (by omega) W
  have hB:=fun W=>Di (crcOf H) (AW _ _) W
  have hsd:sumOf H=be 4 (crcOf H):=rfl;rw[<-hsd]at hB;clear hsd;generalize sumOf H=R at*;have hP:=fun W=>Et (H++R) (by rw[List.length_append,hl,hsl];decide) 64 (by rw[List.length_append];omega) (by omega) W
  rw[show((64:Int).toNat-(H++R).length)=52 by rw[List.length_append,hl,hsl];rfl]at hP;generalize List.replicate 52 (0:UInt8)=Zr at*;rw[List.append_assoc]at hP;go_wp2_with fail
  go_at_call 89;refine(hO _).mono ?_;rintro e w3 ⟨rfl,rfl⟩;go_wp2_with fail
  go_at_call 88;refine(hB _).mono ?_;rintro e w4 ⟨rfl,hb4⟩;go_wp2_with fail
  go_at_call 87;refine(hP _).mono ?_;rintro e w5 ⟨rfl,hb5⟩;go_wp2_with fail
  go_ret2
  rw[Hw.out.1,Hw.out.2,List.append_assoc];exact⟨rfl,bt (bt (bt b1 hb2) hb4) hb5⟩
theorem Ng (g h:Int)(w:World):Calls Tryz.prog 46 #[gval g h] w fun e w'=>e=.returned (.int .i64 (if geomOk g h then 96+2*h else 0))/\Below w.heap.size w w':=by
 have hb:=Yz (W:=w) (.cells #[.int .i64 g,.int .i64 h] 27);have x0:=Blk.new w 27 #[.int .i64 g,.int .i64 h];have hf:=fun W=>Em g h W
 cases hk:geomOk g h with
 |true=>
  rw[hk]at hf;have hb':=DR.1 hk;go_enter Tryz.func46,Tryz.ntmps46;go_wp2_with fail
  go_at_call 43;refine(hf _).mono ?_;rintro e w1 ⟨rfl,hb1⟩;have y0:=(x0.below hb1 x0.lt).cell 1;go_wp2_with fail
  go_ret
  exact⟨rfl,bt hb hb1⟩
 |false=>
  rw[hk]at hf;go_enter Tryz.func46,Tryz.ntmps46;go_wp2_with fail
  go_at_call 43;refine(hf _).mono ?_;rintro e w1 ⟨rfl,hb1⟩;go_wp2_with fail
  go_ret
  exact⟨rfl,bt hb hb1⟩
end
section
open Go.RowKit Go.Shelf
def smD0:Dk:=Dk.blank 112
def smQ0:Pn:=(Pn.set Pn.none 0 (writeW 20 8)).1
def smQ:Pn:=(Pn.rtSet smQ0 0 1).1
def smP:Pn:=(Pn.cntAdd smD0 smQ 0 1).1
def smD1:Dk:=(Pn.lay smD0 smP).1
def smD:Dk:=smD1.flush.1
def smI:Im:=⟨smD,20,8,⟨1,0⟩,[],false⟩
theorem DP:smD0.fit=true/\writeE 20 8=0/\(Pn.set Pn.none 0 (writeW 20 8)).2=0/\(Pn.rtSet smQ0 0 1).2=0/\(Pn.cntAdd smD0 smQ 0 1).2=0/\(Pn.lay smD0 smP).2=0/\smD1.fit=true/\smD1.flush.2=0/\smD.fit=true:=by decide+kernel
end
section
abbrev Xt:=Int×Int
def sumX (l:List Xt):Int:=l.foldr (fun x s=>max x.1 0+s) 0
def lenX (l:List Xt):Int:=l.foldr (fun x s=>x.1+s) 0
set_option linter.unusedVariables false
abbrev Cut:=Int×Int×Int
inductive Tiles:Int->Int->List Cut->Prop
 |nil {a n:Int} (h:n<=0):Tiles a n []
 |cons {a n s:Int} {l:List Cut} (h:0<n) (hs:s=min n (128-a%128)) (r:Tiles (a+s) (n-s) l):Tiles a n ((a/128,a%128,s)::l)
theorem Tiles.length {a n:Int}{l:List Cut}(h:Tiles a n l)(ha:0<=a):128*(l.length:Int)<=max n 0+254:=by
 have H:∀{a n:Int}{l:List Cut},Tiles a n l->0<=a->128*(l.length:Int)<=max n 0+127+a%128:=fun {a n l} h=>by
  induction h with
  |nil h=>intro _;simp only[List.length_nil];omega
  |@cons a n s l h hs r ih=>
   intro ha;have:=ih (by omega);rw[List.length_cons];by_cases h0:n-s<=0
   · cases r with
     |nil h1=>simp only[List.length_nil];omega
     |cons h1 _ _=>omega
   · omega
 have:=H h ha;omega
def exts (f:Int->Int)(l:List Cut):List Xt:=l.map fun p=>(p.2.2,f p.1)
theorem Tiles.sum {a n:Int}{l:List Cut}(h:Tiles a n l)(ha:0<=a)(f:Int->Int):sumX (exts f l)=max n 0/\lenX (exts f l)=max n 0:=by
 induction h with
 |nil h=>exact⟨by show(0:Int)=_;omega,by show(0:Int)=_;omega⟩
 |@cons a n s l h hs r ih=>
  have:=ih (by omega);exact⟨by show max s 0+sumX (exts f l)=max n 0;rw[this.1];omega,by show s+lenX (exts f l)=max n 0;rw[this.2];omega⟩
namespace Im
end Im
end
section
open Go.RowKit Go.Shelf
def okB (L:Pn):Bool:=decide (L.targets.length=L.data.length)&&(decide (L.targets.length<=24)&&((List.range L.targets.length).all (fun i=>sectorOk (L.targets.getD i 0)&&decide (L.find (L.targets.getD i 0)=i))&&(L.data.all (fun s=>decide (s.length=64))&&decide (L.targets≠[]))))
theorem FA (l:List Int){i:Nat}(h:i<l.length):l.getD i 0=l[i]:=by simp[List.getD,h]
theorem F9 (t:Tx):okB t.plan=true↔t.Ok:=by
 obtain⟨sq,L⟩:=t;simp only[okB,Bool.and_eq_true,decide_eq_true_eq,List.all_eq_true,Tx.Ok,Pn.Fit,List.mem_range];constructor
 · rintro⟨h1,h2,h3,h4,h5⟩;exact⟨⟨h1,h2,fun i hi=>by have:=h3 i hi;rwa [FA _ hi]at this,fun i hi=>h4 _ (List.getElem_mem hi)⟩,h5⟩
 · rintro⟨⟨h1,h2,h3,h4⟩,h5⟩;exact⟨h1,h2,fun i hi=>by rw[FA _ hi];exact h3 i hi,fun s hs=>by obtain⟨i,hi,rfl⟩:=List.getElem_of_mem hs;exact h4 i hi,h5⟩
def rowsC (j:Jr)(L:Pn):List (List UInt8):=if okB L=true then(⟨j.seq,L⟩:Tx).rows else []
theorem NJ (j:Jr)(L:Pn):jrRows j L=rowsC j L:=by
 unfold jrRows rowsC Tx.write;by_cases h:(⟨j.seq,L⟩:Tx).Ok
 · rw[if_pos h,if_pos ((F9 _).2 h)]
 · rw[if_neg h,if_neg (fun e=>h ((F9 ⟨j.seq,L⟩).1 e))]
def atC (j:Jr)(L:Pn):Int:=jrPlace j.pos (rowsC j L).length
def commitC (D:Dk)(j:Jr)(L:Pn):Dk×Jr×Int:=
 if L.targets=[]then(D,j,0)else if 4611686018427387904<=j.seq then(D,j,10)
 else if(comSteps D (6+atC j L) (rowsC j L) L).2≠0 then((comSteps D (6+atC j L) (rowsC j L) L).1,j,(comSteps D (6+atC j L) (rowsC j L) L).2)
 else((comSteps D (6+atC j L) (rowsC j L) L).1,⟨j.seq+1,atC j L+(rowsC j L).length⟩,0)
theorem IZ (D:Dk)(j:Jr)(L:Pn):jrCommit D j L=commitC D j L:=by
 unfold jrCommit commitC atC jrAt;rw[NJ]
namespace Im
def doneC (x:Im)(L:Pn):Im×Int:=
 if(commitC x.d x.j L).2.2≠0 then({x with d:=(commitC x.d x.j L).1,br:=true},(commitC x.d x.j L).2.2)else({x with d:=(commitC x.d x.j L).1,j:=(commitC x.d x.j L).2.1},0)
theorem CQ (x:Im)(L:Pn):done x L=doneC x L:=by unfold done doneC;rw[IZ]
def pointedC (x:Im)(L:Pn)(u K A:Int):Im×Int:=if(Pn.ptPoint x.d L x.g x.h u K A).2≠0 then(x,(Pn.ptPoint x.d L x.g x.h u K A).2)else doneC x (Pn.ptPoint x.d L x.g x.h u K A).1
theorem Mg (x:Im)(L:Pn)(u K A:Int):writeNew.pointed x L u K A=pointedC x L u K A:=by unfold writeNew.pointed pointedC;rw[CQ]
def newC (x:Im)(l1 u off:Int)(s:List UInt8):Im×Int:=
 if(Pn.alTake x.d Pn.none x.h).2.2≠0 then(x,(Pn.alTake x.d Pn.none x.h).2.2)else if(rd x.d l1 u).2≠0 then(x,(rd x.d l1 u).2)
 else if(fill x.d (Pn.alTake x.d Pn.none x.h).2.1 (over (rd x.d l1 u).1 off.toNat s)).2≠0 then({x with d:=(fill x.d (Pn.alTake x.d Pn.none x.h).2.1 (over (rd x.d l1 u).1 off.toNat s)).1},(fill x.d (Pn.alTake x.d Pn.none x.h).2.1 (over (rd x.d l1 u).1 off.toNat s)).2)
 else pointedC {x with d:=(fill x.d (Pn.alTake x.d Pn.none x.h).2.1 (over (rd x.d l1 u).1 off.toNat s)).1} (Pn.alTake x.d Pn.none x.h).1 u 1 (Pn.alTake x.d Pn.none x.h).2.1
theorem LC (x:Im)(l1 u off:Int)(s:List UInt8):writeNew x l1 u off s=newC x l1 u off s:=by unfold writeNew newC;rw[Mg]
def inC (x:Im)(u off:Int)(s:List UInt8):Im×Int:=
 if(Pn.rtGet x.d Pn.none).2≠0 then(x,(Pn.rtGet x.d Pn.none).2)else if(Pn.tabFind x.d Pn.none (Pn.rtGet x.d Pn.none).1.1 u).2≠0 then(x,(Pn.tabFind x.d Pn.none (Pn.rtGet x.d Pn.none).1.1 u).2)
 else if(Pn.tabFind x.d Pn.none (Pn.rtGet x.d Pn.none).1.1 u).1.1≠1 then newC x (Pn.rtGet x.d Pn.none).1.1 u off s
 else if(Pn.cntGet x.d Pn.none (Pn.tabFind x.d Pn.none (Pn.rtGet x.d Pn.none).1.1 u).1.2).2≠0 then(x,(Pn.cntGet x.d Pn.none (Pn.tabFind x.d Pn.none (Pn.rtGet x.d Pn.none).1.1 u).1.2).2)
 else if(Pn.cntGet x.d Pn.none (Pn.tabFind x.d Pn.none (Pn.rtGet x.d Pn.none).1.1 u).1.2).1<=1 then
  ({x with d:=(place x.d (Pn.tabFind x.d Pn.none (Pn.rtGet x.d Pn.none).1.1 u).1.2 off s).1},(place x.d (Pn.tabFind x.d Pn.none (Pn.rtGet x.d Pn.none).1.1 u).1.2 off s).2)
 else newC x (Pn.rtGet x.d Pn.none).1.1 u off s
theorem KL (x:Im)(u off:Int)(s:List UInt8):writeIn x u off s=inC x u off s:=by unfold writeIn inC;rw[LC]
def writeC (x:Im)(u off:Int)(s:List UInt8):Im×Int:=
 if x.br=true then(x,24)else if(u<0\/x.g<=u)\/off<0\/128<s.length\/128-(s.length:Int)<off then(x,10)else if s=[]then(x,0)else inC (x.mark u) u off s
theorem writeC_eq (x:Im)(u off:Int)(s:List UInt8):write x u off s=writeC x u off s:=by unfold write writeC;rw[KL]
end Im
theorem Om:smI.Ok:=⟨DP.2.2.2.2.2.2.2.2,by decide,by decide,by decide,by decide,by decide,fun m hm=>(by cases hm)⟩
end
end Go.Proofs.YtmiilfnchfdfcaaGreatDoor
