/- By: Table1, Table3, Table4, Table5, Img2, Img3. -/
import Derived.Test.YtmiilfnchfdfcaaGreatDoorByRefcs
import Derived.Deep.RegionWith
set_option maxRecDepth 100000
set_option maxHeartbeats 40000000
set_option linter.unusedVariables false
namespace Go.Proofs.YtmiilfnchfdfcaaGreatDoor
section
open Go.RowKit Go.Shelf
attribute [local go_sem] Ad Ag Ah Ac Aj Ai
theorem IsMs.oa {B:Nat}{u W:World}{g:Nat}{v0 v1:Value}{D:List Dm}{p:Pl}(h:IsMs W D p)(hb:Below B u ((W.setCell ⟨g,0,none⟩ v0).setCell ⟨g,1,none⟩ v1))(ho:MsOff g D p:=by first|assumption|omega):IsMs ((W.setCell ⟨g,0,none⟩ v0).setCell ⟨g,1,none⟩ v1) D p:=(h.off (a:=⟨g,0,none⟩) ho v0).off (a:=⟨g,1,none⟩) ho v1
theorem IsMs.ob {B:Nat}{u W:World}{g:Nat}{v0 v1 v2 v3 v4:Value}{D:List Dm}{p:Pl}(h:IsMs W D p)(hb:Below B u (((((W.setCell ⟨g,0,none⟩ v0).setCell ⟨g,1,none⟩ v1).setCell ⟨g,2,none⟩ v2).setCell ⟨g,3,none⟩ v3).setCell ⟨g,4,none⟩ v4))(ho:MsOff g D p:=by first|assumption|omega):IsMs (((((W.setCell ⟨g,0,none⟩ v0).setCell ⟨g,1,none⟩ v1).setCell ⟨g,2,none⟩ v2).setCell ⟨g,3,none⟩ v3).setCell ⟨g,4,none⟩ v4) D p:=((((h.off (a:=⟨g,0,none⟩) ho v0).off (a:=⟨g,1,none⟩) ho v1).off (a:=⟨g,2,none⟩) ho v2).off (a:=⟨g,3,none⟩) ho v3).off (a:=⟨g,4,none⟩) ho v4
theorem IsIm.oa {B:Nat}{u W:World}{g:Nat}{v0 v1:Value}{D:Im}{p q r:Pl}(h:IsIm W D p q r)(hb:Below B u ((W.setCell ⟨g,0,none⟩ v0).setCell ⟨g,1,none⟩ v1))(ho:ImOff g D p q r:=by first|assumption|omega):IsIm ((W.setCell ⟨g,0,none⟩ v0).setCell ⟨g,1,none⟩ v1) D p q r:=(h.off (a:=⟨g,0,none⟩) ho v0).off (a:=⟨g,1,none⟩) ho v1
theorem IsIm.ob {B:Nat}{u W:World}{g:Nat}{v0 v1 v2 v3 v4:Value}{D:Im}{p q r:Pl}(h:IsIm W D p q r)(hb:Below B u (((((W.setCell ⟨g,0,none⟩ v0).setCell ⟨g,1,none⟩ v1).setCell ⟨g,2,none⟩ v2).setCell ⟨g,3,none⟩ v3).setCell ⟨g,4,none⟩ v4))(ho:ImOff g D p q r:=by first|assumption|omega):IsIm (((((W.setCell ⟨g,0,none⟩ v0).setCell ⟨g,1,none⟩ v1).setCell ⟨g,2,none⟩ v2).setCell ⟨g,3,none⟩ v3).setCell ⟨g,4,none⟩ v4) D p q r:=((((h.off (a:=⟨g,0,none⟩) ho v0).off (a:=⟨g,1,none⟩) ho v1).off (a:=⟨g,2,none⟩) ho v2).off (a:=⟨g,3,none⟩) ho v3).off (a:=⟨g,4,none⟩) ho v4
theorem IsIm.oc {B:Nat}{u W:World}{g:Nat}{v0 v1 v2 v3 v4 v5 v6 v7 v8 v9 v10:Value}{D:Im}{p q r:Pl}(h:IsIm W D p q r)(hb:Below B u (((((((((((W.setCell ⟨g,0,none⟩ v0).setCell ⟨g,1,none⟩ v1).setCell ⟨g,2,none⟩ v2).setCell ⟨g,3,none⟩ v3).setCell ⟨g,4,none⟩ v4).setCell ⟨g,5,none⟩ v5).setCell ⟨g,6,none⟩ v6).setCell ⟨g,7,none⟩ v7).setCell ⟨g,8,none⟩ v8).setCell ⟨g,9,none⟩ v9).setCell ⟨g,10,none⟩ v10))(ho:ImOff g D p q r:=by first|assumption|omega):IsIm (((((((((((W.setCell ⟨g,0,none⟩ v0).setCell ⟨g,1,none⟩ v1).setCell ⟨g,2,none⟩ v2).setCell ⟨g,3,none⟩ v3).setCell ⟨g,4,none⟩ v4).setCell ⟨g,5,none⟩ v5).setCell ⟨g,6,none⟩ v6).setCell ⟨g,7,none⟩ v7).setCell ⟨g,8,none⟩ v8).setCell ⟨g,9,none⟩ v9).setCell ⟨g,10,none⟩ v10) D p q r:=((((((((((h.off (a:=⟨g,0,none⟩) ho v0).off (a:=⟨g,1,none⟩) ho v1).off (a:=⟨g,2,none⟩) ho v2).off (a:=⟨g,3,none⟩) ho v3).off (a:=⟨g,4,none⟩) ho v4).off (a:=⟨g,5,none⟩) ho v5).off (a:=⟨g,6,none⟩) ho v6).off (a:=⟨g,7,none⟩) ho v7).off (a:=⟨g,8,none⟩) ho v8).off (a:=⟨g,9,none⟩) ho v9).off (a:=⟨g,10,none⟩) ho v10
abbrev AB (K A:Int):Value:=.agg #[.int .i64 K,.int .i64 A]
theorem Ch (k:Int)(h0:0<=k)(h1:k<256)(w:World):Calls Tryz.prog 157 #[.int .i64 k] w fun e w'=>e=.returned (.bool true)/\Below w.heap.size w w':=by
 go_enter Tryz.func157,Tryz.ntmps157;go_wp2_with fail
 go_ret
 exact⟨rfl,Below.refl _ _⟩
theorem CB (k:Int)(h:k<0\/256<=k)(w:World):Calls Tryz.prog 157 #[.int .i64 k] w fun e w'=>e=.returned (.bool false)/\Below w.heap.size w w':=by
 by_cases h0:k<0
 · go_enter Tryz.func157,Tryz.ntmps157;go_wp2_with fail
   go_ret
   exact⟨rfl,Below.refl _ _⟩
 · have h1:256<=k:=by omega
   clear h;go_enter Tryz.func157,Tryz.ntmps157;go_wp2_with fail
   go_ret
   exact⟨by simp;omega,Below.refl _ _⟩
theorem OG (k:Int)(w:World):Calls Tryz.prog 157 #[.int .i64 k] w fun e w'=>e=.returned (.bool (!decide (k<0\/256<=k)))/\Below w.heap.size w w':=by
 by_cases h:k<0\/256<=k
 · rw[decide_eq_true h];exact CB k h w
 · rw[decide_eq_false h];exact Ch k (by omega) (by omega) w
theorem Ey (K A:Int)(w:World):Calls Tryz.prog 127 #[AB K A] w fun e w'=>e=.returned (.bool (Pn.entOk K A))/\Below w.heap.size w w':=by
 have hB:=Below.refl w.heap.size w;have x:=Blk.new w 102 #[.int .i64 K,.int .i64 A];have xk:=blk2 x;have hB_1:=Ya hB x;by_cases h1:K=1
 · subst h1;have Hw:=hid (show Pn.entOk 1 A=!decide (A<0\/256<=A) by rw[Pn.entOk,if_pos rfl,Bool.eq_iff_iff];simp);have ho:=OG A;rw[<-Hw.out]at ho;clear Hw;go_enter Tryz.func127,Tryz.ntmps127;go_wp2_with fail
   go_at_call 157;refine((ho _)).mono ?_;rintro e w1 ⟨rfl,hb1⟩;replace hB:=bt hB_1 hb1;replace x:=x.below hb1 x.lt;replace xk:=blk2 x;clear hB_1;go_wp2_with fail
   go_ret
   exact⟨rfl,hB⟩
 · have n1:(K==1)=false:=by simpa using h1
   by_cases h2:K=0
   · subst h2;have Hw:=hid (show Pn.entOk 0 A=decide (A=0) by simp[Pn.entOk]);go_enter Tryz.func127,Tryz.ntmps127;go_wp2_with fail
     go_ret
     exact⟨by rw[Hw.out];rfl,hB_1⟩
   · have n2:(K==0)=false:=by simpa using h2
     by_cases h3:K=2
     · subst h3;have Hw:=hid (show Pn.entOk 2 A=decide (A=0) by simp[Pn.entOk]);go_enter Tryz.func127,Tryz.ntmps127;go_wp2_with fail
       go_ret
       exact⟨by rw[Hw.out];rfl,hB_1⟩
     · have n3:(K==2)=false:=by simpa using h3
       have Hw:=hid (show Pn.entOk K A=false by simp[Pn.entOk,h1,h2,h3]);clear h1 h2 h3;go_enter Tryz.func127,Tryz.ntmps127;go_wp2_with fail
       go_ret
       exact⟨by rw[Hw.out];rfl,hB_1⟩
theorem CC (t i:Int)(w:World):Calls Tryz.prog 125 #[.int .i64 t,.int .i64 i] w fun e w'=>e=.returned (.bool (decide (Pn.refused t i)))/\Below w.heap.size w w':=by
 by_cases h1:t<0\/256<=t
 · have ho:=fun W=>CB t h1 W
   rw[decide_eq_true (show Pn.refused t i from .inl h1)];clear h1;go_enter Tryz.func125,Tryz.ntmps125;go_wp2_with (go_at_call 157;refine(ho _).mono ?_;rintro e w1 ⟨rfl,hb1⟩)
   go_ret
   exact⟨rfl,hb1⟩
 · have ho:=fun W=>Ch t (by omega) (by omega) W
   by_cases h3:i<0
   · rw[decide_eq_true (show Pn.refused t i from .inr (.inl h3))];clear h1;go_enter Tryz.func125,Tryz.ntmps125;go_wp2_with (go_at_call 157;refine(ho _).mono ?_;rintro e w1 ⟨rfl,hb1⟩)
     go_ret
     exact⟨rfl,hb1⟩
   · by_cases h4:16<=i
     · rw[decide_eq_true (show Pn.refused t i from .inr (.inr h4))];clear h1;go_enter Tryz.func125,Tryz.ntmps125;go_wp2_with (go_at_call 157;refine(ho _).mono ?_;rintro e w1 ⟨rfl,hb1⟩)
       go_ret
       exact⟨rfl,hb1⟩
     · rw[decide_eq_false (show¬Pn.refused t i from fun h=>by unfold Pn.refused at h;omega)];have h5:i<16:=by omega
       have h6:0<=i:=by omega
       clear h1 h3 h4;go_enter Tryz.func125,Tryz.ntmps125;go_wp2_with (go_at_call 157;refine(ho _).mono ?_;rintro e w1 ⟨rfl,hb1⟩)
       go_ret
       exact⟨by simp;omega,hb1⟩
theorem Hd (t i:Int)(h:¬Pn.refused t i)(w:World):Calls Tryz.prog 126 #[.int .i64 t,.int .i64 i] w fun e w'=>e=.returned (.tuple #[.int .i64 (Pn.entAt t i),.int .i64 (Pn.entOff i)])/\Below w.heap.size w w':=by
 unfold Pn.refused at h;have hs:=fun W=>BH t (by omega) (by omega) W
 have h0:0<=i:=by omega
 have h1:i<16:=by omega
 have h2:0<=t:=by omega
 have h3:t<256:=by omega
 have e1:=hid (show Pn.entAt t i=96+2*t+i/8 by unfold Pn.entAt;omega);have e2:=hid (show Pn.entOff i=i%8*8 by unfold Pn.entOff;omega);clear h;go_enter Tryz.func126,Tryz.ntmps126;go_wp2_with (go_at_call 63;refine(hs _).mono ?_;rintro e w2 ⟨rfl,hb2⟩)
 go_ret2
 rw[e1.out,e2.out];exact⟨rfl,hb2⟩
theorem u8w {x:Int}(h:0<=x/\x<=255):IntKind.u8.wrap x=x:=by simp[IntKind.wrap,IntKind.bits,IntKind.signed];omega
theorem Bl {w W W':World}{a0 a1 a2 a3 a4 a5 a6 a7 a8:Addr}{v0 v1 v2 v3 v4 v5 v6 v7 v8:Value}
 (h:(W.cell? a0=some v0/\W.cell? a1=some v1/\W.cell? a2=some v2/\W.cell? a3=some v3/\W.cell? a4=some v4)/\(W.cell? a5=some v5/\W.cell? a6=some v6)/\(W.cell? a7=some v7/\W.cell? a8=some v8)/\Below w.heap.size w W) (hb:Below W.heap.size W W'):
 (W'.cell? a0=some v0/\W'.cell? a1=some v1/\W'.cell? a2=some v2/\W'.cell? a3=some v3/\W'.cell? a4=some v4)/\(W'.cell? a5=some v5/\W'.cell? a6=some v6)/\(W'.cell? a7=some v7/\W'.cell? a8=some v8)/\Below w.heap.size w W':=by
 obtain⟨⟨h0,h1,h2,h3,h4⟩,⟨h5,h6⟩,⟨h7,h8⟩,hB⟩:=h;exact⟨⟨Av hb h0,Av hb h1,Av hb h2,Av hb h3,Av hb h4⟩,⟨Av hb h5,Av hb h6⟩,⟨Av hb h7,Av hb h8⟩,bt hB hb⟩
theorem KF {w W:World}{b0 b1 b2 o0 o1 o2 o3 o4 o5 o6 o7 o8:Nat}{v0 v1 v2 v3 v4 v5 v6 v7 v8:Value}
 (h:(W.cell? ⟨b0,o0,none⟩=some v0/\W.cell? ⟨b0,o1,none⟩=some v1/\W.cell? ⟨b0,o2,none⟩=some v2/\W.cell? ⟨b0,o3,none⟩=some v3/\W.cell? ⟨b0,o4,none⟩=some v4)/\(W.cell? ⟨b1,o5,none⟩=some v5/\W.cell? ⟨b1,o6,none⟩=some v6)/\(W.cell? ⟨b2,o7,none⟩=some v7/\W.cell? ⟨b2,o8,none⟩=some v8)/\Below w.heap.size w W)
 {g:Nat} (g0:b0≠g) (g1:b1≠g) (g2:b2≠g) (hg:w.heap.size<=g) (u v:Value):
 (((W.setCell ⟨g,0,none⟩ u).setCell ⟨g,1,none⟩ v).cell? ⟨b0,o0,none⟩=some v0/\((W.setCell ⟨g,0,none⟩ u).setCell ⟨g,1,none⟩ v).cell? ⟨b0,o1,none⟩=some v1/\((W.setCell ⟨g,0,none⟩ u).setCell ⟨g,1,none⟩ v).cell? ⟨b0,o2,none⟩=some v2/\((W.setCell ⟨g,0,none⟩ u).setCell ⟨g,1,none⟩ v).cell? ⟨b0,o3,none⟩=some v3/\((W.setCell ⟨g,0,none⟩ u).setCell ⟨g,1,none⟩ v).cell? ⟨b0,o4,none⟩=some v4)/\
 (((W.setCell ⟨g,0,none⟩ u).setCell ⟨g,1,none⟩ v).cell? ⟨b1,o5,none⟩=some v5/\((W.setCell ⟨g,0,none⟩ u).setCell ⟨g,1,none⟩ v).cell? ⟨b1,o6,none⟩=some v6)/\
 (((W.setCell ⟨g,0,none⟩ u).setCell ⟨g,1,none⟩ v).cell? ⟨b2,o7,none⟩=some v7/\((W.setCell ⟨g,0,none⟩ u).setCell ⟨g,1,none⟩ v).cell? ⟨b2,o8,none⟩=some v8)/\Below w.heap.size w ((W.setCell ⟨g,0,none⟩ u).setCell ⟨g,1,none⟩ v):=by
 obtain⟨⟨h0,h1,h2,h3,h4⟩,⟨h5,h6⟩,⟨h7,h8⟩,hB⟩:=h;have k:∀(b o:Nat)(x:Value),b≠g->W.cell? ⟨b,o,none⟩=some x->((W.setCell ⟨g,0,none⟩ u).setCell ⟨g,1,none⟩ v).cell? ⟨b,o,none⟩=some x:=fun b o x hb h=>by
  rw[World.cell?_setCell_other _ _ _ _ (by intro e;injection e with e;exact hb e.symm),World.cell?_setCell_other _ _ _ _ (by intro e;injection e with e;exact hb e.symm)];exact h
 exact⟨⟨k _ _ _ g0 h0,k _ _ _ g0 h1,k _ _ _ g0 h2,k _ _ _ g0 h3,k _ _ _ g0 h4⟩,⟨k _ _ _ g1 h5,k _ _ _ g1 h6⟩,⟨k _ _ _ g2 h7,k _ _ _ g2 h8⟩,Af hB hg u v⟩
theorem G9 (b:UInt8)(a:Nat)(ha:a<4294967296)(w:World):Calls Tryz.prog 128 #[AB b.toNat a] w fun e w'=>e=.returned (.string (bs ([b,0,0,0]++be 4 a)))/\Below w.heap.size w w':=by
 have hp:=fun W=>Dn (a:Int) 4 (by omega) (by omega) W
 rw[show putS (a:Int).toNat 4=be 4 a from rfl]at hp;have hu:=u8w (x:=(b.toNat:Int)) (by have:=b.toNat_lt;omega);have hcv:∀(W:World)(g:Nat),W.cell? ⟨g,0,none⟩=some (.int .u8 b.toNat)->W.cell? ⟨g,1,none⟩=some (.int .u8 0)->W.cell? ⟨g,2,none⟩=some (.int .u8 0)->W.cell? ⟨g,3,none⟩=some (.int .u8 0)->
  (convert 139 9 (.slice (some ⟨g,0,none⟩) 4 4)).run Tryz.prog W=.ok (.string (bs [b,0,0,0])) W:=by
  intro W g c0 c1 c2 c3;exact run_convert_bytes_back (P:=Tryz.prog) W 139 9 5 ⟨g,0,none⟩ 4 [b,0,0,0] Tryz.underlying139 Tryz.underlying5 Tryz.underlying9 (fun i hi=>by
   have e:(Addr.add ⟨g,0,none⟩ i)=⟨g,i,none⟩:=by simp only[Addr.add];split<;>simp_all
   rw[e];have hi:i<4:=by simpa using hi
   rcases(show i=0\/i=1\/i=2\/i=3 by omega)with rfl|rfl|rfl|rfl
   · exact c0
   · exact c1
   · exact c2
   · exact c3)
 generalize hK:[b,0,0,0]=K at hcv ⊢;have lK:K.length<=4:=by rw[<-hK];simp
 have lA:(be 4 a).length<=4:=by rw[Aq];omega
 generalize be 4 a=A at hp lA ⊢;generalize hk:(b.toNat:Int)=k at*;clear hK hk;clear b;have hB:=Below.refl w.heap.size w;have x:=Blk.new w 102 #[.int .i64 k,.int .i64 a];have xk:=blk2 x;have hB_1:=Ya hB x;go_enter Tryz.func128,Tryz.ntmps128;go_wp2_with fail
 generalize (w.alloc (.cells #[.int .i64 k,.int .i64 a] 102))=V at hB_1 x xk ⊢;clear hB;have hB:=hB_1;clear hB_1;have s0:(V.cell? ⟨w.heap.size,0,none⟩=some (.int .i64 k)/\V.cell? ⟨w.heap.size,1,none⟩=some (.int .i64 a))/\Below w.heap.size w V:=⟨xk,hB⟩;clear xk;have bl:=fun W=>Blk.new W 5 #[.int .u8 k,.int .u8 0,.int .u8 0,.int .u8 0]
 have Hcv:=hid (fun(W:World)(g:Nat)(b:Blk W g 5 #[.int .u8 k,.int .u8 0,.int .u8 0,.int .u8 0])=>hcv W g (b.cell 0) (b.cell 1) (b.cell 2) (b.cell 3));have Hbl:=hid bl;have hw64:=u64w (x:=(a:Int)) (by omega);have hc1:=Hcv.out _ _ (bl V).drew;clear hcv bl;obtain⟨xk0,xk1⟩:=s0.1;have Hx:=hid s0.1;have vl:w.heap.size<V.heap.size:=x.lt;clear s0
 go_region_with ((go_at_call 86;refine(hp _).mono ?_;rintro e w1 ⟨rfl,hb1⟩;have l1:V.heap.size<=w1.heap.size:=(by have:=hb1.size;simp at this;omega);have ne3:¬w.heap.size=w1.heap.size:=(by omega);have ne4:¬w1.heap.size=w.heap.size:=(by omega);first|(have hc2:=Hcv.out w1 V.heap.size ((Hbl.out V).drew.below hb1 (Hbl.out V).drew.lt))|(have hc2:=Hcv.out _ _ (Hbl.out w1);have xk2:=Av hb1 Hx.out.1)))
 all_goals
  go_wp2_with fail
  go_ret
  refine⟨rfl,?_⟩
  first
  |exact bt ((hB.alloc hB.size _).drew) hb1
  |exact(bt hB.drew hb1).alloc (bt hB.drew hb1).size _
theorem Pn.entBytes_ref (k a:Nat)(hk:k<=2)(ha:a<256):Pn.entBytes k a=[UInt8.ofNat k,0,0,0]++be 4 a:=by
 have e1:Pn.entBytes k a=be (1+7) (k*72057594037927936+a):=rfl;have e2:(k*72057594037927936+a)/256^7=k:=by
  have:(256:Nat)^7=72057594037927936:=by decide
  omega
 have e3:be 7 (k*72057594037927936+a)=be 7 a:=by
  rw[Dz,show(256:Nat)^7=72057594037927936 by decide,Nat.mul_comm,Nat.mul_add_mod,Nat.mod_eq_of_lt (by omega)]
 have e4:be 7 a=be 3 0++be 4 a:=by
  have:=EQ 3 4 a;rw[show a/256^4=0 by have:(256:Nat)^4=4294967296:=(by decide);omega]at this;exact this
 rw[e1,EQ,e2,e3,e4];have:be 1 k=[UInt8.ofNat k]:=by simp[be]
 rw[this,show be 3 0=[0,0,0] by decide];rfl
theorem OS (D:Dk)(L:Pn)(p q p' q':Pl)(w:World)(hL:IsPn w L p' q')(t i K A:Int)(h:Pn.refused t i):
 Calls Tryz.prog 103 #[dval D p q,pval L p' q',.int .i64 t,.int .i64 i,AB K A] w fun e w'=>RetPn w.heap.size L p' q' (Pn.tabSet D L t i K A) e w'/\Below w.heap.size w w':=by
 have Hz:=hid (fun(W:World)(hb:Below w.heap.size w W)=>hL.below hb);have Hr:=hid (show Pn.tabSet D L t i K A=(L,10) by rw[Pn.tabSet,if_pos h]);have hp:=fun W=>CC t i W
 rw[decide_eq_true h]at hp;clear hL h;obtain⟨A1,a1⟩:=p;obtain⟨A2,a2⟩:=q;obtain⟨B1,b1⟩:=p';obtain⟨B2,b2⟩:=q';have hB:=Below.refl w.heap.size w;have x:=Blk.new w 25 #[.string (bs D.data),.slice A1 D.cache.length a1,.int .i64 D.fuse,.bool D.off,.slice A2 D.bad.length a2];have hB_1:=Ya hB x;have z:=Yd hB_1 63 #[.slice B1 L.targets.length b1,.slice B2 L.data.length b2];simp only[Ys]at z;have zk:=blk2 z;have hB_2:=Ya hB_1 z;have x_3:=Yc x hB_2;have y:=Yd hB_2 102 #[.int .i64 K,.int .i64 A];simp only[Ys]at y;have hB_4:=Ya hB_2 y;have x_5:=Yc x_3 hB_4;have z_6:=Yc z hB_4;have r:=Yd hB_4 63 #[.slice none 0 0,.slice none 0 0];simp only[Ys]at r;have rk:=blk2 r;have rkf:=r.fz;have hB_7:=Ya hB_4 r;have x_8:=Yc x_5 hB_7;have z_9:=Yc z_6 hB_7;have y_10:=Yc y hB_7;go_enter Tryz.func103,Tryz.ntmps103;go_wp2_with fail
 go_at_call 125;refine((hp _)).mono ?_;rintro e w1 ⟨rfl,hb1⟩;replace hB:=bt hB_7 hb1;replace x:=x_8.below hb1 x_8.lt;replace z:=z_9.below hb1 z_9.lt;replace zk:=blk2 z;replace y:=y_10.below hb1 y_10.lt;replace r:=r.below hb1 r.lt;replace rk:=blk2 r;replace rkf:=r.fz;clear hB_1 hB_2 x_3 hB_4 x_5 z_6 hB_7 x_8 z_9 y_10;go_wp2_with fail
 rw[Hr.out];have yy:=blk2 (Ae r (.slice B1 L.targets.length b1) (.slice B2 L.data.length b2));have b9:=Af hB (g:=w.heap.size+1+1+1) (by omega) (.slice B1 L.targets.length b1) (.slice B2 L.data.length b2);refine bodyPost_ret (v:=.tuple #[pval L ⟨B1,b1⟩ ⟨B2,b2⟩,.int .i64 10]) (by simp[results,Tryz.results103,go_sem,yy]) rfl ?_;exact⟨⟨_,_,rfl,Hz.out _ b9,fun _ _ h=>h⟩,b9⟩
theorem OQ (D:Dk)(L:Pn)(p q p' q':Pl)(w:World)(hL:IsPn w L p' q')(t i K A:Int)(h:¬Pn.refused t i)(hk:Pn.entOk K A=false):
 Calls Tryz.prog 103 #[dval D p q,pval L p' q',.int .i64 t,.int .i64 i,AB K A] w fun e w'=>RetPn w.heap.size L p' q' (Pn.tabSet D L t i K A) e w'/\Below w.heap.size w w':=by
 have Hz:=hid (fun(W:World)(hb:Below w.heap.size w W)=>hL.below hb);have Hr:=hid (show Pn.tabSet D L t i K A=(L,23) by rw[Pn.tabSet,if_neg h,if_pos hk]);have hp:=fun W=>CC t i W
 rw[decide_eq_false h]at hp;have he:=fun W=>Ey K A W
 rw[hk]at he;clear hL h hk;obtain⟨A1,a1⟩:=p;obtain⟨A2,a2⟩:=q;obtain⟨B1,b1⟩:=p';obtain⟨B2,b2⟩:=q';have hB:=Below.refl w.heap.size w;have x:=Blk.new w 25 #[.string (bs D.data),.slice A1 D.cache.length a1,.int .i64 D.fuse,.bool D.off,.slice A2 D.bad.length a2];have hB_1:=Ya hB x;have z:=Yd hB_1 63 #[.slice B1 L.targets.length b1,.slice B2 L.data.length b2];simp only[Ys]at z;have zk:=blk2 z;have hB_2:=Ya hB_1 z;have x_3:=Yc x hB_2;have y:=Yd hB_2 102 #[.int .i64 K,.int .i64 A];simp only[Ys]at y;have yk:=blk2 y;have hB_4:=Ya hB_2 y;have x_5:=Yc x_3 hB_4;have z_6:=Yc z hB_4;have r:=Yd hB_4 63 #[.slice none 0 0,.slice none 0 0];simp only[Ys]at r;have rk:=blk2 r;have rkf:=r.fz;have hB_7:=Ya hB_4 r;have x_8:=Yc x_5 hB_7;have z_9:=Yc z_6 hB_7;have y_10:=Yc y hB_7;go_enter Tryz.func103,Tryz.ntmps103;go_wp2_with fail
 go_at_call 125;refine((hp _)).mono ?_;rintro e w1 ⟨rfl,hb1⟩;replace hB:=bt hB_7 hb1;replace x:=x_8.below hb1 x_8.lt;replace z:=z_9.below hb1 z_9.lt;replace zk:=blk2 z;replace y:=y_10.below hb1 y_10.lt;replace yk:=blk2 y;replace r:=r.below hb1 r.lt;replace rk:=blk2 r;replace rkf:=r.fz;clear hB_1 hB_2 x_3 hB_4 x_5 z_6 hB_7 x_8 z_9 y_10;go_wp2_with fail
 go_at_call 127;refine((he _)).mono ?_;rintro e w2 ⟨rfl,hb2⟩;replace hB:=bt hB hb2;replace x:=x.below hb2 x.lt;replace z:=z.below hb2 z.lt;replace zk:=blk2 z;replace y:=y.below hb2 y.lt;replace yk:=blk2 y;replace r:=r.below hb2 r.lt;replace rk:=blk2 r;replace rkf:=r.fz;go_wp2_with fail
 rw[Hr.out];have yy:=blk2 (Ae r (.slice B1 L.targets.length b1) (.slice B2 L.data.length b2));have b9:=Af hB (g:=w.heap.size+1+1+1) (by omega) (.slice B1 L.targets.length b1) (.slice B2 L.data.length b2);refine bodyPost_ret (v:=.tuple #[pval L ⟨B1,b1⟩ ⟨B2,b2⟩,.int .i64 23]) (by simp[results,Tryz.results103,go_sem,yy]) rfl ?_;exact⟨⟨_,_,rfl,Hz.out _ b9,fun _ _ h=>h⟩,b9⟩
theorem OR (D:Dk)(L:Pn)(p q p' q':Pl)(w:World)(hD:IsDk w D p q)(hL:IsPn w L p' q')(hf:D.fit=true)(hfl:L.Fit)(t i K A:Int)(h:¬Pn.refused t i)(hk:Pn.entOk K A=true):
 Calls Tryz.prog 103 #[dval D p q,pval L p' q',.int .i64 t,.int .i64 i,AB K A] w fun e w'=>RetPn w.heap.size L p' q' (Pn.tabSet D L t i K A) e w'/\Below w.heap.size w w':=by
 have hs:=Pn.entOk_small hk;have Hr:=hid (show Pn.tabSet D L t i K A=Pn.patch D L (Pn.entAt t i) (Pn.entOff i) (Pn.entBytes K A) by rw[Pn.tabSet,if_neg h,if_neg (by rw[hk];simp)]);have hat: -9223372036854775808<=Pn.entAt t i/\Pn.entAt t i<=9223372036854775807:=by unfold Pn.refused at h;unfold Pn.entAt;omega
 have hpa:=fun(W:World)(hb:Below w.heap.size w W)=>GA D L p q p' q' W (hD.below hb) (hL.below hb) hf hfl (Pn.entAt t i) (Pn.entOff i) hat (Pn.entBytes K A) (by rw[Pn.entBytes_length];omega)
 have hp:=fun W=>CC t i W
 rw[decide_eq_false h]at hp;have hp2:=fun W=>Hd t i h W
 have he:=fun W=>Ey K A W
 rw[hk]at he;have hby:∀W,Calls Tryz.prog 128 #[AB K A] W fun e w'=>e=.returned (.string (bs (Pn.entBytes K A)))/\Below W.heap.size W w':=by
  intro W;obtain⟨k,rfl⟩:=Int.eq_ofNat_of_zero_le hs.1;obtain⟨a,rfl⟩:=Int.eq_ofNat_of_zero_le hs.2.2.1;have:=G9 (UInt8.ofNat k) a (by omega) W;rw[show((UInt8.ofNat k).toNat:Int)=k by simp;omega,<-Pn.entBytes_ref k a (by omega) (by omega)]at this;exact this
 have Hap:=hid (fun g (hg:w.heap.size<=g)=>hL.apart hg);generalize Pn.entBytes K A=T at*;generalize Pn.entAt t i=m at*;generalize Pn.entOff i=o at*;obtain⟨X,hX⟩:∃X,Pn.patch D L m o T=X:=⟨_,rfl⟩;rw[hX]at hpa Hr;clear hX hs h hk hD hL hf hfl hat;obtain⟨A1,a1⟩:=p;obtain⟨A2,a2⟩:=q;obtain⟨B1,b1⟩:=p';obtain⟨B2,b2⟩:=q';have hB:=Below.refl w.heap.size w;have x:=Blk.new w 25 #[.string (bs D.data),.slice A1 D.cache.length a1,.int .i64 D.fuse,.bool D.off,.slice A2 D.bad.length a2];have xk:=blk5 x;have hB_1:=Ya hB x;have z:=Yd hB_1 63 #[.slice B1 L.targets.length b1,.slice B2 L.data.length b2];simp only[Ys]at z;have zk:=blk2 z;have hB_2:=Ya hB_1 z;have x_3:=Yc x hB_2;have y:=Yd hB_2 102 #[.int .i64 K,.int .i64 A];simp only[Ys]at y;have yk:=blk2 y;have hB_4:=Ya hB_2 y;have x_5:=Yc x_3 hB_4;have z_6:=Yc z hB_4;have r:=Yd hB_4 63 #[.slice none 0 0,.slice none 0 0];simp only[Ys]at r;have hB_7:=Ya hB_4 r;have x_8:=Yc x_5 hB_7;have z_9:=Yc z_6 hB_7;have y_10:=Yc y hB_7;go_enter Tryz.func103,Tryz.ntmps103;go_wp2_with fail
 go_at_call 125;refine((hp _)).mono ?_;rintro e w1 ⟨rfl,hb1⟩;replace hB:=bt hB_7 hb1;replace x:=x_8.below hb1 x_8.lt;replace xk:=blk5 x;replace z:=z_9.below hb1 z_9.lt;replace zk:=blk2 z;replace y:=y_10.below hb1 y_10.lt;replace yk:=blk2 y;replace r:=r.below hb1 r.lt;clear hB_1 hB_2 x_3 hB_4 x_5 z_6 hB_7 x_8 z_9 y_10;go_wp2_with fail
 go_at_call 127;refine((he _)).mono ?_;rintro e w2 ⟨rfl,hb2⟩;replace hB:=bt hB hb2;replace x:=x.below hb2 x.lt;replace xk:=blk5 x;replace z:=z.below hb2 z.lt;replace zk:=blk2 z;replace y:=y.below hb2 y.lt;replace yk:=blk2 y;replace r:=r.below hb2 r.lt;go_wp2_with fail
 go_at_call 126;refine((hp2 _)).mono ?_;rintro e w3 ⟨rfl,hb3⟩;replace hB:=bt hB hb3;replace x:=x.below hb3 x.lt;replace xk:=blk5 x;replace z:=z.below hb3 z.lt;replace zk:=blk2 z;replace y:=y.below hb3 y.lt;replace yk:=blk2 y;replace r:=r.below hb3 r.lt;go_wp2_with fail
 have s0:(w3.drew.cell? ⟨w.heap.size,0,none⟩=some (.string (bs D.data))/\w3.drew.cell? ⟨w.heap.size,1,none⟩=some (.slice A1 D.cache.length a1)/\w3.drew.cell? ⟨w.heap.size,2,none⟩=some (.int .i64 D.fuse)/\w3.drew.cell? ⟨w.heap.size,3,none⟩=some (.bool D.off)/\w3.drew.cell? ⟨w.heap.size,4,none⟩=some (.slice A2 D.bad.length a2))/\
  (w3.drew.cell? ⟨w.heap.size+1,0,none⟩=some (.slice B1 L.targets.length b1)/\w3.drew.cell? ⟨w.heap.size+1,1,none⟩=some (.slice B2 L.data.length b2))/\(w3.drew.cell? ⟨w.heap.size+1+1,0,none⟩=some (.int .i64 K)/\w3.drew.cell? ⟨w.heap.size+1+1,1,none⟩=some (.int .i64 A))/\Below w.heap.size w w3.drew:=⟨xk,zk,yk,hB.drew⟩
 have rd:=r.drew;have vl:w.heap.size+1+1+1<w3.drew.heap.size:=r.lt;clear xk zk yk x z y hp he
 go_region_held3 (fun W=>(W.cell? ⟨w.heap.size,0,none⟩=some (.string (bs D.data))/\W.cell? ⟨w.heap.size,1,none⟩=some (.slice A1 D.cache.length a1)/\W.cell? ⟨w.heap.size,2,none⟩=some (.int .i64 D.fuse)/\W.cell? ⟨w.heap.size,3,none⟩=some (.bool D.off)/\W.cell? ⟨w.heap.size,4,none⟩=some (.slice A2 D.bad.length a2))/\
  (W.cell? ⟨w.heap.size+1,0,none⟩=some (.slice B1 L.targets.length b1)/\W.cell? ⟨w.heap.size+1,1,none⟩=some (.slice B2 L.data.length b2))/\(W.cell? ⟨w.heap.size+1+1,0,none⟩=some (.int .i64 K)/\W.cell? ⟨w.heap.size+1+1,1,none⟩=some (.int .i64 A))/\Below w.heap.size w W)
  (first|exact s0|exact Bl s0 hbl1|exact Bl (Bl s0 hbl1) hbl2|exact KF (Bl (Bl s0 hbl1) hbl2) (by omega) (by omega) (by omega) (by omega) _ _)
  (first|(go_at_call 128;refine(hby _).mono ?_;rintro e W1 ⟨rfl,hbl1⟩;have r1:=rd.below hbl1 rd.lt)|(go_at_call 95;refine(hpa _ (Bl s0 hbl1).2.2.2).mono ?_;rintro e W2 ⟨⟨p3,q3,rfl,i3,o3⟩,hbl2⟩;have r2:=r1.below hbl2 r1.lt;have rk2:=blk2 r2;have rf2:=r2.frozen))
 go_wp2_with fail
 rw[Hr.out];have ho:=o3 (w.heap.size+1+1+1) (Nat.lt_of_lt_of_le vl hbl1.size) (Hap.out _ (by omega));have yy:=blk2 (Ae r2 (.slice p3.a X.1.targets.length p3.c) (.slice q3.a X.1.data.length q3.c));have b9:=Af (Bl (Bl s0 hbl1) hbl2).2.2.2 (g:=w.heap.size+1+1+1) (by omega) (.slice p3.a X.1.targets.length p3.c) (.slice q3.a X.1.data.length q3.c);refine bodyPost_ret (v:=.tuple #[pval X.1 p3 q3,.int .i64 X.2]) (by simp[results,Tryz.results103,go_sem,yy]) rfl ?_;exact⟨⟨_,_,rfl,i3.off2 ho _ _,fun g hg h=>o3 g (Nat.lt_of_lt_of_le hg ((Bl s0 hbl1).2.2.2.size)) h⟩,b9⟩
theorem Hi (D:Dk)(L:Pn)(p q p' q':Pl)(w:World)(hD:IsDk w D p q)(hL:IsPn w L p' q')(hf:D.fit=true)(hfl:L.Fit)(t i K A:Int):
 Calls Tryz.prog 103 #[dval D p q,pval L p' q',.int .i64 t,.int .i64 i,AB K A] w fun e w'=>RetPn w.heap.size L p' q' (Pn.tabSet D L t i K A) e w'/\Below w.heap.size w w':=by
 by_cases h:Pn.refused t i
 · exact OS D L p q p' q' w hL t i K A h
 · cases hk:Pn.entOk K A with
   |false=>exact OQ D L p q p' q' w hL t i K A h hk
   |true=>exact OR D L p q p' q' w hD hL hf hfl t i K A h hk
theorem Pe (s:List UInt8)(hs:s.length=8):takeR (s.drop 4) 4=(un (s.drop 4),(s.drop 4).drop 4,0)/\un (s.drop 4)<4294967296:=by
 have hl:(s.drop 4).length=4:=by simp;omega
 refine⟨?_,?_⟩
 · rw[takeR,if_neg (by omega),if_neg (by rw[hl];omega),show(4:Int).toNat=4 from rfl,List.take_of_length_le (by omega)]
 · have:=Bm (s.drop 4);rw[hl]at this;exact this
theorem J6 (c:UInt8)(r:List UInt8)(h:r.length=7):
 Pn.entOf (c::r)=if Pn.entOk (c.toNat:Int) (un (r.drop 3):Nat)=true/\[c,0,0,0]++be 4 (un (r.drop 3))=c::r then(((c.toNat:Int),((un (r.drop 3):Nat):Int)),0)else((0,0),14):=by
 have e:=Pn.entOf_ref (s:=c::r) (by simp[h]);have e1:un ((c::r).take 1)=c.toNat:=by simp[un]
 have e2:be 1 c.toNat=[c]:=by simp[be]
 rw[e1,e2]at e;exact e
theorem OO (D:Dk)(L:Pn)(p q p' q':Pl)(w:World)(t i:Int)(h:Pn.refused t i):
 Calls Tryz.prog 97 #[dval D p q,pval L p' q',.int .i64 t,.int .i64 i] w fun e w'=>e=.returned (.tuple #[AB (Pn.tabGet D L t i).1.1 (Pn.tabGet D L t i).1.2,.int .i64 (Pn.tabGet D L t i).2])/\Below w.heap.size w w':=by
 have Hw:=hid (Pn.tabGet_refused (D:=D) (L:=L) h);have hp:=fun W=>CC t i W
 rw[decide_eq_true h]at hp;clear h;obtain⟨A1,a1⟩:=p;obtain⟨A2,a2⟩:=q;obtain⟨B1,b1⟩:=p';obtain⟨B2,b2⟩:=q';have hB:=Below.refl w.heap.size w;have x:=Blk.new w 25 #[.string (bs D.data),.slice A1 D.cache.length a1,.int .i64 D.fuse,.bool D.off,.slice A2 D.bad.length a2];have hB_1:=Ya hB x;have z:=Yd hB_1 63 #[.slice B1 L.targets.length b1,.slice B2 L.data.length b2];simp only[Ys]at z;have hB_2:=Ya hB_1 z;have x_3:=Yc x hB_2;have r:=Yd hB_2 102 #[.int .i64 0,.int .i64 0];simp only[Ys]at r;have rk:=blk2 r;have rkf:=r.fz;have hB_4:=Ya hB_2 r;have x_5:=Yc x_3 hB_4;have z_6:=Yc z hB_4;go_enter Tryz.func97,Tryz.ntmps97;go_wp2_with fail
 go_at_call 125;refine((hp _)).mono ?_;rintro e w1 ⟨rfl,hb1⟩;replace hB:=bt hB_4 hb1;replace x:=x_5.below hb1 x_5.lt;replace z:=z_6.below hb1 z_6.lt;replace r:=r.below hb1 r.lt;replace rk:=blk2 r;replace rkf:=r.fz;clear hB_1 hB_2 x_3 hB_4 x_5 z_6;go_wp2_with fail
 rw[Hw.out];have yy:=blk2 (Ae r (.int .i64 0) (.int .i64 0));have b9:=Af hB (g:=w.heap.size+1+1) (by omega) (.int .i64 0) (.int .i64 0);refine bodyPost_ret (v:=.tuple #[AB 0 0,.int .i64 10]) (by simp[results,Tryz.results97,go_sem,yy]) rfl ?_;exact⟨rfl,b9⟩
theorem OP (D:Dk)(L:Pn)(p q p' q':Pl)(w:World)(hD:IsDk w D p q)(hL:IsPn w L p' q')(hf:D.fit=true)(hfl:L.Fit)(t i:Int)(h:¬Pn.refused t i):
 Calls Tryz.prog 97 #[dval D p q,pval L p' q',.int .i64 t,.int .i64 i] w fun e w'=>e=.returned (.tuple #[AB (Pn.tabGet D L t i).1.1 (Pn.tabGet D L t i).1.2,.int .i64 (Pn.tabGet D L t i).2])/\Below w.heap.size w w':=by
 have hp:=fun W=>CC t i W
 rw[decide_eq_false h]at hp;have hp2:=fun W=>Hd t i h W
 have hlk:=fun(W:World)(hb:Below w.heap.size w W)=>Cy D L p q p' q' W (hD.below hb) (hL.below hb) (Pn.entAt t i) ((Dk.fit_parts hf).2.2.1) (by have:=hfl.2.1;omega) hfl.1
 have ho:0<=Pn.entOff i/\Pn.entOff i<=56:=by unfold Pn.refused at h;unfold Pn.entOff;omega
 obtain⟨b,er,hb⟩:∃b er,Pn.look D L (Pn.entAt t i)=(b,er):=⟨_,_,rfl⟩;simp only[hb]at hlk;have hlen:er=0->b.length=64:=fun h=>by have:=Pn.look_full hf hfl (k:=Pn.entAt t i) (by rw[hb];exact h);rw[hb]at this;exact this
 have Hw:=hid (show Pn.tabGet D L t i=if er≠0 then((0,0),er)else Pn.entOf (cut b (Pn.entOff i).toNat 8) by rw[Pn.tabGet,if_neg h,hb]);generalize Pn.entAt t i=at_ at*;obtain⟨o,hoo⟩:∃o:Nat,Pn.entOff i=o:=Int.eq_ofNat_of_zero_le ho.1;rw[hoo]at hp2 Hw ho;rw[Int.toNat_natCast]at Hw;have ho2:o<=56:=by omega
 clear h hb hD hL hf hfl hoo ho;obtain⟨A1,a1⟩:=p;obtain⟨A2,a2⟩:=q;obtain⟨B1,b1⟩:=p';obtain⟨B2,b2⟩:=q';have hB:=Below.refl w.heap.size w;have x:=Blk.new w 25 #[.string (bs D.data),.slice A1 D.cache.length a1,.int .i64 D.fuse,.bool D.off,.slice A2 D.bad.length a2];have xk:=blk5 x;have hB_1:=Ya hB x;have z:=Yd hB_1 63 #[.slice B1 L.targets.length b1,.slice B2 L.data.length b2];simp only[Ys]at z;have zk:=blk2 z;have hB_2:=Ya hB_1 z;have x_3:=Yc x hB_2;have r:=Yd hB_2 102 #[.int .i64 0,.int .i64 0];simp only[Ys]at r;have rk:=blk2 r;have rkf:=r.fz;have hB_4:=Ya hB_2 r;have x_5:=Yc x_3 hB_4;have z_6:=Yc z hB_4;go_enter Tryz.func97,Tryz.ntmps97;go_wp2_with fail
 go_at_call 125;refine((hp _)).mono ?_;rintro e w1 ⟨rfl,hb1⟩;replace hB:=bt hB_4 hb1;replace x:=x_5.below hb1 x_5.lt;replace xk:=blk5 x;replace z:=z_6.below hb1 z_6.lt;replace zk:=blk2 z;replace r:=r.below hb1 r.lt;replace rk:=blk2 r;replace rkf:=r.fz;clear hB_1 hB_2 x_3 hB_4 x_5 z_6;go_wp2_with fail
 go_at_call 126;refine((hp2 _)).mono ?_;rintro e w2 ⟨rfl,hb2⟩;replace hB:=bt hB hb2;replace x:=x.below hb2 x.lt;replace xk:=blk5 x;replace z:=z.below hb2 z.lt;replace zk:=blk2 z;replace r:=r.below hb2 r.lt;replace rk:=blk2 r;replace rkf:=r.fz;go_wp2_with fail
 go_at_call 71;refine((hlk _ hB)).mono ?_;rintro e w3 ⟨rfl,hb3⟩;replace hB:=bt hB hb3;replace x:=x.below hb3 x.lt;replace xk:=blk5 x;replace z:=z.below hb3 z.lt;replace zk:=blk2 z;replace r:=r.below hb3 r.lt;replace rk:=blk2 r;replace rkf:=r.fz;by_cases h1:er=0
 case neg=>
  have n1:(er !=0)=true:=by simpa using h1
  have Hr:=hid (show Pn.tabGet D L t i=((0,0),er) by rw[Hw.out,if_pos h1]);clear h1;go_wp2_with fail
  rw[Hr.out];have yy:=blk2 (Ae r (.int .i64 0) (.int .i64 0));have b9:=Af hB (g:=w.heap.size+1+1) (by omega) (.int .i64 0) (.int .i64 0);refine bodyPost_ret (v:=.tuple #[AB 0 0,.int .i64 er]) (by simp[results,Tryz.results97,go_sem,yy]) rfl ?_;exact⟨rfl,b9⟩
 subst h1;have hl:=hlen rfl;have hcut:cut b o 8=(b.take (o+8)).drop o:=by rw[cut,List.drop_take];congr 1;omega
 have Hr:=hid (show Pn.tabGet D L t i=Pn.entOf ((b.take (o+8)).drop o) by rw[Hw.out,if_neg (by simp),hcut]);have hl8:((b.take (o+8)).drop o).length=8:=by simp;omega
 clear hcut;generalize hs:(b.take (o+8)).drop o=s at Hr hl8;obtain⟨t1,t2⟩:=Pe s hl8;have ht:=fun W=>Do (s.drop 4) (by rw[List.length_drop];unfold maxLen;omega) 4 W
 rw[t1]at ht;obtain⟨c,r7,rfl⟩:∃c r7,s=c::r7:=by cases s with
  |nil=>simp at hl8
  |cons c r7=>exact⟨c,r7,rfl⟩
 have hl7:r7.length=7:=by simpa using hl8
 have e7:List.take 7 r7=r7:=List.take_of_length_le (by omega);have Hq:=hid (J6 c r7 hl7);rw[List.drop_succ_cons]at ht t2;generalize Pn.entOf (c::r7)=E at Hr Hq;generalize un (r7.drop 3)=n at ht t2 Hq;have hby:=fun W=>G9 c n t2 W
 have hen:=fun W=>Ey (c.toNat:Int) (n:Int) W
 have hw1:=i64w (x:=(n:Int)) (by omega);have c0:0<=(c.toNat:Int):=by omega
 have c1:(c.toNat:Int)<=255:=by have:=c.toNat_lt;omega
 clear hlen hlk hp hp2 t1;go_wp2_with fail
 go_at_call 96;refine((ht _)).mono ?_;rintro e w4 ⟨rfl,hb4⟩;replace hB:=bt hB hb4;replace x:=x.below hb4 x.lt;replace xk:=blk5 x;replace z:=z.below hb4 z.lt;replace zk:=blk2 z;replace r:=r.below hb4 r.lt;replace rk:=blk2 r;replace rkf:=r.fz;have y:=Blk.new w4 102 #[.int .i64 (c.toNat:Int),.int .i64 n];have yk:=blk2 y;have hB_7:=Ya hB y;have x_8:=Yc x hB_7;have z_9:=Yc z hB_7;have r_10:=Yc r hB_7;cases hE:Pn.entOk (c.toNat:Int) (n:Int)with
 |false=>
  have Hs:=hid (show Pn.tabGet D L t i=((0,0),14) by rw[Hr.out,Hq.out,if_neg (by rw[hE];simp)]);rw[hE]at hen;clear hE;go_wp2_with fail
  go_at_call 127;refine((hen _)).mono ?_;rintro e w5 ⟨rfl,hb5⟩;replace hB:=bt hB_7 hb5;replace x:=x_8.below hb5 x_8.lt;replace xk:=blk5 x;replace z:=z_9.below hb5 z_9.lt;replace zk:=blk2 z;replace r:=r_10.below hb5 r_10.lt;replace rk:=blk2 r;replace rkf:=r.fz;replace y:=y.below hb5 y.lt;replace yk:=blk2 y;clear hB_7 x_8 z_9 r_10;go_wp2_with fail
  rw[Hs.out];have yy:=blk2 (Ae r (.int .i64 0) (.int .i64 0));have b9:=Af hB (g:=w.heap.size+1+1) (by omega) (.int .i64 0) (.int .i64 0);refine bodyPost_ret (v:=.tuple #[AB 0 0,.int .i64 14]) (by simp[results,Tryz.results97,go_sem,yy]) rfl ?_;exact⟨rfl,b9⟩
 |true=>
  rw[hE]at hen;by_cases hq:[c,0,0,0]++be 4 n=c::r7
  · have Hs:=hid (show Pn.tabGet D L t i=(((c.toNat:Int),(n:Int)),0) by rw[Hr.out,Hq.out,if_pos ⟨hE,hq⟩]);rw[hq]at hby;clear hE hq;go_wp2_with fail
    go_at_call 127;refine((hen _)).mono ?_;rintro e w5 ⟨rfl,hb5⟩;replace hB:=bt hB_7 hb5;replace x:=x_8.below hb5 x_8.lt;replace xk:=blk5 x;replace z:=z_9.below hb5 z_9.lt;replace zk:=blk2 z;replace r:=r_10.below hb5 r_10.lt;replace rk:=blk2 r;replace rkf:=r.fz;replace y:=y.below hb5 y.lt;replace yk:=blk2 y;clear hB_7 x_8 z_9 r_10;go_wp2_with fail
    go_at_call 128;refine((hby _)).mono ?_;rintro e w6 ⟨rfl,hb6⟩;replace hB:=bt hB hb6;replace x:=x.below hb6 x.lt;replace xk:=blk5 x;replace z:=z.below hb6 z.lt;replace zk:=blk2 z;replace r:=r.below hb6 r.lt;replace rk:=blk2 r;replace rkf:=r.fz;replace y:=y.below hb6 y.lt;replace yk:=blk2 y;go_wp2_with fail
    rw[Hs.out];have yy:=blk2 (Ae r (.int .i64 (c.toNat:Int)) (.int .i64 n));have b9:=Af hB (g:=w.heap.size+1+1) (by omega) (.int .i64 (c.toNat:Int)) (.int .i64 n);refine bodyPost_ret (v:=.tuple #[AB (c.toNat:Int) n,.int .i64 0]) (by simp[results,Tryz.results97,go_sem,yy]) rfl ?_;exact⟨rfl,b9⟩
  · have Hs:=hid (show Pn.tabGet D L t i=((0,0),14) by rw[Hr.out,Hq.out,if_neg (fun h=>hq h.2)]);have hne:(([c,0,0,0]++be 4 n)==c::r7)=false:=by rw[beq_eq_false_iff_ne];exact hq
    clear hE hq;generalize [c,0,0,0]++be 4 n=T at*;go_wp2_with fail
    go_at_call 127;refine((hen _)).mono ?_;rintro e w5 ⟨rfl,hb5⟩;replace hB:=bt hB_7 hb5;replace x:=x_8.below hb5 x_8.lt;replace xk:=blk5 x;replace z:=z_9.below hb5 z_9.lt;replace zk:=blk2 z;replace r:=r_10.below hb5 r_10.lt;replace rk:=blk2 r;replace rkf:=r.fz;replace y:=y.below hb5 y.lt;replace yk:=blk2 y;clear hB_7 x_8 z_9 r_10;go_wp2_with fail
    go_at_call 128;refine((hby _)).mono ?_;rintro e w6 ⟨rfl,hb6⟩;replace hB:=bt hB hb6;replace x:=x.below hb6 x.lt;replace xk:=blk5 x;replace z:=z.below hb6 z.lt;replace zk:=blk2 z;replace r:=r.below hb6 r.lt;replace rk:=blk2 r;replace rkf:=r.fz;replace y:=y.below hb6 y.lt;replace yk:=blk2 y;go_wp2_with fail
    rw[Hs.out];have yy:=blk2 (Ae r (.int .i64 0) (.int .i64 0));have b9:=Af hB (g:=w.heap.size+1+1) (by omega) (.int .i64 0) (.int .i64 0);refine bodyPost_ret (v:=.tuple #[AB 0 0,.int .i64 14]) (by simp[results,Tryz.results97,go_sem,yy]) rfl ?_;exact⟨rfl,b9⟩
theorem Dt (D:Dk)(L:Pn)(p q p' q':Pl)(w:World)(hD:IsDk w D p q)(hL:IsPn w L p' q')(hf:D.fit=true)(hfl:L.Fit)(t i:Int):
 Calls Tryz.prog 97 #[dval D p q,pval L p' q',.int .i64 t,.int .i64 i] w fun e w'=>e=.returned (.tuple #[AB (Pn.tabGet D L t i).1.1 (Pn.tabGet D L t i).1.2,.int .i64 (Pn.tabGet D L t i).2])/\Below w.heap.size w w':=by
 by_cases h:Pn.refused t i
 · exact OO D L p q p' q' w t i h
 · exact OP D L p q p' q' w hD hL hf hfl t i h
theorem OL (D:Dk)(L:Pn)(p q p' q':Pl)(w:World)(t g:Int)(h:g<0\/64<=g):
 Calls Tryz.prog 56 #[dval D p q,pval L p' q',.int .i64 t,.int .i64 g] w fun e w'=>e=.returned (.tuple #[AB (Pn.tabFind D L t g).1.1 (Pn.tabFind D L t g).1.2,.int .i64 (Pn.tabFind D L t g).2])/\Below w.heap.size w w':=by
 have Hr:=hid (show Pn.tabFind D L t g=((0,0),10) by rw[Pn.tabFind,if_pos h]);obtain⟨A1,a1⟩:=p;obtain⟨A2,a2⟩:=q;obtain⟨B1,b1⟩:=p';obtain⟨B2,b2⟩:=q';have hB:=Below.refl w.heap.size w;have x:=Blk.new w 25 #[.string (bs D.data),.slice A1 D.cache.length a1,.int .i64 D.fuse,.bool D.off,.slice A2 D.bad.length a2];have hB_1:=Ya hB x;have z:=Yd hB_1 63 #[.slice B1 L.targets.length b1,.slice B2 L.data.length b2];simp only[Ys]at z;have hB_2:=Ya hB_1 z;have r:=Yd hB_2 102 #[.int .i64 0,.int .i64 0];simp only[Ys]at r;have rk:=blk2 r;have rkf:=r.fz;have hB_4:=Ya hB_2 r;by_cases h0:g<0
 · clear h;go_enter Tryz.func56,Tryz.ntmps56;go_wp2_with fail
   rw[Hr.out];refine bodyPost_ret (v:=.tuple #[AB 0 0,.int .i64 10]) (by simp[results,Tryz.results56,go_sem]) rfl ?_;exact⟨rfl,hB_4⟩
 · have h1:64<=g:=by omega
   clear h;go_enter Tryz.func56,Tryz.ntmps56;go_wp2_with fail
   rw[Hr.out];refine bodyPost_ret (v:=.tuple #[AB 0 0,.int .i64 10]) (by simp[results,Tryz.results56,go_sem]) rfl ?_;exact⟨rfl,hB_4⟩
theorem ON (D:Dk)(L:Pn)(p q p' q':Pl)(w:World)(hD:IsDk w D p q)(hL:IsPn w L p' q')(hf:D.fit=true)(hfl:L.Fit)(t:Int)(g:Nat)(h:g<64):
 Calls Tryz.prog 56 #[dval D p q,pval L p' q',.int .i64 t,.int .i64 g] w fun e w'=>e=.returned (.tuple #[AB (Pn.tabFind D L t g).1.1 (Pn.tabFind D L t g).1.2,.int .i64 (Pn.tabFind D L t g).2])/\Below w.heap.size w w':=by
 have g0:(0:Int)<=(g:Int):=by omega
 have hg1:=fun(W:World)(hb:Below w.heap.size w W)=>Dt D L p q p' q' W (hD.below hb) (hL.below hb) hf hfl t ((g:Int)/16)
 have hg2:=fun(W:World)(hb:Below w.heap.size w W)(T:Int)=>Dt D L p q p' q' W (hD.below hb) (hL.below hb) hf hfl T ((g:Int)%16)
 have Hw:=hid (show Pn.tabFind D L t g=if(Pn.tabGet D L t ((g:Int)/16)).2≠0\/(Pn.tabGet D L t ((g:Int)/16)).1.1=0 then((0,0),(Pn.tabGet D L t ((g:Int)/16)).2)
  else if(Pn.tabGet D L t ((g:Int)/16)).1.1=2 then((0,0),14)else Pn.tabGet D L (Pn.tabGet D L t ((g:Int)/16)).1.2 ((g:Int)%16) by rw[Pn.tabFind,if_neg (by omega)])
 have hsm:=Pn.tabGet_small D L t ((g:Int)/16);generalize Pn.tabGet D L t ((g:Int)/16)=E at hg1 Hw hsm;obtain⟨⟨K,A⟩,er⟩:=E;simp only at hg1 Hw hsm;obtain⟨s1,s2,s3,s4⟩:=hsm;clear hD hL hf hfl;obtain⟨A1,a1⟩:=p;obtain⟨A2,a2⟩:=q;obtain⟨B1,b1⟩:=p';obtain⟨B2,b2⟩:=q';have hB:=Below.refl w.heap.size w;have x:=Blk.new w 25 #[.string (bs D.data),.slice A1 D.cache.length a1,.int .i64 D.fuse,.bool D.off,.slice A2 D.bad.length a2];have hB_1:=Ya hB x;have z:=Yd hB_1 63 #[.slice B1 L.targets.length b1,.slice B2 L.data.length b2];simp only[Ys]at z;have hB_2:=Ya hB_1 z;have x_3:=Yc x hB_2;have r:=Yd hB_2 102 #[.int .i64 0,.int .i64 0];simp only[Ys]at r;have rk:=blk2 r;have rkf:=r.fz;have hB_4:=Ya hB_2 r;have x_5:=Yc x_3 hB_4;have xk_5:=blk5 x_5;have z_6:=Yc z hB_4;have zk_6:=blk2 z_6;go_enter Tryz.func56,Tryz.ntmps56;go_wp2_with fail
 go_at_call 97;refine((hg1 _ hB_4)).mono ?_;rintro e w1 ⟨rfl,hb1⟩;replace hB:=bt hB_4 hb1;replace x:=x_5.below hb1 x_5.lt;replace z:=z_6.below hb1 z_6.lt;replace r:=r.below hb1 r.lt;replace rk:=blk2 r;replace rkf:=r.fz;clear hB_1 hB_2 x_3 hB_4 xk_5 x_5 zk_6 z_6;have y:=Blk.new w1 102 #[.int .i64 K,.int .i64 A];have yk:=blk2 y;have hB_7:=Ya hB y;have x_8:=Yc x hB_7;have xk_8:=blk5 x_8;have z_9:=Yc z hB_7;have zk_9:=blk2 z_9;have r_10:=Yc r hB_7;have rk_10:=blk2 r_10;have rkf_10:=r_10.fz;by_cases h1:er=0
 case neg=>
  have n1:(er !=0)=true:=by simpa using h1
  have Hr:=hid (show Pn.tabFind D L t g=((0,0),er) by rw[Hw.out,if_pos (.inl h1)]);clear h1;go_wp2_with fail
  rw[Hr.out];have yy:=blk2 (Ae r_10 (.int .i64 0) (.int .i64 0));have b9:=Af hB_7 (g:=w.heap.size+1+1) (by first|exact Nat.le_refl _|(simp;omega)|omega) (.int .i64 0) (.int .i64 0);refine bodyPost_ret (v:=.tuple #[AB 0 0,.int .i64 er]) (by simp[results,Tryz.results56,go_sem,yy]) rfl ?_;exact⟨rfl,b9⟩
 subst h1;by_cases h2:K=0
 · subst h2;have Hr:=hid (show Pn.tabFind D L t g=((0,0),0) by rw[Hw.out,if_pos (.inr rfl)]);go_wp2_with fail
   rw[Hr.out];have yy:=blk2 (Ae r_10 (.int .i64 0) (.int .i64 0));have b9:=Af hB_7 (g:=w.heap.size+1+1) (by first|exact Nat.le_refl _|(simp;omega)|omega) (.int .i64 0) (.int .i64 0);refine bodyPost_ret (v:=.tuple #[AB 0 0,.int .i64 0]) (by simp[results,Tryz.results56,go_sem,yy]) rfl ?_;exact⟨rfl,b9⟩
 · have n2:(K==0)=false:=by simpa using h2
   by_cases h3:K=2
   · subst h3;have Hr:=hid (show Pn.tabFind D L t g=((0,0),14) by rw[Hw.out,if_neg (by simp),if_pos rfl]);clear h2;go_wp2_with fail
     rw[Hr.out];have yy:=blk2 (Ae r_10 (.int .i64 0) (.int .i64 0));have b9:=Af hB_7 (g:=w.heap.size+1+1) (by first|exact Nat.le_refl _|(simp;omega)|omega) (.int .i64 0) (.int .i64 0);refine bodyPost_ret (v:=.tuple #[AB 0 0,.int .i64 14]) (by simp[results,Tryz.results56,go_sem,yy]) rfl ?_;exact⟨rfl,b9⟩
   · have n3:(K==2)=false:=by simpa using h3
     have Hr:=hid (show Pn.tabFind D L t g=Pn.tabGet D L A ((g:Int)%16) by rw[Hw.out,if_neg (by simp[h2]),if_neg h3]);have hg3:=fun(W:World)(hb:Below w.heap.size w W)=>hg2 W hb A
     clear h2 h3 hg2 hg1;generalize Pn.tabGet D L A ((g:Int)%16)=E2 at hg3 Hr;obtain⟨⟨K2,A2'⟩,er2⟩:=E2;simp only at hg3;go_wp2_with fail
     go_at_call 97;refine((hg3 _ hB_7)).mono ?_;rintro e w2 ⟨rfl,hb2⟩;replace hB:=bt hB_7 hb2;replace x:=x_8.below hb2 x_8.lt;replace z:=z_9.below hb2 z_9.lt;replace r:=r_10.below hb2 r_10.lt;replace rk:=blk2 r;replace rkf:=r.fz;replace y:=y.below hb2 y.lt;replace yk:=blk2 y;clear hB_7 xk_8 x_8 zk_9 z_9 rk_10 rkf_10 r_10;go_wp2_with fail
     rw[Hr.out];have yy:=blk2 (Ae r (.int .i64 K2) (.int .i64 A2'));have b9:=Af hB (g:=w.heap.size+1+1) (by first|exact Nat.le_refl _|(simp;omega)|omega) (.int .i64 K2) (.int .i64 A2');refine bodyPost_ret (v:=.tuple #[AB K2 A2',.int .i64 er2]) (by simp[results,Tryz.results56,go_sem,yy]) rfl ?_;exact⟨rfl,b9⟩
theorem Ha (D:Dk)(L:Pn)(p q p' q':Pl)(w:World)(hD:IsDk w D p q)(hL:IsPn w L p' q')(hf:D.fit=true)(hfl:L.Fit)(t g:Int):
 Calls Tryz.prog 56 #[dval D p q,pval L p' q',.int .i64 t,.int .i64 g] w fun e w'=>e=.returned (.tuple #[AB (Pn.tabFind D L t g).1.1 (Pn.tabFind D L t g).1.2,.int .i64 (Pn.tabFind D L t g).2])/\Below w.heap.size w w':=by
 by_cases h:g<0\/64<=g
 · exact OL D L p q p' q' w t g h
 · obtain⟨g,rfl⟩:=Int.eq_ofNat_of_zero_le (show 0<=g by omega);exact ON D L p q p' q' w hD hL hf hfl t g (by omega)
theorem MD (x:Im)(L:Pn)(p q r p' q':Pl)(w:World)(hI:IsIm w x p q r)(hL:IsPn w L p' q')(ok:x.Ok)(hfl:L.Fit):
 Calls Tryz.prog 35 #[imval x p q r,pval L p' q'] w fun e w'=>RetIm w.heap.size x p q r (x.done L) e w'/\Below w.heap.size w w':=by
 have hc:=fun(W:World)(hb:Below w.heap.size w W)=>No x.d x.j L p q p' q' W (hI.d.below hb) (hL.below hb) ok.d hfl (by have:=ok.seq;omega) ok.pos
 have hap:=fun g (hg:w.heap.size<=g)=>hI.apart hg
 have HD:=hid (show x.done L=if(jrCommit x.d x.j L).2.2≠0 then({x with d:=(jrCommit x.d x.j L).1,br:=true},(jrCommit x.d x.j L).2.2)else({x with d:=(jrCommit x.d x.j L).1,j:=(jrCommit x.d x.j L).2.1},0)from rfl);generalize jrCommit x.d x.j L=X at hc HD;obtain⟨E,j,er⟩:=X;have hm:=hI.m;clear hI hL ok hfl;obtain⟨D,g,h,⟨seq,pos⟩,maps,br⟩:=x;obtain⟨js,jp⟩:=j;simp only at hc HD hap hm;obtain⟨A1,a1⟩:=p;obtain⟨A2,a2⟩:=q;obtain⟨A3,a3⟩:=r;obtain⟨B1,b1⟩:=p';obtain⟨B2,b2⟩:=q';have hB:=Below.refl w.heap.size w;have x:=Blk.new w 33 #[.string (bs D.data),.slice A1 D.cache.length a1,.int .i64 D.fuse,.bool D.off,.slice A2 D.bad.length a2,.int .i64 g,.int .i64 h,.int .u64 seq,.int .i64 pos,.slice A3 maps.length a3,.bool br];have hB_1:=Ya hB x;have hm_2:=hm.below (Yb hB_1);have z:=Yd hB_1 63 #[.slice B1 L.targets.length b1,.slice B2 L.data.length b2];simp only[Ys]at z;have hB_3:=Ya hB_1 z;have hm_4:=hm_2.below (Yb hB_3);have x_5:=Yc x hB_3;have r:=Yd hB_3 33 #[.string (bs []),.slice none 0 0,.int .i64 0,.bool false,.slice none 0 0,.int .i64 0,.int .i64 0,.int .u64 0,.int .i64 0,.slice none 0 0,.bool false];simp only[Ys]at r;have hB_6:=Ya hB_3 r;have hm_7:=hm_4.below (Yb hB_6);have x_8:=Yc x_5 hB_6;have xk_8:=Aa x_8;have z_9:=Yc z hB_6;have zk_9:=blk2 z_9;go_enter Tryz.func35,Tryz.ntmps35;go_wp2_with fail
 go_at_call 75;refine((hc _ hB_6)).mono ?_;rintro e w1 ⟨⟨⟨P1,e1⟩,⟨Q1,f1⟩,rfl,d1,o1⟩,hb1⟩;replace hB:=bt hB_6 hb1;replace hm:=hm_7.below hb1;replace x:=x_8.below hb1 x_8.lt;replace z:=z_9.below hb1 z_9.lt;replace r:=r.below hb1 r.lt;clear hB_1 hm_2 hB_3 hm_4 x_5 hB_6 hm_7 xk_8 x_8 zk_9 z_9;have hrl:=r.lt;have ox0:=(hap w.heap.size (Nat.le_refl _));have or0:=(hap (w.heap.size+1+1) (by omega));have mx:=ox0.2;have mr:=or0.2;have dx:=o1 w.heap.size (by simp only[Ys];omega) ox0.1;have dr:=o1 (w.heap.size+1+1) (by simp only[Ys];omega) or0.1;have O1:=fun g (h1:g<w.heap.size)(h2:DkOff g D ⟨A1,a1⟩ ⟨A2,a2⟩)=>o1 g (by simp only[Ys];omega) h2
 clear o1 ox0 or0;have u:=Blk.new w1 25 #[.string (bs E.data),.slice P1 E.cache.length e1,.int .i64 E.fuse,.bool E.off,.slice Q1 E.bad.length f1];have hB_10:=Ya hB u;have hm_11:=hm.below (Yb hB_10);have x_12:=Yc x hB_10;have z_13:=Yc z hB_10;have r_14:=Yc r hB_10;have d1_15:=d1.below (Yb hB_10);have v:=Yd hB_10 30 #[.int .u64 js,.int .i64 jp];simp only[Ys]at v;have hB_16:=Ya hB_10 v;have hm_17:=hm_11.below (Yb hB_16);have x_18:=Yc x_12 hB_16;have xk_18:=Aa x_18;have xkf_18:=x_18.fz;have z_19:=Yc z_13 hB_16;have r_20:=Yc r_14 hB_16;have d1_21:=d1_15.below (Yb hB_16);have u_22:=Yc u hB_16;have uk_22:=blk5 u_22;have hB_23:=(((((hB_16).setCell (p:=⟨w.heap.size,0,none⟩) (by show _<=(w.heap.size:Nat);omega) (.string (bs E.data))).setCell (p:=⟨w.heap.size,1,none⟩) (by show _<=(w.heap.size:Nat);omega) (.slice P1 E.cache.length e1)).setCell (p:=⟨w.heap.size,2,none⟩) (by show _<=(w.heap.size:Nat);omega) (.int .i64 E.fuse)).setCell (p:=⟨w.heap.size,3,none⟩) (by show _<=(w.heap.size:Nat);omega) (.bool E.off)).setCell (p:=⟨w.heap.size,4,none⟩) (by show _<=(w.heap.size:Nat);omega) (.slice Q1 E.bad.length f1);have hm_24:=hm_17.ob hB_23;have x_25:=(((((x_18).set 0 (.string (bs E.data))).set 1 (.slice P1 E.cache.length e1)).set 2 (.int .i64 E.fuse)).set 3 (.bool E.off)).set 4 (.slice Q1 E.bad.length f1);simp only[Ye]at x_25;have xk_25:=Aa x_25;have xkf_25:=x_25.fz;have z_26:=Yi z_19 hB_23;have r_27:=Yi r_20 hB_23;have d1_28:=d1_21.ob hB_23;have u_29:=Yi u_22 hB_23;have v_30:=Yi v hB_23;have vk_30:=blk2 v_30;by_cases he:er=0
 · subst he;have Hr:=hid (show Im.done ⟨D,g,h,⟨seq,pos⟩,maps,br⟩ L=(⟨E,g,h,⟨js,jp⟩,maps,br⟩,0) by rw[HD.out];exact if_neg (by simp));clear HD hc hap;have hB_31:=((hB_23).setCell (p:=⟨w.heap.size,7,none⟩) (by show _<=(w.heap.size:Nat);omega) (.int .u64 js)).setCell (p:=⟨w.heap.size,8,none⟩) (by show _<=(w.heap.size:Nat);omega) (.int .i64 jp);have hm_32:=((hm_24).off (a:=⟨w.heap.size,7,none⟩) (by first|assumption|omega) (.int .u64 js)).off (a:=⟨w.heap.size,8,none⟩) (by first|assumption|omega) (.int .i64 jp);have x_33:=((x_25).set 7 (.int .u64 js)).set 8 (.int .i64 jp);simp only[Ye]at x_33;have xk_33:=Aa x_33;have z_34:=((z_26).other (a:=⟨w.heap.size,7,none⟩) (by show _≠(w.heap.size:Nat);omega) (.int .u64 js)).other (a:=⟨w.heap.size,8,none⟩) (by show _≠(w.heap.size:Nat);omega) (.int .i64 jp);have r_35:=((r_27).other (a:=⟨w.heap.size,7,none⟩) (by show _≠(w.heap.size:Nat);omega) (.int .u64 js)).other (a:=⟨w.heap.size,8,none⟩) (by show _≠(w.heap.size:Nat);omega) (.int .i64 jp);have rk_35:=Aa r_35;have rkf_35:=r_35.fz;have d1_36:=((d1_28).off (a:=⟨w.heap.size,7,none⟩) (by first|assumption|omega) (.int .u64 js)).off (a:=⟨w.heap.size,8,none⟩) (by first|assumption|omega) (.int .i64 jp);have u_37:=((u_29).other (a:=⟨w.heap.size,7,none⟩) (by show _≠(w.heap.size:Nat);omega) (.int .u64 js)).other (a:=⟨w.heap.size,8,none⟩) (by show _≠(w.heap.size:Nat);omega) (.int .i64 jp);have v_38:=((v_30).other (a:=⟨w.heap.size,7,none⟩) (by show _≠(w.heap.size:Nat);omega) (.int .u64 js)).other (a:=⟨w.heap.size,8,none⟩) (by show _≠(w.heap.size:Nat);omega) (.int .i64 jp);have hB_39:=As hB_31 (g:=w.heap.size+1+1) (by omega) (.string (bs E.data)) (.slice P1 E.cache.length e1) (.int .i64 E.fuse) (.bool E.off) (.slice Q1 E.bad.length f1) (.int .i64 g) (.int .i64 h) (.int .u64 js) (.int .i64 jp) (.slice A3 maps.length a3) (.bool br);have hm_40:=hm_32.oc hB_39;have r_43:=Yh r_35 hB_39;have d1_44:=d1_36.oc hB_39;have yy:=Aa r_43;have bw:=hB_39;have dw:=d1_44;have mw:=hm_40;go_wp2_with fail
   refine bodyPost_ret (v:=.tuple #[imval ⟨E,g,h,⟨js,jp⟩,maps,br⟩ ⟨P1,e1⟩ ⟨Q1,f1⟩ ⟨A3,a3⟩,.int .i64 0]) (by simp[results,Tryz.results35,go_sem,yy]) rfl ?_;rw[Hr.out];exact⟨⟨⟨P1,e1⟩,⟨Q1,f1⟩,⟨A3,a3⟩,rfl,⟨dw,mw⟩,fun g h1 h2=>⟨O1 g h1 h2.1,h2.2⟩⟩,bw⟩
 · have n1:(er !=0)=true:=bne_iff_ne.2 he;have Hr:=hid (show Im.done ⟨D,g,h,⟨seq,pos⟩,maps,br⟩ L=(⟨E,g,h,⟨seq,pos⟩,maps,true⟩,er) by rw[HD.out];exact if_pos he);clear HD hc hap he;have hB_31:=(hB_23).setCell (p:=⟨w.heap.size,10,none⟩) (by show _<=(w.heap.size:Nat);omega) (.bool true);have hm_32:=hm_24.o1 hB_31;have x_33:=(x_25).set 10 (.bool true);simp only[Ye]at x_33;have xk_33:=Aa x_33;have z_34:=Yx z_26 hB_31;have r_35:=Yx r_27 hB_31;have rk_35:=Aa r_35;have rkf_35:=r_35.fz;have d1_36:=d1_28.o1 hB_31;have u_37:=Yx u_29 hB_31;have v_38:=Yx v_30 hB_31;have hB_39:=As hB_31 (g:=w.heap.size+1+1) (by omega) (.string (bs E.data)) (.slice P1 E.cache.length e1) (.int .i64 E.fuse) (.bool E.off) (.slice Q1 E.bad.length f1) (.int .i64 g) (.int .i64 h) (.int .u64 seq) (.int .i64 pos) (.slice A3 maps.length a3) (.bool true);have hm_40:=hm_32.oc hB_39;have r_43:=Yh r_35 hB_39;have d1_44:=d1_36.oc hB_39;have yy:=Aa r_43;have bw:=hB_39;have dw:=d1_44;have mw:=hm_40;go_wp2_with fail
   refine bodyPost_ret (v:=.tuple #[imval ⟨E,g,h,⟨seq,pos⟩,maps,true⟩ ⟨P1,e1⟩ ⟨Q1,f1⟩ ⟨A3,a3⟩,.int .i64 er]) (by simp[results,Tryz.results35,go_sem,yy]) rfl ?_;rw[Hr.out];exact⟨⟨⟨P1,e1⟩,⟨Q1,f1⟩,⟨A3,a3⟩,rfl,⟨dw,mw⟩,fun g h1 h2=>⟨O1 g h1 h2.1,h2.2⟩⟩,bw⟩
theorem MB (D:Dk)(p q:Pl)(w:World)(hD:IsDk w D p q)(hf:D.fit=true)(k:Int)(hk0: -1000000<=k)(hk1:k<=1000000):
 Calls Tryz.prog 100 #[dval D p q,.int .i64 k] w fun e w'=>e=.returned (.tuple #[.string (bs (Im.clus D k).1),.int .i64 (Im.clus D k).2])/\Below w.heap.size w w':=by
 have hat:=fun W=>BH k hk0 hk1 W
 have hl:=(Dk.fit_parts hf).2.2.1;have hr1:=fun(W:World)(hb:Below w.heap.size w W)=>Dg D p q W (hD.below hb) (96+2*k) hl
 have hr2:=fun(W:World)(hb:Below w.heap.size w W)=>Dg D p q W (hD.below hb) (96+2*k+1) hl
 have l1:=Dk.read_len hf (96+2*k);have l2:=Dk.read_len hf (96+2*k+1);have HC:=hid (show Im.clus D k=if(D.read (96+2*k)).2≠0 then([],(D.read (96+2*k)).2)else if(D.read (96+2*k+1)).2≠0 then([],(D.read (96+2*k+1)).2)else((D.read (96+2*k)).1++(D.read (96+2*k+1)).1,0)from rfl);generalize D.read (96+2*k)=R1 at*;generalize D.read (96+2*k+1)=R2 at*;obtain⟨s1,e1⟩:=R1;obtain⟨s2,e2⟩:=R2;simp only at hr1 hr2 HC l1 l2;obtain⟨a,ha⟩:∃a:Int,96+2*k=a:=⟨_,rfl⟩;rw[ha]at hat hr1 hr2;have hab: -10000000<=a/\a<=10000000:=by omega
 clear hl ha hD hf;obtain⟨A1,a1⟩:=p;obtain⟨A2,a2⟩:=q;have hB:=Below.refl w.heap.size w;have x:=Blk.new w 25 #[.string (bs D.data),.slice A1 D.cache.length a1,.int .i64 D.fuse,.bool D.off,.slice A2 D.bad.length a2];have xk:=blk5 x;have hB_1:=Ya hB x;go_enter Tryz.func100,Tryz.ntmps100;go_wp2_with fail
 generalize (w.alloc (.cells #[.string (bs D.data),.slice A1 D.cache.length a1,.int .i64 D.fuse,.bool D.off,.slice A2 D.bad.length a2] 25))=V at hB_1 x xk ⊢;clear hB;have hB:=hB_1;clear hB_1;have X5:=ext5 x;have D1:=fun e:Ext V=>hat e.world
 have D2:=fun e:Ext V=>hr1 e.world (bt hB e.below)
 refine Ay mixed (by kernel_rfl) ?_
 repeat (go_big_quiet_step (((first|(go_at_call 63;with_reducible exact Al (D1 _))|(go_at_call 98;with_reducible exact Al (D2 _))))))
 refine wpQuiet_nil ?_;rintro V1 ⟨pq_,hpq_⟩;have hb1:=pq_.below;rw[<-hpq_]at hb1;clear hpq_ pq_;clear X5 D1 D2;replace hB:=bt hB hb1;replace x:=x.below hb1 x.lt;replace xk:=blk5 x;by_cases h1:e1=0
 · subst h1;by_cases h2:e2=0
   · subst h2;have Hr:=hid (show Im.clus D k=(s1++s2,0) by rw[HC.out];exact(if_neg (by simp)).trans (if_neg (by simp)));clear HC;go_wp2_with fail
     have X5:=ext5 x;have D1:=fun e:Ext V1=>hat e.world
     have D2:=fun e:Ext V1=>hr2 e.world (bt hB e.below)
     refine Ay mixed (by kernel_rfl) ?_
     repeat (go_big_quiet_step (((first|(go_at_call 63;with_reducible exact Al (D1 _))|(go_at_call 98;with_reducible exact Al (D2 _))))))
     refine wpQuiet_nil ?_;rintro V2 ⟨pq_,hpq_⟩;have hb2:=pq_.below;rw[<-hpq_]at hb2;clear hpq_ pq_;clear X5 D1 D2;go_wp2_with fail
     go_ret2
     rw[Hr.out];exact⟨rfl,bt hB hb2⟩
   · have n2:(e2 !=0)=true:=bne_iff_ne.2 h2;have Hr:=hid (show Im.clus D k=([],e2) by rw[HC.out];exact(if_neg (by simp)).trans (if_pos h2));clear HC h2;go_wp2_with fail
     have X5:=ext5 x;have D1:=fun e:Ext V1=>hat e.world
     have D2:=fun e:Ext V1=>hr2 e.world (bt hB e.below)
     refine Ay mixed (by kernel_rfl) ?_
     repeat (go_big_quiet_step (((first|(go_at_call 63;with_reducible exact Al (D1 _))|(go_at_call 98;with_reducible exact Al (D2 _))))))
     refine wpQuiet_nil ?_;rintro V2 ⟨pq_,hpq_⟩;have hb2:=pq_.below;rw[<-hpq_]at hb2;clear hpq_ pq_;clear X5 D1 D2;go_wp2_with fail
     go_ret2
     rw[Hr.out];exact⟨rfl,bt hB hb2⟩
 · have n1:(e1 !=0)=true:=bne_iff_ne.2 h1;have Hr:=hid (show Im.clus D k=([],e1) by rw[HC.out];exact if_pos h1);clear HC h1;go_wp2_with fail
   go_ret2
   rw[Hr.out];exact⟨rfl,hB⟩
theorem Tryz.zmake (n:Nat)(hn:n<=100000)(W:World):(Instr.makeSlice 139 (.int .i64 (n:Int)) (.int .i64 (n:Int))).run Tryz.prog W=.ok (.slice (some ⟨W.heap.size,0,none⟩) n n) (W.alloc (.cells (madeCells #[.int .u8 0] n) 5)):=by
 obtain⟨i0,hi,hz0,hz1,hz2⟩:=info_parts Tryz.infoByte;have hmk:=Cf (P:=Tryz.prog) 139 5 i0 (.int .u8 0) Tryz.underlying139 hi hz0 .i64 .i64 n n (Nat.le_refl _) (by rw[hz2];omega) (by omega) W;rw[hz1,Nat.mul_one]at hmk;exact hmk
theorem Tryz.zstr (n:Nat)(W:World):(convert 139 9 (.slice (some ⟨W.heap.size,0,none⟩) n n)).run Tryz.prog (W.alloc (.cells (madeCells #[.int .u8 0] n) 5))=.ok (.string (bs (List.replicate n 0))) (W.alloc (.cells (madeCells #[.int .u8 0] n) 5)):=by
 have hcv:=run_convert_bytes_back (P:=Tryz.prog) (W.alloc (.cells (madeCells #[.int .u8 0] n) 5)) 139 9 5 ⟨W.heap.size,0,none⟩ n (List.replicate n 0) Tryz.underlying139 Tryz.underlying5 Tryz.underlying9 (fun j hj=>by
  have hj':j<n:=by simpa using hj
  rw[Bo,Nat.zero_add,(Blk.new W _ _).cell j,<-Array.getElem?_toList,toList_madeCells_one];simp[hj'])
 rw[List.length_replicate,Ad]at hcv;exact hcv
theorem MH (D:Dk)(p q:Pl)(w:World)(hD:IsDk w D p q)(hf:D.fit=true)(l1 u:Int):
 Calls Tryz.prog 60 #[dval D p q,.int .i64 l1,.int .i64 u] w fun e w'=>e=.returned (.tuple #[.string (bs (Im.rd D l1 u).1),.int .i64 (Im.rd D l1 u).2])/\Below w.heap.size w w':=by
 have hfd:=fun(W:World)(hb:Below w.heap.size w W)=>Ha D Pn.none p q ⟨none,0⟩ ⟨none,0⟩ W (hD.below hb) (AQ _) hf Pn.none_fit l1 u
 have hc:=fun(W:World)(hb:Below w.heap.size w W)(k:Int)(h0: -1000000<=k)(h1:k<=1000000)=>MB D p q W (hD.below hb) hf k h0 h1
 have hat:=(Pn.tabFind_small D Pn.none l1 u).2.2;have HR:=hid (show Im.rd D l1 u=if(Pn.tabFind D Pn.none l1 u).2≠0 then([],(Pn.tabFind D Pn.none l1 u).2)else if(Pn.tabFind D Pn.none l1 u).1.1=1 then Im.clus D (Pn.tabFind D Pn.none l1 u).1.2 else(List.replicate 128 0,0)from rfl);generalize Pn.tabFind D Pn.none l1 u=Y at*;obtain⟨⟨K,A⟩,er⟩:=Y;simp only at hfd hat HR;replace hc:=fun(W:World)(hb:Below w.heap.size w W)=>hc W hb A (by omega) (by omega)
 have hmk:=fun W=>Tryz.zmake 128 (by decide) W
 have hcv:=fun W=>Tryz.zstr 128 W
 rw[show((128:Nat):Int)=128 from rfl]at hmk;generalize madeCells #[.int .u8 0] 128=MC at*;generalize List.replicate 128 (0:UInt8)=Z at*;clear hD hf;obtain⟨A1,a1⟩:=p;obtain⟨A2,a2⟩:=q;have hB:=Below.refl w.heap.size w;have x:=Blk.new w 25 #[.string (bs D.data),.slice A1 D.cache.length a1,.int .i64 D.fuse,.bool D.off,.slice A2 D.bad.length a2];have xk:=blk5 x;have hB_1:=Ya hB x;go_enter Tryz.func60,Tryz.ntmps60;go_wp2_with fail
 go_at_call 56;refine((hfd _ hB_1)).mono ?_;rintro e w1 ⟨rfl,hb1⟩;replace hB:=bt hB_1 hb1;replace x:=x.below hb1 x.lt;replace xk:=blk5 x;clear hB_1;have y:=Blk.new w1 102 #[.int .i64 K,.int .i64 A];have yk:=blk2 y;have hB_2:=Ya hB y;have x_3:=Yc x hB_2;have xk_3:=blk5 x_3;by_cases he:er=0
 · subst he;by_cases hK:K=1
   · subst hK;have Hr:=hid (show Im.rd D l1 u=Im.clus D A by rw[HR.out];exact(if_neg (by simp)).trans (if_pos rfl));clear HR;go_wp2_with fail
     go_at_call 100;refine((hc _ hB_2)).mono ?_;rintro e w2 ⟨rfl,hb2⟩;replace hB:=bt hB_2 hb2;replace x:=x_3.below hb2 x_3.lt;replace xk:=blk5 x;replace y:=y.below hb2 y.lt;replace yk:=blk2 y;clear hB_2 xk_3 x_3;go_wp2_with fail
     go_ret2
     rw[Hr.out];exact⟨rfl,hB⟩
   · have nK:(K==1)=false:=beq_eq_false_iff_ne.2 hK;have Hr:=hid (show Im.rd D l1 u=(Z,0) by rw[HR.out];exact(if_neg (by simp)).trans (if_neg hK));clear HR hK;have bw:=(hB_2).alloc (hB_2).size (.cells MC 5);have hcv2:=hcv (w1.alloc (.cells #[.int .i64 K,.int .i64 A] 102));simp only[Ys]at hcv2;clear hcv;go_wp2_with fail
     go_ret2
     rw[Hr.out];exact⟨rfl,bw⟩
 · have n1:(er !=0)=true:=bne_iff_ne.2 he;have Hr:=hid (show Im.rd D l1 u=([],er) by rw[HR.out];exact if_pos he);clear HR he;go_wp2_with fail
   go_ret2
   rw[Hr.out];exact⟨rfl,hB_2⟩
end
end Go.Proofs.YtmiilfnchfdfcaaGreatDoor
