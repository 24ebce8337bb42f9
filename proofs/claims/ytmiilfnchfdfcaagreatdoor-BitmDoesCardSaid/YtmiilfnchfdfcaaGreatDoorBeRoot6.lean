/- Be: Plan4, Plan7, PackOver, Plan8, Roots, Opens, Opens2, Ref03, Root3, Plan9, Grown, Root4, Root6. -/
import Derived.Test.YtmiilfnchfdfcaaGreatDoorBeSuper1
import Derived.Test.YtmiilfnchfdfcaaGreatDoorBeCrcs
import Derived.ProofKit
import Derived.OpenShut
import Derived.ShutString
import Derived.Deep.Slices
import Derived.Deep.Fields
import Derived.Lib.SmallJoins
set_option maxRecDepth 100000
set_option maxHeartbeats 40000000
set_option linter.unusedVariables false
namespace Go.Proofs.YtmiilfnchfdfcaaGreatDoor
section
open Go.RowKit Go.Shelf
attribute [local go_sem] Ad Af Ag Ab Ai Ah
theorem Ac {w w1 W W':World}{a b:Addr}{v1 v2:Value}(h:(W.cell? a=some v1/\W.cell? b=some v2)/\Below w.heap.size w W/\Below w1.heap.size w1 W)(hb:Below W.heap.size W W'):
 (W'.cell? a=some v1/\W'.cell? b=some v2)/\Below w.heap.size w W'/\Below w1.heap.size w1 W':=
 ⟨⟨Av hb h.1.1,Av hb h.1.2⟩,bt h.2.1 hb,bt h.2.2 hb⟩
theorem BL {w w1 W:World}{v1 v2 u v:Value}{k g:Nat}(h:(W.cell? ⟨k,0,none⟩=some v1/\W.cell? ⟨k,1,none⟩=some v2)/\Below w.heap.size w W/\Below w1.heap.size w1 W)(h1:k≠g)(h2:w.heap.size<=g)(h3:w1.heap.size<=g):
 ((((W.setCell ⟨g,0,none⟩ u).setCell ⟨g,1,none⟩ v).cell? ⟨k,0,none⟩=some v1/\((W.setCell ⟨g,0,none⟩ u).setCell ⟨g,1,none⟩ v).cell? ⟨k,1,none⟩=some v2))/\Below w.heap.size w ((W.setCell ⟨g,0,none⟩ u).setCell ⟨g,1,none⟩ v)/\Below w1.heap.size w1 ((W.setCell ⟨g,0,none⟩ u).setCell ⟨g,1,none⟩ v):=by
 refine⟨⟨?_,?_⟩,(h.2.1.setCell (p:=⟨g,0,none⟩) h2 _).setCell (p:=⟨g,1,none⟩) h2 _,(h.2.2.setCell (p:=⟨g,0,none⟩) h3 _).setCell (p:=⟨g,1,none⟩) h3 _⟩
 · rw[World.cell?_setCell_other _ _ _ _ (by intro e;injection e with e;exact h1 e.symm),World.cell?_setCell_other _ _ _ _ (by intro e;injection e with e;exact h1 e.symm)];exact h.1.1
 · rw[World.cell?_setCell_other _ _ _ _ (by intro e;injection e with e;exact h1 e.symm),World.cell?_setCell_other _ _ _ _ (by intro e;injection e with e;exact h1 e.symm)];exact h.1.2
theorem AB {w w':World}{base:Nat}{e:TypeId}{size n:Nat}{v:Value}{xs:List Value}(h:w.ownsRow base e size v n xs)(hb:Below w.heap.size w w'):w'.ownsRow base e size v n xs:=by
 refine⟨h.1,?_⟩
 rcases h.2 with h'|⟨g,cap,cur,h1,h2,h3,h4⟩
 · exact .inl h'
 · exact .inr ⟨g,cap,cur,h1,h2,(hb.block g (Array.getElem?_eq_some_iff.1 h3).1).trans h3,h4⟩
theorem Bc {w:World}{base base':Nat}{e:TypeId}{size n:Nat}{v:Value}{xs:List Value}(h:w.ownsRow base' e size v n xs)(hb:base<=base'):w.ownsRow base e size v n xs:=by
 refine⟨h.1,?_⟩
 rcases h.2 with h'|⟨g,cap,cur,h1,h2,h3⟩
 · exact .inl h'
 · exact .inr ⟨g,cap,cur,h1,by omega,h3⟩
def SetMade (w1 W:World)(L:Pn)(v:Value):Prop:=∃g B1 e1 B2 e2,v=.pointer (some ⟨g,0,none⟩)/\w1.heap.size<=g/\Blk W g 63 #[.slice B1 L.targets.length e1,.slice B2 L.data.length e2]/\
 W.ownsRow w1.heap.size 3 1 (.slice B1 L.targets.length e1) L.targets.length (intCells L.targets)/\W.ownsRow w1.heap.size 9 1 (.slice B2 L.data.length e2) L.data.length (strCells L.data)/\Below w1.heap.size w1 W
theorem Ha (L:Pn)(p q:Pl)(w:World)(hL:IsPn w L p q)(k:Int)(s:List UInt8)(h1:sectorOk k=true)(h2:s.length=64)(ht:L.targets.length<=1000000)(hd:L.data.length<=1000000)(he:L.targets.length=L.data.length)(hcase:k∈L.targets\/24<=L.targets.length):
 CX 77 #[pval L p q,.int .i64 k,.string (bs s)] w (RetPn w.heap.size L p q (L.set k s)):=by
 have ho:=fun W=>CJ k W
 rw[h1]at ho;have n0:((s.length:Int) !=64)=false:=by simp;omega
 have a5:=fun(W:World)(hb:Below w.heap.size w W)=>FJ p.a L.targets p.c W (hL.targets.below hb) (by omega) hL.pn
 have a6:=fun(W:World)(hb:Below w.heap.size w W)=>FK q.a L.data q.c W (hL.data.below hb) (by omega) hL.qn
 obtain⟨A1,c1⟩:=p;obtain⟨A2,c2⟩:=q;simp only at a5 a6;have x0:=(apc2 (Blk.new w 63) L A1 c1 A2 c2).alloc (.cells #[.slice none 0 0,.slice none 0 0] 63);have b0:=Aq w (.cells #[.slice A1 L.targets.length c1,.slice A2 L.data.length c2] 63) (.cells #[.slice none 0 0,.slice none 0 0] 63);have z0:=Blk.new (w.alloc (.cells #[.slice A1 L.targets.length c1,.slice A2 L.data.length c2] 63)) 63 #[.slice none 0 0,.slice none 0 0];simp only[Ys]at z0;have He:=hid he;clear he;have a0:=hid (show((w.alloc (.cells #[.slice A1 L.targets.length c1,.slice A2 L.data.length c2] 63)).alloc (.cells #[.slice none 0 0,.slice none 0 0] 63)).heap.size=w.heap.size+2 by simp);go_enter Tryz.func77,Tryz.ntmps77;go_wp2_with fail
 refine(ho _).mono ?_;rintro e w1 ⟨rfl,rfl⟩;go_upto_region 5 with fail
 generalize (w.alloc (.cells #[.slice A1 L.targets.length c1,.slice A2 L.data.length c2] 63)).alloc (.cells #[.slice none 0 0,.slice none 0 0] 63)=w1 at*;have y0:=blk2 x0;have s0:(w1.drew.cell? ⟨w.heap.size,0,none⟩=some (.slice A1 L.targets.length c1)/\w1.drew.cell? ⟨w.heap.size,1,none⟩=some (.slice A2 L.data.length c2))/\Below w.heap.size w w1.drew/\Below w1.heap.size w1 w1.drew:=⟨y0,b0.drew,(Below.refl _ _).drew⟩
 go_cut [8] (fun s8 wx=>SetMade w1 wx L s8)
 case first=>
  go_region_held3 (fun W=>(W.cell? ⟨w.heap.size,0,none⟩=some (.slice A1 L.targets.length c1)/\W.cell? ⟨w.heap.size,1,none⟩=some (.slice A2 L.data.length c2))/\Below w.heap.size w W/\Below w1.heap.size w1 W)
   (first|exact s0|exact⟨y0,b0,Below.refl _ _⟩|exact Ac (s0) hbl1|exact Ac (s0) hbl2|exact Ac (s0) (Yz _)|exact Ac (Ac (s0) hbl1) hbl2|exact Ac (Ac (s0) hbl2) hbl1|exact Ac (Ac (s0) hbl1) (Yz _)|exact Ac (Ac (s0) (Yz _)) hbl1|exact Ac (Ac (s0) hbl2) (Yz _)|exact Ac (Ac (s0) (Yz _)) hbl2|exact Ac (Ac (Ac (s0) hbl1) hbl2) (Yz _)|exact Ac (Ac (Ac (s0) hbl1) (Yz _)) hbl2|exact Ac (Ac (Ac (s0) (Yz _)) hbl1) hbl2|exact Ac (Ac (Ac (s0) hbl2) hbl1) (Yz _)|exact Ac (Ac (Ac (s0) hbl2) (Yz _)) hbl1|exact Ac (Ac (Ac (s0) (Yz _)) hbl2) hbl1|exact BL (Ac (Ac (Ac (s0) hbl1) (Yz _)) hbl2) (by first|(have z:w1.heap.size<=W1.heap.size:=hbl1.size;have z0:=a0.out;omega)|(have z:w1.heap.size<=W2.heap.size:=hbl2.size;have z0:=a0.out;omega)|(have z:w1.drew.heap.size=w1.heap.size:=rfl;have z0:=a0.out;omega)) (by first|(have z:w1.heap.size<=W1.heap.size:=hbl1.size;have z0:=a0.out;omega)|(have z:w1.heap.size<=W2.heap.size:=hbl2.size;have z0:=a0.out;omega)|(have z:w1.drew.heap.size=w1.heap.size:=rfl;have z0:=a0.out;omega)) (by first|(have z:w1.heap.size<=W1.heap.size:=hbl1.size;have z0:=a0.out;omega)|(have z:w1.heap.size<=W2.heap.size:=hbl2.size;have z0:=a0.out;omega)|(have z:w1.drew.heap.size=w1.heap.size:=rfl;have z0:=a0.out;omega))|exact BL (Ac (Ac (Ac (s0) (Yz _)) hbl1) hbl2) (by first|(have z:w1.heap.size<=W1.heap.size:=hbl1.size;have z0:=a0.out;omega)|(have z:w1.heap.size<=W2.heap.size:=hbl2.size;have z0:=a0.out;omega)|(have z:w1.drew.heap.size=w1.heap.size:=rfl;have z0:=a0.out;omega)) (by first|(have z:w1.heap.size<=W1.heap.size:=hbl1.size;have z0:=a0.out;omega)|(have z:w1.heap.size<=W2.heap.size:=hbl2.size;have z0:=a0.out;omega)|(have z:w1.drew.heap.size=w1.heap.size:=rfl;have z0:=a0.out;omega)) (by first|(have z:w1.heap.size<=W1.heap.size:=hbl1.size;have z0:=a0.out;omega)|(have z:w1.heap.size<=W2.heap.size:=hbl2.size;have z0:=a0.out;omega)|(have z:w1.drew.heap.size=w1.heap.size:=rfl;have z0:=a0.out;omega))|exact BL (Ac (Ac (Ac (s0) hbl2) (Yz _)) hbl1) (by first|(have z:w1.heap.size<=W1.heap.size:=hbl1.size;have z0:=a0.out;omega)|(have z:w1.heap.size<=W2.heap.size:=hbl2.size;have z0:=a0.out;omega)|(have z:w1.drew.heap.size=w1.heap.size:=rfl;have z0:=a0.out;omega)) (by first|(have z:w1.heap.size<=W1.heap.size:=hbl1.size;have z0:=a0.out;omega)|(have z:w1.heap.size<=W2.heap.size:=hbl2.size;have z0:=a0.out;omega)|(have z:w1.drew.heap.size=w1.heap.size:=rfl;have z0:=a0.out;omega)) (by first|(have z:w1.heap.size<=W1.heap.size:=hbl1.size;have z0:=a0.out;omega)|(have z:w1.heap.size<=W2.heap.size:=hbl2.size;have z0:=a0.out;omega)|(have z:w1.drew.heap.size=w1.heap.size:=rfl;have z0:=a0.out;omega))|exact BL (Ac (Ac (Ac (s0) (Yz _)) hbl2) hbl1) (by first|(have z:w1.heap.size<=W1.heap.size:=hbl1.size;have z0:=a0.out;omega)|(have z:w1.heap.size<=W2.heap.size:=hbl2.size;have z0:=a0.out;omega)|(have z:w1.drew.heap.size=w1.heap.size:=rfl;have z0:=a0.out;omega)) (by first|(have z:w1.heap.size<=W1.heap.size:=hbl1.size;have z0:=a0.out;omega)|(have z:w1.heap.size<=W2.heap.size:=hbl2.size;have z0:=a0.out;omega)|(have z:w1.drew.heap.size=w1.heap.size:=rfl;have z0:=a0.out;omega)) (by first|(have z:w1.heap.size<=W1.heap.size:=hbl1.size;have z0:=a0.out;omega)|(have z:w1.heap.size<=W2.heap.size:=hbl2.size;have z0:=a0.out;omega)|(have z:w1.drew.heap.size=w1.heap.size:=rfl;have z0:=a0.out;omega)))
   (first|(go_at_call 115;refine(a5 _ (by first|exact s0.2.1|exact(Ac (s0) hbl2).2.1|exact(Ac (s0) (Yz _)).2.1|exact(Ac (Ac (s0) hbl2) (Yz _)).2.1|exact(Ac (Ac (s0) (Yz _)) hbl2).2.1)).mono ?_;rintro e W1 ⟨v1,rfl,hown1,hbl1⟩;obtain⟨B1,e1,rfl,f1,g1,i1⟩:=Aw hown1;first|(have a1:Blk W1 w1.heap.size 63 #[.slice none 0 0,.slice none 0 0]:=(Blk.new w1.drew 63 #[.slice none 0 0,.slice none 0 0]).below hbl1 (Blk.new w1.drew 63 #[.slice none 0 0,.slice none 0 0]).lt;have a8:=blk2 a1;have aa:=a1.frozen)|(have a1:=(Blk.new W2 63 #[.slice none 0 0,.slice none 0 0]).below hbl1 (Blk.new W2 63 #[.slice none 0 0,.slice none 0 0]).lt;have a8:=blk2 a1;have aa:=a1.frozen)|(have a1:=qb2.bl hbl1;have a8:=blk2 a1;have aa:=a1.frozen)|skip)|(go_at_call 116;refine(a6 _ (by first|exact s0.2.1|exact(Ac (s0) hbl1).2.1|exact(Ac (s0) (Yz _)).2.1|exact(Ac (Ac (s0) hbl1) (Yz _)).2.1|exact(Ac (Ac (s0) (Yz _)) hbl1).2.1)).mono ?_;rintro e W2 ⟨v2,rfl,hown2,hbl2⟩;obtain⟨B2,e2,rfl,f2,g2,i2⟩:=Aw hown2;first|(have qb2:Blk W2 w1.heap.size 63 #[.slice none 0 0,.slice none 0 0]:=(Blk.new w1.drew 63 #[.slice none 0 0,.slice none 0 0]).below hbl2 (Blk.new w1.drew 63 #[.slice none 0 0,.slice none 0 0]).lt;have a9:=blk2 qb2;have ab:=qb2.frozen)|(have qb2:=(Blk.new W1 63 #[.slice none 0 0,.slice none 0 0]).below hbl2 (Blk.new W1 63 #[.slice none 0 0,.slice none 0 0]).lt;have a9:=blk2 qb2;have ab:=qb2.frozen)|(have qb2:=a1.bl hbl2;have a9:=blk2 qb2;have ab:=qb2.frozen)|skip))
  · go_wp2_with fail
    go_meet
    have z1:w1.heap.size<=W1.heap.size:=hbl1.size;have z2:W1.heap.size<=W2.heap.size:=hbl2.size;exact⟨W2.heap.size,B1,e1,B2,e2,rfl,by omega,Blk.new W2 _ _,AB (AB hown1 hbl2) (Yz _),Bc (AB hown2 (Yz _)) z1,(Ac (Ac (s0) hbl1) hbl2).2.2.alloc (by omega) _⟩
  · go_wp2_with fail
    go_meet
    have z1:w1.heap.size<=W1.heap.size:=hbl1.size;have qb:Blk ((W2.setCell ⟨W1.heap.size,0,none⟩ (.slice B1 L.targets.length e1)).setCell ⟨W1.heap.size,1,none⟩ (.slice B2 L.data.length e2)) W1.heap.size 63 #[.slice B1 L.targets.length e1,.slice B2 L.data.length e2]:=by
     have:=(qb2.set 0 (.slice B1 L.targets.length e1)).set 1 (.slice B2 L.data.length e2);simpa using this
    have r1:=AB (AB hown1 (Yz (.cells #[.slice none 0 0,.slice none 0 0] 63))) hbl2;have nb:Value.ownBlock (.slice B1 L.targets.length e1)≠some W1.heap.size:=fun e=>by have:=(hown1.lt _ e).2;omega
    have r2:=Bc (base:=w1.heap.size) (ownsRow_setCell_below (ownsRow_setCell_below hown2 (a:=⟨W1.heap.size,0,none⟩) (by simp) (.slice B1 L.targets.length e1)) (a:=⟨W1.heap.size,1,none⟩) (by simp) (.slice B2 L.data.length e2)) (by simp;omega);exact⟨W1.heap.size,B1,e1,B2,e2,rfl,z1,qb,ownsRow_setCell_other (ownsRow_setCell_other r1 (a:=⟨W1.heap.size,0,none⟩) nb (.slice B1 L.targets.length e1)) (a:=⟨W1.heap.size,1,none⟩) nb (.slice B2 L.data.length e2),r2,
     ((Ac (Ac (Ac (s0) hbl1) (Yz _)) hbl2).2.2.setCell (p:=⟨W1.heap.size,0,none⟩) z1 _).setCell (p:=⟨W1.heap.size,1,none⟩) z1 _⟩
  · go_wp2_with fail
    go_meet
    have z1:w1.heap.size+1<=W1.heap.size:=by have:=hbl1.size;simpa using this
    have qb:Blk ((W2.setCell ⟨w1.heap.size,0,none⟩ (.slice B1 L.targets.length e1)).setCell ⟨w1.heap.size,1,none⟩ (.slice B2 L.data.length e2)) w1.heap.size 63 #[.slice B1 L.targets.length e1,.slice B2 L.data.length e2]:=by
     have:=(qb2.set 0 (.slice B1 L.targets.length e1)).set 1 (.slice B2 L.data.length e2);simpa using this
    have r1:=Bc (base:=w1.heap.size) (ownsRow_setCell_below (ownsRow_setCell_below (AB hown1 hbl2) (a:=⟨w1.heap.size,0,none⟩) (by simp) (.slice B1 L.targets.length e1)) (a:=⟨w1.heap.size,1,none⟩) (by simp) (.slice B2 L.data.length e2)) (by simp);have r2:=Bc (base:=w1.heap.size) (ownsRow_setCell_below (ownsRow_setCell_below hown2 (a:=⟨w1.heap.size,0,none⟩) (by simp;omega) (.slice B1 L.targets.length e1)) (a:=⟨w1.heap.size,1,none⟩) (by simp;omega) (.slice B2 L.data.length e2)) (by omega);exact⟨w1.heap.size,B1,e1,B2,e2,rfl,Nat.le_refl _,qb,r1,r2,
     ((Ac (Ac (Ac (s0) (Yz _)) hbl1) hbl2).2.2.setCell (p:=⟨w1.heap.size,0,none⟩) (Nat.le_refl _) _).setCell (p:=⟨w1.heap.size,1,none⟩) (Nat.le_refl _) _⟩
 case rest=>
  clear a5 a6;obtain⟨g,B1,e1,B2,e2,rfl,hg,qb,r1,r2,hB⟩:=hcut;have hz:=a0.out;have Hz:=hid hz;have x1:=x0.below hB (by omega);have z1:=z0.below hB (by omega);have b1:=b0.trans (hB.mono (by omega):Below w.heap.size w1 wc);clear hz;have a3:=Et A1 L.targets c1 k wc (hL.below b1).targets (by omega) L.data;have k1:=blk2 x1;have k2:=blk2 z1;have k3:=blk2 qb;have k4:=z1.fz;by_cases hm:k∈L.targets
  · obtain⟨i,hi,f1,f2,f3⟩:=Pn.find_in hm;have a7:i<L.data.length:=by have:=He.out;omega
    have Hw:=hid (show L.set k s=(⟨L.targets,L.data.set i s⟩,0) by rw[Pn.set,if_neg (by rw[h1];simp),if_neg (by omega),if_pos hm,f3]);rw[show(⟨L.targets,L.data⟩:Pn).find k=i from f1]at a3;clear f1 f2 f3 hm;obtain⟨g2,rfl⟩:∃g2,B2=some ⟨g2,0,none⟩:=by
     rcases r2.2 with ⟨_,h⟩|⟨g2,cap,cur,h,_⟩
     · omega
     · injection h with h;exact⟨g2,h⟩
    have ad:=r2.lt g2 rfl;have af:¬g=g2:=by
     rintro rfl
     rcases r2.2 with ⟨h,_⟩|⟨g3,cap,cur,h,_,h3,_⟩
     · injection h with h;cases h
     · injection h with h;injection h with h;injection h with h
       subst h;rw[show wc.heap[g]? =_ from qb]at h3;injection h3 with h3
       injection h3 with _ h3
       exact absurd h3 (by decide)
    have ai:¬g2=g:=fun h=>af h.symm
    have ae:¬w.heap.size+1=g2:=by have:=Hz.out;omega
    have ah:¬g2=w.heap.size+1:=by have:=Hz.out;omega
    have ac:=r2.cellAt i (by omega);rw[show(strCells L.data)[i]? =some (.string (bs L.data[i])) by simp[strCells,a7]]at ac;have ag:=r2.frozenAt i;have st:=(r2.stored i (.string (bs s))).1;go_wp2_with fail
    refine a3.mono ?_;rintro e w3 ⟨rfl,rfl⟩;go_wp2_with fail
    rw[Hw.out];have zz:Blk (((w3.setCell ⟨g2,i,none⟩ (.string (bs s))).setCell ⟨w.heap.size+1,0,none⟩ (.slice B1 L.targets.length e1)).setCell ⟨w.heap.size+1,1,none⟩ (.slice (some ⟨g2,0,none⟩) L.data.length e2)) (w.heap.size+1) 63 #[.slice B1 L.targets.length e1,.slice (some ⟨g2,0,none⟩) L.data.length e2]:=by
     have:=((z1.other (a:=⟨g2,i,none⟩) ae (.string (bs s))).set 0 (.slice B1 L.targets.length e1)).set 1 (.slice (some ⟨g2,0,none⟩) L.data.length e2);simpa using this
    have yy:=blk2 zz;have a2:=((b1.setCell (p:=⟨g2,i,none⟩) (by show w.heap.size<=g2;have:=Hz.out;have:=ad.1;omega) (.string (bs s))).setCell (p:=⟨w.heap.size+1,0,none⟩) (by simp) (.slice B1 L.targets.length e1)).setCell (p:=⟨w.heap.size+1,1,none⟩) (by simp) (.slice (some ⟨g2,0,none⟩) L.data.length e2);have a4:w.heap.size+1<w1.heap.size:=by have:=Hz.out;omega
    have nb:∀b off,B1=some ⟨b,off,none⟩->b≠g2:=by
     rintro b off rfl rfl
     rcases r1.2 with ⟨h,_⟩|⟨g3,cap,cur,h,_,h3,_⟩
     · injection h with h;cases h
     · injection h with h;injection h with h;injection h with h
       subst h
       rcases r2.2 with ⟨h,_⟩|⟨g4,cap',cur',h,_,h4,_⟩
       · injection h with h;cases h
       · injection h with h;injection h with h;injection h with h
         subst h;rw[h3]at h4;injection h4 with h4
         injection h4 with _ h4
         exact absurd h4 (by decide)
    obtain⟨_,_,s1,u1,u2,u3⟩:=Aw r1;injection s1 with s1 _ s1'
    subst s1;subst s1'
    obtain⟨_,_,s2,v1,v2,v3⟩:=Aw r2;injection s2 with s2 _ s2'
    subst s2;subst s2'
    have ct:=(((Cells.of_own r1).setCell (p:=⟨g2,i,none⟩) nb (.string (bs s))).setCell (p:=⟨w.heap.size+1,0,none⟩) (AF r1 a4) (.slice B1 L.targets.length e1)).setCell (p:=⟨w.heap.size+1,1,none⟩) (AF r1 a4) (.slice (some ⟨g2,0,none⟩) L.data.length e2);have cd:=((Cells.of_own st).setCell (p:=⟨w.heap.size+1,0,none⟩) (AF st a4) (.slice B1 L.targets.length e1)).setCell (p:=⟨w.heap.size+1,1,none⟩) (AF st a4) (.slice (some ⟨g2,0,none⟩) L.data.length e2);rw[show(strCells L.data).set i (.string (bs s))=strCells (L.data.set i s) by simp[strCells,List.map_set]]at cd;refine bodyPost_ret (v:=.tuple #[pval ⟨L.targets,L.data.set i s⟩ ⟨B1,e1⟩ ⟨some ⟨g2,0,none⟩,e2⟩,.int .i64 0]) (by simp[results,Tryz.results77,go_sem,yy]) rfl ?_;refine⟨⟨_,_,rfl,⟨ct,cd,u3,v3,u1,by simpa using v1,u2,v2,hL.ats,fun x hx=>?_⟩,fun g hg _=>⟨A7 r1 (by omega),by rw[List.length_set];exact A7 r2 (by omega)⟩⟩,a2⟩
    rcases List.mem_or_eq_of_mem_set hx with h|h
    · exact hL.strs x h
    · subst h;omega
  · rw[show(⟨L.targets,L.data⟩:Pn).find k= -1 from Pn.find_out hm]at a3;by_cases hfull:24<=L.targets.length
    · have Hw:=hid (show L.set k s=(L,16) by rw[Pn.set,if_neg (by rw[h1];simp),if_neg (by omega),if_neg hm,if_pos hfull]);go_wp2_with fail
      refine a3.mono ?_;rintro e w3 ⟨rfl,rfl⟩;go_wp2_with fail
      rw[Hw.out];have zz:Blk ((w3.setCell ⟨w.heap.size+1,0,none⟩ (.slice A1 L.targets.length c1)).setCell ⟨w.heap.size+1,1,none⟩ (.slice A2 L.data.length c2)) (w.heap.size+1) 63 #[.slice A1 L.targets.length c1,.slice A2 L.data.length c2]:=by
       have:=(z1.set 0 (.slice A1 L.targets.length c1)).set 1 (.slice A2 L.data.length c2);simpa using this
      have yy:=blk2 zz;have a2:=(b1.setCell (p:=⟨w.heap.size+1,0,none⟩) (by simp) (.slice A1 L.targets.length c1)).setCell (p:=⟨w.heap.size+1,1,none⟩) (by simp) (.slice A2 L.data.length c2);exact retPn (hL.below a2) (fun _ _ h=>h) a2 (by simp[results,Tryz.results77,go_sem,yy]) rfl
    · exact absurd hcase (by simp[hm,hfull])
namespace Pn
theorem fit_len {L:Pn}(h:L.Fit):L.targets.length=L.data.length/\L.targets.length<=24:=⟨h.1,h.2.1⟩
end Pn
theorem Oo (L:Pn)(p q:Pl)(w:World)(hL:IsPn w L p q)(ht:L.targets.length<=9223372036854775807)(hd:L.data.length<=9223372036854775807)(h:L.targets.length≠L.data.length\/24<L.targets.length):
 CR 141 #[pval L p q] w (.bool L.fit):=by
 have Hf:=hid (Pn.fit_no (L:=L) (fun hf=>by have:=Pn.fit_len hf;omega));obtain⟨A1,c1⟩:=p;obtain⟨A2,c2⟩:=q;have b0:=Yz (W:=w) (.cells #[.slice A1 L.targets.length c1,.slice A2 L.data.length c2] 63);by_cases h1:L.targets.length=L.data.length
 · have n1:((L.targets.length:Int) !=L.data.length)=false:=by simp;omega
   have n2:24<L.targets.length:=by omega
   clear h h1;go_enter Tryz.func141,Tryz.ntmps141;go_wp2_with fail
   go_ret
   exact⟨by rw[Hf.out];rfl,b0⟩
 · have n1:((L.targets.length:Int) !=L.data.length)=true:=by simp;omega
   clear h h1;go_enter Tryz.func141,Tryz.ntmps141;go_wp2_with fail
   go_ret
   exact⟨by rw[Hf.out];rfl,b0⟩
theorem Oq (L:Pn)(p q:Pl)(w:World)(hL:IsPn w L p q)(h1:L.targets.length=L.data.length)(h2:L.targets.length<=24):
 CR 141 #[pval L p q] w (.bool L.fit):=by
 have c1:=fun(W:World)(hb:Below w.heap.size w W)=>hL.targets.below hb
 have c2:=fun(W:World)(hb:Below w.heap.size w W)=>hL.data.below hb
 have a5:=hL.strs;have a4:=fun(W:World)(hb:Below w.heap.size w W)(k:Int)=>EQ L p q k W (hL.below hb) (by omega)
 clear hL;obtain⟨A1,a1⟩:=p;obtain⟨A2,a2⟩:=q;simp only at c1 c2;have b0:=Yz (W:=w) (.cells #[.slice A1 L.targets.length a1,.slice A2 L.data.length a2] 63);have x0:=apc2 (Blk.new w 63) L A1 a1 A2 a2;have n1:((L.targets.length:Int) !=L.data.length)=false:=by simp;omega
 have H1:=hid h1;have H2:=hid h2;clear h1;go_enter Tryz.func141,Tryz.ntmps141;go_wp2_with fail
 go_loopw [3] (fun x W=>∃i:Nat,i<=L.targets.length/\x=.int .i64 i/\Hid (∀j (hj:j<L.targets.length)(hj':j<L.data.length),j<i->(sectorOk L.targets[j]=true/\L.find L.targets[j]=j)/\L.data[j].length=64)/\
  Blk W w.heap.size 63 #[.slice A1 L.targets.length a1,.slice A2 L.data.length a2]/\Below w.heap.size w W) (fun x _=>L.targets.length-(intOf x).toNat)
 case atStart=>exact⟨0,Nat.zero_le _,rfl,hid (fun j hj hj' h0=>by omega),x0,b0⟩
 case round=>
  clear x0 b0;obtain⟨i,hi,rfl,hok,hx,hb⟩:=hrel;have k0:=blk2 hx;have K0:=ext2 hx;by_cases hlt:i<L.targets.length
  · have a3:i<L.data.length:=by have:=H1.out;omega
    obtain⟨pb,po,hpa,hcell⟩:=(c1 _ hb).int hlt;obtain⟨pb',po',hpa',hcell'⟩:=(c2 _ hb).str a3;subst hpa;subst hpa';have y0:=hcell i hlt;have y1:=hcell' i a3;have Y0:=fun e:Ext wr=>e.cell y0
    have Y1:=fun e:Ext wr=>e.cell y1
    have a6:=a5 _ (List.getElem_mem a3);clear hcell hcell';have s1:=fun e:Ext wr=>ER L.targets[i] e.world
    have s2:=fun e:Ext wr=>a4 e.world (bt hb e.below) L.targets[i]
    cases e1:sectorOk L.targets[i]with
    |false=>
     have Hf:=hid (Pn.fit_no (L:=L) (fun hf=>by have:=(hf.2.2.1 i hlt).1;rw[e1]at this;cases this));rw[e1]at s1;clear e1;go_wp2_with fail
     refine Az mixed (by kernel_rfl) ?_
     repeat (go_big_quiet_step ((first|(go_at_call 90;with_reducible exact An (s1 _))|(go_at_call 91;with_reducible exact An (s2 _)))))
     refine wpQuiet_nil ?_;rintro w2 ⟨pq_,hpq_⟩;have a0:=pq_.below;rw[<-hpq_]at a0;clear hpq_ pq_;go_wp2_with fail
     go_ret
     exact⟨by rw[Hf.out];rfl,bt hb a0⟩
    |true=>
     rw[e1]at s1;have E1:=hid e1;clear e1;by_cases e2:L.find L.targets[i]=i
     · have m2:((L.find L.targets[i]:Int) !=i)=false:=by simpa using e2
       have E2:=hid e2;clear e2;by_cases e3:L.data[i].length=64
       · have m3:((L.data[i].length:Int) !=64)=false:=by simp;omega
         have E3:=hid e3;clear e3;generalize L.find L.targets[i]=f at s2 m2;go_wp2_with fail
         refine Az mixed (by kernel_rfl) ?_
         repeat (go_big_quiet_step ((first|(go_at_call 90;with_reducible exact An (s1 _))|(go_at_call 91;with_reducible exact An (s2 _)))))
         refine wpQuiet_nil ?_;rintro w2 ⟨pq_,hpq_⟩;have a0:=pq_.below;rw[<-hpq_]at a0;clear hpq_ pq_;go_wp2_with fail
         go_roundw
         case rel=>exact⟨i+1,by omega,by go_num,hid (fun j hj hj' hji=>by
          rcases Nat.lt_or_ge j i with h'|h'
          · exact hok.out j hj hj' h'
          · obtain rfl:j=i:=by omega
            exact⟨⟨E1.out,E2.out⟩,E3.out⟩),hx.bl a0,bt hb a0⟩
         case measure=>simp[intOf];omega
       · have Hf:=hid (Pn.fit_no (L:=L) (fun hf=>e3 (hf.2.2.2 i a3)));have m3:((L.data[i].length:Int) !=64)=true:=by simp;omega
         clear e3;go_wp2_with fail
         refine Az mixed (by kernel_rfl) ?_
         repeat (go_big_quiet_step ((first|(go_at_call 90;with_reducible exact An (s1 _))|(go_at_call 91;with_reducible exact An (s2 _)))))
         refine wpQuiet_nil ?_;rintro w2 ⟨pq_,hpq_⟩;have a0:=pq_.below;rw[<-hpq_]at a0;clear hpq_ pq_;go_wp2_with fail
         go_ret
         exact⟨by rw[Hf.out];rfl,bt hb a0⟩
     · have Hf:=hid (Pn.fit_no (L:=L) (fun hf=>e2 (hf.2.2.1 i hlt).2));have m2:((L.find L.targets[i]:Int) !=i)=true:=by simpa using e2
       clear e2;go_wp2_with fail
       refine Az mixed (by kernel_rfl) ?_
       repeat (go_big_quiet_step ((first|(go_at_call 90;with_reducible exact An (s1 _))|(go_at_call 91;with_reducible exact An (s2 _)))))
       refine wpQuiet_nil ?_;rintro w2 ⟨pq_,hpq_⟩;have a0:=pq_.below;rw[<-hpq_]at a0;clear hpq_ pq_;go_wp2_with fail
       go_ret
       exact⟨by rw[Hf.out];rfl,bt hb a0⟩
  · have Hf:=hid (Pn.fit_iff.2 (show L.Fit from⟨H1.out,H2.out,fun j hj=>(hok.out j hj (by have:=H1.out;omega) (by omega)).1,fun j hj=>(hok.out j (by have:=H1.out;omega) hj (by have:=H1.out;omega)).2⟩));clear hok K0;go_wp2_with fail
    go_ret
    exact⟨by rw[Hf.out];rfl,hb⟩
theorem Ib (L:Pn)(p q:Pl)(w:World)(hL:IsPn w L p q):
 CR 141 #[pval L p q] w (.bool L.fit):=by
 by_cases h:L.targets.length≠L.data.length\/24<L.targets.length
 · exact Oo L p q w hL (Nat.le_trans hL.pc hL.pm) (Nat.le_trans hL.qc hL.qm) h
 · exact Oq L p q w hL (by omega) (by omega)
end
section
open Go.RowKit Go.Shelf
attribute [local go_sem] Ad Af Ag Ab Ai Ah
def SetGrown (w1 W:World)(g:Nat)(L:Pn)(k:Int)(s:List UInt8)(v:Value):Prop:=∃gg1 cap1 gg2 cap2,v=.pointer (some ⟨g,0,none⟩)/\Blk W g 63 #[.slice (some ⟨gg1,0,none⟩) (L.targets.length+1) cap1,.slice (some ⟨gg2,0,none⟩) (L.data.length+1) cap2]/\
 W.ownsRow w1.heap.size 3 1 (.slice (some ⟨gg1,0,none⟩) (L.targets.length+1) cap1) (L.targets.length+1) (intCells L.targets++[.int .i64 k])/\W.ownsRow w1.heap.size 9 1 (.slice (some ⟨gg2,0,none⟩) (L.data.length+1) cap2) (L.data.length+1) (strCells L.data++[.string (bs s)])/\Below w1.heap.size w1 W
theorem EZ {w1 W2:World}{L:Pn}{k:Int}{s:List UInt8}{g gg1 gg2 cap1 cap2:Nat}{c0 c1:Value}(hg:w1.heap.size<=g)
 (O1:W2.ownsRow w1.heap.size 3 1 (.slice (some ⟨gg1,0,none⟩) (L.targets.length+1) cap1) (L.targets.length+1) (intCells L.targets++[.int .i64 k])) (O2:W2.ownsRow w1.heap.size 9 1 (.slice (some ⟨gg2,0,none⟩) (L.data.length+1) cap2) (L.data.length+1) (strCells L.data++[.string (bs s)]))
 (QC:Blk W2 g 63 #[c0,c1]) (BW2:Below w1.heap.size w1 W2):
 SetGrown w1 ((W2.setCell ⟨g,0,none⟩ (.slice (some ⟨gg1,0,none⟩) (L.targets.length+1) cap1)).setCell ⟨g,1,none⟩ (.slice (some ⟨gg2,0,none⟩) (L.data.length+1) cap2)) g L k s (.pointer (some ⟨g,0,none⟩)):=by
 have P1:=ownsRow_setCell_other (ownsRow_setCell_other O1 (a:=⟨g,0,none⟩) (Bm O1 QC (by decide)).symm (.slice (some ⟨gg1,0,none⟩) (L.targets.length+1) cap1)) (a:=⟨g,1,none⟩) (Bm O1 QC (by decide)).symm (.slice (some ⟨gg2,0,none⟩) (L.data.length+1) cap2);have P2:=ownsRow_setCell_other (ownsRow_setCell_other O2 (a:=⟨g,0,none⟩) (Bm O2 QC (by decide)).symm (.slice (some ⟨gg1,0,none⟩) (L.targets.length+1) cap1)) (a:=⟨g,1,none⟩) (Bm O2 QC (by decide)).symm (.slice (some ⟨gg2,0,none⟩) (L.data.length+1) cap2);refine⟨gg1,cap1,gg2,cap2,rfl,?_,P1,P2,(BW2.setCell (p:=⟨g,0,none⟩) hg _).setCell (p:=⟨g,1,none⟩) hg _⟩;have:=(QC.set 0 (.slice (some ⟨gg1,0,none⟩) (L.targets.length+1) cap1)).set 1 (.slice (some ⟨gg2,0,none⟩) (L.data.length+1) cap2);simpa using this
structure SetSt (w1 W:World) (g:Nat) (L:Pn) (k:Int) (s:List UInt8) (v1 v2:Value) (n1 n2:Nat) (xs1 xs2:List Value) (c1 c2:Value):Prop where
 r1:W.ownsRow w1.heap.size 3 1 v1 n1 xs1
 r2:W.ownsRow w1.heap.size 9 1 v2 n2 xs2
 qb:Blk W g 63 #[c1,c2]
 bw:Below w1.heap.size w1 W
section
variable {w1 W W':World} {g:Nat} {L:Pn} {k:Int} {s:List UInt8} {v1 v2:Value} {n1 n2:Nat} {xs1 xs2:List Value} {c1 c2:Value}
theorem SetSt.alloc (h:SetSt w1 W g L k s v1 v2 n1 n2 xs1 xs2 c1 c2)(o:Obj):SetSt w1 (W.alloc o) g L k s v1 v2 n1 n2 xs1 xs2 c1 c2:=⟨h.r1.alloc o,h.r2.alloc o,h.qb.alloc o,h.bw.alloc h.bw.size o⟩
theorem SetSt.grow1 (h:SetSt w1 W g L k s v1 v2 n1 n2 xs1 xs2 c1 c2)(gr:W.grownBy W' v1.ownBlock){v:Value}{n:Nat}{xs:List Value}(h':W'.ownsRow w1.heap.size 3 1 v n xs):SetSt w1 W' g L k s v v2 n n2 xs xs2 c1 c2:=
 ⟨h',h.r2.kept gr (Dt h.r2 h.r1 (by decide)),h.qb.kept gr (Bm h.r1 h.qb (by decide)),h.bw.trans (AW h.r1 gr h.bw.size)⟩
theorem SetSt.grow2 (h:SetSt w1 W g L k s v1 v2 n1 n2 xs1 xs2 c1 c2)(gr:W.grownBy W' v2.ownBlock){v:Value}{n:Nat}{xs:List Value}(h':W'.ownsRow w1.heap.size 9 1 v n xs):SetSt w1 W' g L k s v1 v n1 n xs1 xs c1 c2:=
 ⟨h.r1.kept gr (Dt h.r1 h.r2 (by decide)),h',h.qb.kept gr (Bm h.r2 h.qb (by decide)),h.bw.trans (AW h.r2 gr h.bw.size)⟩
end
theorem Px {w w1 W:World}{L:Pn}{p q:Pl}{k:Int}{s:List UInt8}{gg1 gg2 cap1 cap2:Nat}{u v:Value}(hL:IsPn w L p q)(hk: -9223372036854775808<=k/\k<=9223372036854775807)(hs:s.length=64)(hlt:w.heap.size+1<w1.heap.size)(hbw:Below w.heap.size w w1)
 (z:Blk W (w.heap.size+1) 63 #[u,v]) (P1:W.ownsRow w1.heap.size 3 1 (.slice (some ⟨gg1,0,none⟩) (L.targets.length+1) cap1) (L.targets.length+1) (intCells L.targets++[.int .i64 k])) (P2:W.ownsRow w1.heap.size 9 1 (.slice (some ⟨gg2,0,none⟩) (L.data.length+1) cap2) (L.data.length+1) (strCells L.data++[.string (bs s)]))
 (BW:Below w1.heap.size w1 W):
 IsPn ((W.setCell ⟨w.heap.size+1,0,none⟩ (.slice (some ⟨gg1,0,none⟩) (L.targets.length+1) cap1)).setCell ⟨w.heap.size+1,1,none⟩ (.slice (some ⟨gg2,0,none⟩) (L.data.length+1) cap2)) ⟨L.targets++[k],L.data++[s]⟩ ⟨some ⟨gg1,0,none⟩,cap1⟩ ⟨some ⟨gg2,0,none⟩,cap2⟩/\
 Blk ((W.setCell ⟨w.heap.size+1,0,none⟩ (.slice (some ⟨gg1,0,none⟩) (L.targets.length+1) cap1)).setCell ⟨w.heap.size+1,1,none⟩ (.slice (some ⟨gg2,0,none⟩) (L.data.length+1) cap2)) (w.heap.size+1) 63 #[(.slice (some ⟨gg1,0,none⟩) (L.targets.length+1) cap1),(.slice (some ⟨gg2,0,none⟩) (L.data.length+1) cap2)]/\
 Below w.heap.size w ((W.setCell ⟨w.heap.size+1,0,none⟩ (.slice (some ⟨gg1,0,none⟩) (L.targets.length+1) cap1)).setCell ⟨w.heap.size+1,1,none⟩ (.slice (some ⟨gg2,0,none⟩) (L.data.length+1) cap2))/\
 ∀g,g<w.heap.size->PnOff g L p q->PnOff g ⟨L.targets++[k],L.data++[s]⟩ ⟨some ⟨gg1,0,none⟩,cap1⟩ ⟨some ⟨gg2,0,none⟩,cap2⟩:=by
 obtain⟨_,_,s1,u1,u2,u3⟩:=Aw P1;injection s1 with s1 _ s1'
 subst s1;subst s1'
 obtain⟨_,_,s2,v1,v2,v3⟩:=Aw P2;injection s2 with s2 _ s2'
 subst s2;subst s2'
 have c1:=((Cells.of_own P1).setCell (p:=⟨w.heap.size+1,0,none⟩) (AF P1 hlt) (.slice (some ⟨gg1,0,none⟩) (L.targets.length+1) cap1)).setCell (p:=⟨w.heap.size+1,1,none⟩) (AF P1 hlt) (.slice (some ⟨gg2,0,none⟩) (L.data.length+1) cap2);have c2:=((Cells.of_own P2).setCell (p:=⟨w.heap.size+1,0,none⟩) (AF P2 hlt) (.slice (some ⟨gg1,0,none⟩) (L.targets.length+1) cap1)).setCell (p:=⟨w.heap.size+1,1,none⟩) (AF P2 hlt) (.slice (some ⟨gg2,0,none⟩) (L.data.length+1) cap2);rw[show intCells L.targets++[Value.int .i64 k]=intCells (L.targets++[k]) by simp[intCells]]at c1;rw[show strCells L.data++[Value.string (bs s)]=strCells (L.data++[s]) by simp[strCells]]at c2;have bb:=hbw.trans (BW.mono (by omega));refine⟨⟨c1,c2,u3,v3,by simpa using u1,by simpa using v1,u2,v2,fun x hx=>?_,fun x hx=>?_⟩,?_,(bb.setCell (p:=⟨w.heap.size+1,0,none⟩) (by simp) (.slice (some ⟨gg1,0,none⟩) (L.targets.length+1) cap1)).setCell (p:=⟨w.heap.size+1,1,none⟩) (by simp) (.slice (some ⟨gg2,0,none⟩) (L.data.length+1) cap2),fun g hg _=>⟨?_,?_⟩⟩
 · rcases List.mem_append.1 hx with h|h
   · exact hL.ats x h
   · simp at h;subst h;exact hk
 · rcases List.mem_append.1 hx with h|h
   · exact hL.strs x h
   · simp at h;subst h;omega
 · have:=(z.set 0 (.slice (some ⟨gg1,0,none⟩) (L.targets.length+1) cap1)).set 1 (.slice (some ⟨gg2,0,none⟩) (L.data.length+1) cap2);simpa using this
 · have:=A7 (g:=g) P1 (by omega);simpa using this
 · have:=A7 (g:=g) P2 (by omega);simpa using this
theorem M7 (L:Pn)(p q:Pl)(w:World)(hL:IsPn w L p q)(k:Int)(s:List UInt8)(h1:sectorOk k=true)(h2:s.length=64)(ht:L.targets.length<=1000000)(hd:L.data.length<=1000000)(he:L.targets.length=L.data.length)(hk: -9223372036854775808<=k/\k<=9223372036854775807)(hm:k∉L.targets)(hfull:¬24<=L.targets.length):
 CX 77 #[pval L p q,.int .i64 k,.string (bs s)] w (RetPn w.heap.size L p q (L.set k s)):=by
 have ho:=fun W=>CJ k W
 rw[h1]at ho;have n0:((s.length:Int) !=64)=false:=by simp;omega
 have a6:=fun(W:World)(hb:Below w.heap.size w W)=>FJ p.a L.targets p.c W (hL.targets.below hb) (by omega) hL.pn
 have a7:=fun(W:World)(hb:Below w.heap.size w W)=>FK q.a L.data q.c W (hL.data.below hb) (by omega) hL.qn
 obtain⟨A1,c1⟩:=p;obtain⟨A2,c2⟩:=q;simp only at a6 a7;have x0:=(apc2 (Blk.new w 63) L A1 c1 A2 c2).alloc (.cells #[.slice none 0 0,.slice none 0 0] 63);have b0:=Aq w (.cells #[.slice A1 L.targets.length c1,.slice A2 L.data.length c2] 63) (.cells #[.slice none 0 0,.slice none 0 0] 63);have z0:=Blk.new (w.alloc (.cells #[.slice A1 L.targets.length c1,.slice A2 L.data.length c2] 63)) 63 #[.slice none 0 0,.slice none 0 0];simp only[Ys]at z0;clear he;have a0:=hid (show((w.alloc (.cells #[.slice A1 L.targets.length c1,.slice A2 L.data.length c2] 63)).alloc (.cells #[.slice none 0 0,.slice none 0 0] 63)).heap.size=w.heap.size+2 by simp);go_enter Tryz.func77,Tryz.ntmps77;go_wp2_with fail
 refine(ho _).mono ?_;rintro e w1 ⟨rfl,rfl⟩;go_upto_region 5 with fail
 generalize (w.alloc (.cells #[.slice A1 L.targets.length c1,.slice A2 L.data.length c2] 63)).alloc (.cells #[.slice none 0 0,.slice none 0 0] 63)=w1 at*;have y0:=blk2 x0;have s0:(w1.drew.cell? ⟨w.heap.size,0,none⟩=some (.slice A1 L.targets.length c1)/\w1.drew.cell? ⟨w.heap.size,1,none⟩=some (.slice A2 L.data.length c2))/\Below w.heap.size w w1.drew/\Below w1.heap.size w1 w1.drew:=⟨y0,b0.drew,(Below.refl _ _).drew⟩
 go_cut [8] (fun s8 wx=>SetMade w1 wx L s8)
 case first=>
  go_region_held3 (fun W=>(W.cell? ⟨w.heap.size,0,none⟩=some (.slice A1 L.targets.length c1)/\W.cell? ⟨w.heap.size,1,none⟩=some (.slice A2 L.data.length c2))/\Below w.heap.size w W/\Below w1.heap.size w1 W)
   (first|exact s0|exact⟨y0,b0,Below.refl _ _⟩|exact Ac (s0) hbl1|exact Ac (s0) hbl2|exact Ac (s0) (Yz _)|exact Ac (Ac (s0) hbl1) hbl2|exact Ac (Ac (s0) hbl2) hbl1|exact Ac (Ac (s0) hbl1) (Yz _)|exact Ac (Ac (s0) (Yz _)) hbl1|exact Ac (Ac (s0) hbl2) (Yz _)|exact Ac (Ac (s0) (Yz _)) hbl2|exact Ac (Ac (Ac (s0) hbl1) hbl2) (Yz _)|exact Ac (Ac (Ac (s0) hbl1) (Yz _)) hbl2|exact Ac (Ac (Ac (s0) (Yz _)) hbl1) hbl2|exact Ac (Ac (Ac (s0) hbl2) hbl1) (Yz _)|exact Ac (Ac (Ac (s0) hbl2) (Yz _)) hbl1|exact Ac (Ac (Ac (s0) (Yz _)) hbl2) hbl1|exact BL (Ac (Ac (Ac (s0) hbl1) (Yz _)) hbl2) (by first|(have z:w1.heap.size<=W1.heap.size:=hbl1.size;have z0:=a0.out;omega)|(have z:w1.heap.size<=W2.heap.size:=hbl2.size;have z0:=a0.out;omega)|(have z:w1.drew.heap.size=w1.heap.size:=rfl;have z0:=a0.out;omega)) (by first|(have z:w1.heap.size<=W1.heap.size:=hbl1.size;have z0:=a0.out;omega)|(have z:w1.heap.size<=W2.heap.size:=hbl2.size;have z0:=a0.out;omega)|(have z:w1.drew.heap.size=w1.heap.size:=rfl;have z0:=a0.out;omega)) (by first|(have z:w1.heap.size<=W1.heap.size:=hbl1.size;have z0:=a0.out;omega)|(have z:w1.heap.size<=W2.heap.size:=hbl2.size;have z0:=a0.out;omega)|(have z:w1.drew.heap.size=w1.heap.size:=rfl;have z0:=a0.out;omega))|exact BL (Ac (Ac (Ac (s0) (Yz _)) hbl1) hbl2) (by first|(have z:w1.heap.size<=W1.heap.size:=hbl1.size;have z0:=a0.out;omega)|(have z:w1.heap.size<=W2.heap.size:=hbl2.size;have z0:=a0.out;omega)|(have z:w1.drew.heap.size=w1.heap.size:=rfl;have z0:=a0.out;omega)) (by first|(have z:w1.heap.size<=W1.heap.size:=hbl1.size;have z0:=a0.out;omega)|(have z:w1.heap.size<=W2.heap.size:=hbl2.size;have z0:=a0.out;omega)|(have z:w1.drew.heap.size=w1.heap.size:=rfl;have z0:=a0.out;omega)) (by first|(have z:w1.heap.size<=W1.heap.size:=hbl1.size;have z0:=a0.out;omega)|(have z:w1.heap.size<=W2.heap.size:=hbl2.size;have z0:=a0.out;omega)|(have z:w1.drew.heap.size=w1.heap.size:=rfl;have z0:=a0.out;omega))|exact BL (Ac (Ac (Ac (s0) hbl2) (Yz _)) hbl1) (by first|(have z:w1.heap.size<=W1.heap.size:=hbl1.size;have z0:=a0.out;omega)|(have z:w1.heap.size<=W2.heap.size:=hbl2.size;have z0:=a0.out;omega)|(have z:w1.drew.heap.size=w1.heap.size:=rfl;have z0:=a0.out;omega)) (by first|(have z:w1.heap.size<=W1.heap.size:=hbl1.size;have z0:=a0.out;omega)|(have z:w1.heap.size<=W2.heap.size:=hbl2.size;have z0:=a0.out;omega)|(have z:w1.drew.heap.size=w1.heap.size:=rfl;have z0:=a0.out;omega)) (by first|(have z:w1.heap.size<=W1.heap.size:=hbl1.size;have z0:=a0.out;omega)|(have z:w1.heap.size<=W2.heap.size:=hbl2.size;have z0:=a0.out;omega)|(have z:w1.drew.heap.size=w1.heap.size:=rfl;have z0:=a0.out;omega))|exact BL (Ac (Ac (Ac (s0) (Yz _)) hbl2) hbl1) (by first|(have z:w1.heap.size<=W1.heap.size:=hbl1.size;have z0:=a0.out;omega)|(have z:w1.heap.size<=W2.heap.size:=hbl2.size;have z0:=a0.out;omega)|(have z:w1.drew.heap.size=w1.heap.size:=rfl;have z0:=a0.out;omega)) (by first|(have z:w1.heap.size<=W1.heap.size:=hbl1.size;have z0:=a0.out;omega)|(have z:w1.heap.size<=W2.heap.size:=hbl2.size;have z0:=a0.out;omega)|(have z:w1.drew.heap.size=w1.heap.size:=rfl;have z0:=a0.out;omega)) (by first|(have z:w1.heap.size<=W1.heap.size:=hbl1.size;have z0:=a0.out;omega)|(have z:w1.heap.size<=W2.heap.size:=hbl2.size;have z0:=a0.out;omega)|(have z:w1.drew.heap.size=w1.heap.size:=rfl;have z0:=a0.out;omega)))
   (first|(go_at_call 115;refine(a6 _ (by first|exact s0.2.1|exact(Ac (s0) hbl2).2.1|exact(Ac (s0) (Yz _)).2.1|exact(Ac (Ac (s0) hbl2) (Yz _)).2.1|exact(Ac (Ac (s0) (Yz _)) hbl2).2.1)).mono ?_;rintro e W1 ⟨v1,rfl,hown1,hbl1⟩;obtain⟨B1,e1,rfl,f1,g1,i1⟩:=Aw hown1;first|(have a3:Blk W1 w1.heap.size 63 #[.slice none 0 0,.slice none 0 0]:=(Blk.new w1.drew 63 #[.slice none 0 0,.slice none 0 0]).below hbl1 (Blk.new w1.drew 63 #[.slice none 0 0,.slice none 0 0]).lt;have ab:=blk2 a3;have ad:=a3.frozen)|(have a3:=(Blk.new W2 63 #[.slice none 0 0,.slice none 0 0]).below hbl1 (Blk.new W2 63 #[.slice none 0 0,.slice none 0 0]).lt;have ab:=blk2 a3;have ad:=a3.frozen)|(have a3:=qb2.bl hbl1;have ab:=blk2 a3;have ad:=a3.frozen)|skip)|(go_at_call 116;refine(a7 _ (by first|exact s0.2.1|exact(Ac (s0) hbl1).2.1|exact(Ac (s0) (Yz _)).2.1|exact(Ac (Ac (s0) hbl1) (Yz _)).2.1|exact(Ac (Ac (s0) (Yz _)) hbl1).2.1)).mono ?_;rintro e W2 ⟨v2,rfl,hown2,hbl2⟩;obtain⟨B2,e2,rfl,f2,g2,i2⟩:=Aw hown2;first|(have qb2:Blk W2 w1.heap.size 63 #[.slice none 0 0,.slice none 0 0]:=(Blk.new w1.drew 63 #[.slice none 0 0,.slice none 0 0]).below hbl2 (Blk.new w1.drew 63 #[.slice none 0 0,.slice none 0 0]).lt;have ac:=blk2 qb2;have ae:=qb2.frozen)|(have qb2:=(Blk.new W1 63 #[.slice none 0 0,.slice none 0 0]).below hbl2 (Blk.new W1 63 #[.slice none 0 0,.slice none 0 0]).lt;have ac:=blk2 qb2;have ae:=qb2.frozen)|(have qb2:=a3.bl hbl2;have ac:=blk2 qb2;have ae:=qb2.frozen)|skip))
  · go_wp2_with fail
    go_meet
    have z1:w1.heap.size<=W1.heap.size:=hbl1.size;have z2:W1.heap.size<=W2.heap.size:=hbl2.size;exact⟨W2.heap.size,B1,e1,B2,e2,rfl,by omega,Blk.new W2 _ _,AB (AB hown1 hbl2) (Yz _),Bc (AB hown2 (Yz _)) z1,(Ac (Ac (s0) hbl1) hbl2).2.2.alloc (by omega) _⟩
  · go_wp2_with fail
    go_meet
    have z1:w1.heap.size<=W1.heap.size:=hbl1.size;have qb:Blk ((W2.setCell ⟨W1.heap.size,0,none⟩ (.slice B1 L.targets.length e1)).setCell ⟨W1.heap.size,1,none⟩ (.slice B2 L.data.length e2)) W1.heap.size 63 #[.slice B1 L.targets.length e1,.slice B2 L.data.length e2]:=by
     have:=(qb2.set 0 (.slice B1 L.targets.length e1)).set 1 (.slice B2 L.data.length e2);simpa using this
    have r1:=AB (AB hown1 (Yz (.cells #[.slice none 0 0,.slice none 0 0] 63))) hbl2;have nb:Value.ownBlock (.slice B1 L.targets.length e1)≠some W1.heap.size:=fun e=>by have:=(hown1.lt _ e).2;omega
    have r2:=Bc (base:=w1.heap.size) (ownsRow_setCell_below (ownsRow_setCell_below hown2 (a:=⟨W1.heap.size,0,none⟩) (by simp) (.slice B1 L.targets.length e1)) (a:=⟨W1.heap.size,1,none⟩) (by simp) (.slice B2 L.data.length e2)) (by simp;omega);exact⟨W1.heap.size,B1,e1,B2,e2,rfl,z1,qb,ownsRow_setCell_other (ownsRow_setCell_other r1 (a:=⟨W1.heap.size,0,none⟩) nb (.slice B1 L.targets.length e1)) (a:=⟨W1.heap.size,1,none⟩) nb (.slice B2 L.data.length e2),r2,
     ((Ac (Ac (Ac (s0) hbl1) (Yz _)) hbl2).2.2.setCell (p:=⟨W1.heap.size,0,none⟩) z1 _).setCell (p:=⟨W1.heap.size,1,none⟩) z1 _⟩
  · go_wp2_with fail
    go_meet
    have z1:w1.heap.size+1<=W1.heap.size:=by have:=hbl1.size;simpa using this
    have qb:Blk ((W2.setCell ⟨w1.heap.size,0,none⟩ (.slice B1 L.targets.length e1)).setCell ⟨w1.heap.size,1,none⟩ (.slice B2 L.data.length e2)) w1.heap.size 63 #[.slice B1 L.targets.length e1,.slice B2 L.data.length e2]:=by
     have:=(qb2.set 0 (.slice B1 L.targets.length e1)).set 1 (.slice B2 L.data.length e2);simpa using this
    have r1:=Bc (base:=w1.heap.size) (ownsRow_setCell_below (ownsRow_setCell_below (AB hown1 hbl2) (a:=⟨w1.heap.size,0,none⟩) (by simp) (.slice B1 L.targets.length e1)) (a:=⟨w1.heap.size,1,none⟩) (by simp) (.slice B2 L.data.length e2)) (by simp);have r2:=Bc (base:=w1.heap.size) (ownsRow_setCell_below (ownsRow_setCell_below hown2 (a:=⟨w1.heap.size,0,none⟩) (by simp;omega) (.slice B1 L.targets.length e1)) (a:=⟨w1.heap.size,1,none⟩) (by simp;omega) (.slice B2 L.data.length e2)) (by omega);exact⟨w1.heap.size,B1,e1,B2,e2,rfl,Nat.le_refl _,qb,r1,r2,
     ((Ac (Ac (Ac (s0) (Yz _)) hbl1) hbl2).2.2.setCell (p:=⟨w1.heap.size,0,none⟩) (Nat.le_refl _) _).setCell (p:=⟨w1.heap.size,1,none⟩) (Nat.le_refl _) _⟩
 case rest=>
  clear a6 a7;obtain⟨g,B1,e1,B2,e2,rfl,hg,qb,r1,r2,hB⟩:=hcut;have hz:=a0.out;have Hz:=hid hz;have x1:=x0.below hB (by omega);have z1:=z0.below hB (by omega);have b1:=b0.trans (hB.mono (by omega):Below w.heap.size w1 wc);clear hz;have a5:=Et A1 L.targets c1 k wc (hL.below b1).targets (by omega) L.data;have k1:=blk2 x1;have k2:=blk2 z1;have k3:=blk2 qb;have k4:=z1.fz;rw[show(⟨L.targets,L.data⟩:Pn).find k= -1 from Pn.find_out hm]at a5;have Hw:=hid (show L.set k s=(⟨L.targets++[k],L.data++[s]⟩,0) by rw[Pn.set,if_neg (by rw[h1];simp),if_neg (by omega),if_neg hm,if_neg hfull]);obtain⟨i1,j1,iz1,iz2,iz3⟩:=info_parts Tryz.infoIntP;obtain⟨i2,j2,jz1,jz2,jz3⟩:=info_parts Tryz.infoStrP;go_wp2_with fail
  refine a5.mono ?_;rintro e w3 ⟨rfl,rfl⟩
  go_upto_block 1 with fail
  go_cut [8] (fun s8 wx=>SetGrown w1 wx g L k s s8)
  case first=>
   go_wp2_with fail
   have s0:w3.drew.cell? ⟨g,0,none⟩=some (.slice B1 L.targets.length e1)/\w3.drew.cell? ⟨g,1,none⟩=some (.slice B2 L.data.length e2):=k3;have a8:Below w3.heap.size w3 w3.drew:=(Below.refl _ _).drew;have aa:∀b,w3.heap.size<=b->some b≠Value.ownBlock (.slice B1 L.targets.length e1):=fun b hb h=>by have:=(r1.lt b h.symm).2;omega
   have st:SetSt w1 w3.drew g L k s (.slice B1 L.targets.length e1) (.slice B2 L.data.length e2) L.targets.length L.data.length (intCells L.targets) (strCells L.data) (.slice B1 L.targets.length e1) (.slice B2 L.data.length e2):=
    ⟨AB r1 a8,AB r2 a8,qb.drew,hB.drew⟩
   clear a5 ho x0 y0 z1 x1 k1 k2 k3 k4;refine AV (S:=fun W=>W.cell? ⟨g,0,none⟩=some (.slice B1 L.targets.length e1)/\W.cell? ⟨g,1,none⟩=some (.slice B2 L.data.length e2)) (late:=fun i=>i==11||i==12||i==13) (by kernel_rfl) ?_;simp only[Nat.reduceAdd,Yn];refine Yt 0 30 (.pointer (some ⟨g,0,none⟩)) rfl (by kernel_rfl) (fun _ _ _ h=>h) (fun W=>by first|rfl|go_simp) ?_;simp only[Yf];refine Yu 1 (some 31) (.slice B1 L.targets.length e1) rfl (by kernel_rfl) (fun _ _ _ h=>h) (fun W hW=>by have h:=hW.1;go_simp) s0 ?_;simp only[Yf];refine Yt 2 32 (.int .i64 k) rfl (by kernel_rfl) (fun _ _ _ h=>h) (fun W=>by first|rfl|go_simp) ?_;simp only[Yf];refine Yt 5 35 (.pointer (some ⟨g,1,none⟩)) rfl (by kernel_rfl) (fun _ _ _ h=>h) (fun W=>by first|rfl|go_simp) ?_;simp only[Yf];refine Yu 6 (some 36) (.slice B2 L.data.length e2) rfl (by kernel_rfl) (fun _ _ _ h=>h) (fun W hW=>by have h:=hW.2;go_simp) s0 ?_;simp only[Yf];refine Yt 7 37 (.string (bs s)) rfl (by kernel_rfl) (fun _ _ _ h=>h) (fun W=>by first|rfl|go_simp) ?_;simp only[Yf];refine Bq (i:=3) (k:=8) (by kernel_rfl) rfl rfl rfl rfl (fun K hK=>?_) (fun K hK=>?_)
   · refine AJ (v:=.slice (some ⟨(w3.drew).heap.size,0,none⟩) 1 1) (w':=(w3.drew).alloc (.cells #[.int .i64 k] 3)) (by go_simp) ?_;show K (Act.put _ (some 33) _) _;refine hK _ _ (fun _ _=>blk2 (st.alloc (.cells #[.int .i64 k] 3)).qb) ?_;simp only[Yf];have a4:=st.alloc (.cells #[.int .i64 k] 3);refine Bq (i:=4) (k:=8) (by kernel_rfl) rfl rfl rfl rfl (fun K hK=>?_) (fun K hK=>?_)
     · refine wp_append_lies _ (.tmp 31) (.tmp 33) 23 rfl w1.heap.size 3 i1 (.int .i64 0) 1 8 Tryz.underlying23 j1 iz1 iz2 iz3 rfl (by decide) _ L.targets.length (intCells L.targets) rfl a4.r1 ⟨w3.drew.heap.size,0,none⟩ 1 1 [.int .i64 k] rfl rfl (World.news_of_block (Blk.new w3.drew 3 #[.int .i64 k])) (by simp[Value.oneCell']) (by omega) (by unfold maxLen;omega) (by omega) a4.bw.size _ rfl ?_;intro gg1 cap1 W1 h1 gr1 _ _;have gr1:(w3.drew.alloc (.cells #[.int .i64 k] 3)).grownBy W1 (Value.slice B1 L.targets.length e1).ownBlock:=gr1;have st2:=a4.grow1 gr1 h1;show K (Act.put _ (some 34) _) _;refine hK _ _ (fun _ _=>blk2 st2.qb) ?_;simp only[Yf];refine Yt 10 40 (.pointer (some ⟨g,0,none⟩)) rfl (by kernel_rfl) (fun _ _ _ h=>h) (fun W=>by first|rfl|go_simp) ?_;simp only[Yf];refine Ak (i:=8) (by kernel_rfl) rfl rfl (fun K hK=>?_);refine AJ (v:=.slice (some ⟨(W1).heap.size,0,none⟩) 1 1) (w':=(W1).alloc (.cells #[.string (bs s)] 9)) (by go_simp) ?_;show K (Act.put _ (some 38) _) _;refine hK _ _ (fun _ _=>blk2 (st2.alloc (.cells #[.string (bs s)] 9)).qb) ?_;simp only[Yf];have a2:=st2.alloc (.cells #[.string (bs s)] 9);refine Ak (i:=9) (by kernel_rfl) rfl rfl (fun K hK=>?_);refine wp_append_lies _ (.tmp 36) (.tmp 38) 61 rfl w1.heap.size 9 i2 (.string ⟨#[]⟩) 1 16 Tryz.underlying61 j2 jz1 jz2 jz3 rfl (by decide) _ L.data.length (strCells L.data) rfl a2.r2 ⟨W1.heap.size,0,none⟩ 1 1 [.string (bs s)] rfl rfl (World.news_of_block (Blk.new W1 9 #[.string (bs s)])) (by simp[Value.oneCell']) (by omega) (by unfold maxLen;omega) (by omega) a2.bw.size _ rfl ?_;intro gg2 cap2 W2 h2 gr2 _ _;have gr2:(W1.alloc (.cells #[.string (bs s)] 9)).grownBy W2 (Value.slice B2 L.data.length e2).ownBlock:=gr2;have a1:=a2.grow2 gr2 h2;show K (Act.put _ (some 39) _) _;refine hK _ _ (fun _ _=>blk2 a1.qb) ?_;simp only[Yf];have u0:=blk2 a1.qb;have uf:=a1.qb.frozen;have qq:=a1.qb.set 0 (Value.slice (some ⟨gg1,0,none⟩) (L.targets.length+1) cap1);have af:=qq.fz;have u1:=blk2 qq;refine Ak (i:=11) (by kernel_rfl) rfl rfl (fun K hK=>?_);refine Ay (w':=(W2).setCell ⟨g,0,none⟩ (Value.slice (some ⟨gg1,0,none⟩) (L.targets.length+1) cap1)) (by go_simp) ?_;show K (Act.put _ none _) _;refine hK _ _ (fun h=>by cases h) ?_
       try simp only[Yf]
       refine Yt 12 41 (.pointer (some ⟨g,1,none⟩)) rfl (by kernel_rfl) (fun _ _ _ h=>h) (fun W=>by first|rfl|go_simp) ?_;simp only[Yf];refine Ak (i:=13) (by kernel_rfl) rfl rfl (fun K hK=>?_);refine Ay (w':=((W2).setCell ⟨g,0,none⟩ (Value.slice (some ⟨gg1,0,none⟩) (L.targets.length+1) cap1)).setCell ⟨g,1,none⟩ (Value.slice (some ⟨gg2,0,none⟩) (L.data.length+1) cap2)) (by go_simp) ?_;show K (Act.put _ none _) _;refine hK _ _ (fun h=>by cases h) ?_
       try simp only[Yf]
       refine AD (by kernel_rfl) ?_ _;go_wp2_with fail
       go_meet
       exact EZ hg a1.r1 a1.r2 a1.qb a1.bw
     · refine AJ (v:=.slice (some ⟨(w3.drew.alloc (.cells #[.int .i64 k] 3)).heap.size,0,none⟩) 1 1) (w':=(w3.drew.alloc (.cells #[.int .i64 k] 3)).alloc (.cells #[.string (bs s)] 9)) (by go_simp) ?_;show K (Act.put _ (some 38) _) _;refine hK _ _ (fun _ _=>blk2 (a4.alloc (.cells #[.string (bs s)] 9)).qb) ?_;simp only[Yf];have st2:=a4.alloc (.cells #[.string (bs s)] 9);refine Ak (i:=4) (by kernel_rfl) rfl rfl (fun K hK=>?_);refine wp_append_lies _ (.tmp 31) (.tmp 33) 23 rfl w1.heap.size 3 i1 (.int .i64 0) 1 8 Tryz.underlying23 j1 iz1 iz2 iz3 rfl (by decide) _ L.targets.length (intCells L.targets) rfl st2.r1 ⟨w3.drew.heap.size,0,none⟩ 1 1 [.int .i64 k] rfl rfl (World.news_of_block ((Blk.new w3.drew 3 #[.int .i64 k]).alloc (.cells #[.string (bs s)] 9))) (by simp[Value.oneCell']) (by omega) (by unfold maxLen;omega) (by omega) st2.bw.size _ rfl ?_;intro gg1 cap1 W1 h1 gr1 _ _;have gr1:((w3.drew.alloc (.cells #[.int .i64 k] 3)).alloc (.cells #[.string (bs s)] 9)).grownBy W1 (Value.slice B1 L.targets.length e1).ownBlock:=gr1;have a2:=st2.grow1 gr1 h1;show K (Act.put _ (some 34) _) _;refine hK _ _ (fun _ _=>blk2 a2.qb) ?_;simp only[Yf];refine Yt 10 40 (.pointer (some ⟨g,0,none⟩)) rfl (by kernel_rfl) (fun _ _ _ h=>h) (fun W=>by first|rfl|go_simp) ?_;simp only[Yf];refine Ak (i:=9) (by kernel_rfl) rfl rfl (fun K hK=>?_);refine wp_append_lies _ (.tmp 36) (.tmp 38) 61 rfl w1.heap.size 9 i2 (.string ⟨#[]⟩) 1 16 Tryz.underlying61 j2 jz1 jz2 jz3 rfl (by decide) _ L.data.length (strCells L.data) rfl a2.r2 ⟨(w3.drew.alloc (.cells #[.int .i64 k] 3)).heap.size,0,none⟩ 1 1 [.string (bs s)] rfl rfl (World.news_of_block ((Blk.new (w3.drew.alloc (.cells #[.int .i64 k] 3)) 9 #[.string (bs s)]).kept gr1 (aa _ (by simp)))) (by simp[Value.oneCell']) (by omega) (by unfold maxLen;omega) (by omega) a2.bw.size _ rfl ?_;intro gg2 cap2 W2 h2 gr2 _ _;have gr2:(W1).grownBy W2 (Value.slice B2 L.data.length e2).ownBlock:=gr2;have a1:=a2.grow2 gr2 h2;show K (Act.put _ (some 39) _) _;refine hK _ _ (fun _ _=>blk2 a1.qb) ?_;simp only[Yf];have u0:=blk2 a1.qb;have uf:=a1.qb.frozen;have qq:=a1.qb.set 0 (Value.slice (some ⟨gg1,0,none⟩) (L.targets.length+1) cap1);have af:=qq.fz;have u1:=blk2 qq;refine Ak (i:=11) (by kernel_rfl) rfl rfl (fun K hK=>?_);refine Ay (w':=(W2).setCell ⟨g,0,none⟩ (Value.slice (some ⟨gg1,0,none⟩) (L.targets.length+1) cap1)) (by go_simp) ?_;show K (Act.put _ none _) _;refine hK _ _ (fun h=>by cases h) ?_
       try simp only[Yf]
       refine Yt 12 41 (.pointer (some ⟨g,1,none⟩)) rfl (by kernel_rfl) (fun _ _ _ h=>h) (fun W=>by first|rfl|go_simp) ?_;simp only[Yf];refine Ak (i:=13) (by kernel_rfl) rfl rfl (fun K hK=>?_);refine Ay (w':=((W2).setCell ⟨g,0,none⟩ (Value.slice (some ⟨gg1,0,none⟩) (L.targets.length+1) cap1)).setCell ⟨g,1,none⟩ (Value.slice (some ⟨gg2,0,none⟩) (L.data.length+1) cap2)) (by go_simp) ?_;show K (Act.put _ none _) _;refine hK _ _ (fun h=>by cases h) ?_
       try simp only[Yf]
       refine AD (by kernel_rfl) ?_ _;go_wp2_with fail
       go_meet
       exact EZ hg a1.r1 a1.r2 a1.qb a1.bw
   · refine AJ (v:=.slice (some ⟨(w3.drew).heap.size,0,none⟩) 1 1) (w':=(w3.drew).alloc (.cells #[.string (bs s)] 9)) (by go_simp) ?_;show K (Act.put _ (some 38) _) _;refine hK _ _ (fun _ _=>blk2 (st.alloc (.cells #[.string (bs s)] 9)).qb) ?_;simp only[Yf];have a4:=st.alloc (.cells #[.string (bs s)] 9);refine Ak (i:=3) (by kernel_rfl) rfl rfl (fun K hK=>?_);refine AJ (v:=.slice (some ⟨(w3.drew.alloc (.cells #[.string (bs s)] 9)).heap.size,0,none⟩) 1 1) (w':=(w3.drew.alloc (.cells #[.string (bs s)] 9)).alloc (.cells #[.int .i64 k] 3)) (by go_simp) ?_;show K (Act.put _ (some 33) _) _;refine hK _ _ (fun _ _=>blk2 (a4.alloc (.cells #[.int .i64 k] 3)).qb) ?_;simp only[Yf];have st2:=a4.alloc (.cells #[.int .i64 k] 3);refine Ak (i:=4) (by kernel_rfl) rfl rfl (fun K hK=>?_);refine wp_append_lies _ (.tmp 31) (.tmp 33) 23 rfl w1.heap.size 3 i1 (.int .i64 0) 1 8 Tryz.underlying23 j1 iz1 iz2 iz3 rfl (by decide) _ L.targets.length (intCells L.targets) rfl st2.r1 ⟨(w3.drew.alloc (.cells #[.string (bs s)] 9)).heap.size,0,none⟩ 1 1 [.int .i64 k] rfl rfl (World.news_of_block (Blk.new (w3.drew.alloc (.cells #[.string (bs s)] 9)) 3 #[.int .i64 k])) (by simp[Value.oneCell']) (by omega) (by unfold maxLen;omega) (by omega) st2.bw.size _ rfl ?_;intro gg1 cap1 W1 h1 gr1 _ _;have gr1:((w3.drew.alloc (.cells #[.string (bs s)] 9)).alloc (.cells #[.int .i64 k] 3)).grownBy W1 (Value.slice B1 L.targets.length e1).ownBlock:=gr1;have a2:=st2.grow1 gr1 h1;show K (Act.put _ (some 34) _) _;refine hK _ _ (fun _ _=>blk2 a2.qb) ?_;simp only[Yf];refine Yt 10 40 (.pointer (some ⟨g,0,none⟩)) rfl (by kernel_rfl) (fun _ _ _ h=>h) (fun W=>by first|rfl|go_simp) ?_;simp only[Yf];refine Ak (i:=9) (by kernel_rfl) rfl rfl (fun K hK=>?_);refine wp_append_lies _ (.tmp 36) (.tmp 38) 61 rfl w1.heap.size 9 i2 (.string ⟨#[]⟩) 1 16 Tryz.underlying61 j2 jz1 jz2 jz3 rfl (by decide) _ L.data.length (strCells L.data) rfl a2.r2 ⟨w3.drew.heap.size,0,none⟩ 1 1 [.string (bs s)] rfl rfl (World.news_of_block (((Blk.new w3.drew 9 #[.string (bs s)]).alloc (.cells #[.int .i64 k] 3)).kept gr1 (aa _ (Nat.le_refl _)))) (by simp[Value.oneCell']) (by omega) (by unfold maxLen;omega) (by omega) a2.bw.size _ rfl ?_;intro gg2 cap2 W2 h2 gr2 _ _;have gr2:(W1).grownBy W2 (Value.slice B2 L.data.length e2).ownBlock:=gr2;have a1:=a2.grow2 gr2 h2;show K (Act.put _ (some 39) _) _;refine hK _ _ (fun _ _=>blk2 a1.qb) ?_;simp only[Yf];have u0:=blk2 a1.qb;have uf:=a1.qb.frozen;have qq:=a1.qb.set 0 (Value.slice (some ⟨gg1,0,none⟩) (L.targets.length+1) cap1);have af:=qq.fz;have u1:=blk2 qq;refine Ak (i:=11) (by kernel_rfl) rfl rfl (fun K hK=>?_);refine Ay (w':=(W2).setCell ⟨g,0,none⟩ (Value.slice (some ⟨gg1,0,none⟩) (L.targets.length+1) cap1)) (by go_simp) ?_;show K (Act.put _ none _) _;refine hK _ _ (fun h=>by cases h) ?_
     try simp only[Yf]
     refine Yt 12 41 (.pointer (some ⟨g,1,none⟩)) rfl (by kernel_rfl) (fun _ _ _ h=>h) (fun W=>by first|rfl|go_simp) ?_;simp only[Yf];refine Ak (i:=13) (by kernel_rfl) rfl rfl (fun K hK=>?_);refine Ay (w':=((W2).setCell ⟨g,0,none⟩ (Value.slice (some ⟨gg1,0,none⟩) (L.targets.length+1) cap1)).setCell ⟨g,1,none⟩ (Value.slice (some ⟨gg2,0,none⟩) (L.data.length+1) cap2)) (by go_simp) ?_;show K (Act.put _ none _) _;refine hK _ _ (fun h=>by cases h) ?_
     try simp only[Yf]
     refine AD (by kernel_rfl) ?_ _;go_wp2_with fail
     go_meet
     exact EZ hg a1.r1 a1.r2 a1.qb a1.bw
  case rest=>
   obtain⟨gg1,cap1,gg2,cap2,rfl,qd,O1,O2,hBB⟩:=hcut;have hz:=Hz.out;have a9:w.heap.size+1<w1.heap.size:=by omega
   have z2:=z0.below hBB a9;obtain⟨D1,D2,D3,D4⟩:=Px hL hk h2 a9 b0 z2 O1 O2 hBB;clear hz z1 k2 k4 x1 k1;have k5:=blk2 z2;have k6:=z2.fz;have k7:=blk2 qd;clear a5 ho x0 y0;go_wp2_with fail
   rw[Hw.out];have yy:=blk2 D2;exact retPn D1 D4 D3 (by simp[results,Tryz.results77,go_sem,yy]) rfl
theorem Ex {s t:List UInt8}{k:Int}(h:k<0\/(s.length:Int)-t.length<k):Pn.laidOver s k t=([],10):=by rw[Pn.laidOver,if_pos h]
theorem Mg {s t:List UInt8}{k:Nat}(h:(k:Int)<=(s.length:Int)-t.length):Pn.laidOver s k t=(s.take k++t++s.drop (k+t.length),0):=by
 rw[Pn.laidOver,if_neg (by omega),Int.toNat_natCast,over]
theorem EO (s t:List UInt8)(k:Int)(w:World)(hs:s.length<=1000000)(ht:t.length<=9223372036854775807):
 CR 61 #[.string (bs s),.int .i64 k,.string (bs t)] w (.tuple #[.string (bs (Pn.laidOver s k t).1),.int .i64 (Pn.laidOver s k t).2]):=by
 by_cases h0:k<0
 · have Hw:=hid (Ex (s:=s) (t:=t) (.inl h0));go_enter Tryz.func61,Tryz.ntmps61
   go_wp2
   go_ret2
   exact⟨by rw[Hw.out];rfl,Below.refl _ _⟩
 · by_cases h2:(s.length:Int)<t.length
   · have Hw:=hid (Ex (s:=s) (t:=t) (k:=k) (.inr (by omega)));go_enter Tryz.func61,Tryz.ntmps61
     go_wp2
     go_ret2
     exact⟨by rw[Hw.out];rfl,Below.refl _ _⟩
   · by_cases h:(s.length:Int)-t.length<k
     · have Hw:=hid (Ex (.inr h));go_enter Tryz.func61,Tryz.ntmps61
       go_wp2
       go_ret2
       exact⟨by rw[Hw.out];rfl,Below.refl _ _⟩
     · obtain⟨n,rfl⟩:=Int.eq_ofNat_of_zero_le (show 0<=k by omega);have Hw:=hid (Mg (s:=s) (t:=t) (k:=n) (by omega));have h1:t.length<=1000000:=by omega
       go_enter Tryz.func61,Tryz.ntmps61
       go_wp2
       go_quiet (fail)
       go_wp2
       go_ret2
       exact⟨by rw[Hw.out];simp,Gi _ _⟩
theorem M6 (L:Pn)(p q:Pl)(w:World)(hL:IsPn w L p q)(k:Int)(hk: -9223372036854775808<=k/\k<=9223372036854775807)(s:List UInt8)(hs:s.length<=9223372036854775807)(ht:L.targets.length<=1000000)(he:L.targets.length=L.data.length):
 CX 77 #[pval L p q,.int .i64 k,.string (bs s)] w (RetPn w.heap.size L p q (L.set k s)):=by
 cases h1:sectorOk k with
 |false=>exact M8 L p q w hL k s h1
 |true=>
  by_cases h2:s.length=64
  · by_cases hm:k∈L.targets
    · exact Ha L p q w hL k s h1 h2 ht (by omega) he (.inl hm)
    · by_cases hf:24<=L.targets.length
      · exact Ha L p q w hL k s h1 h2 ht (by omega) he (.inr hf)
      · exact M7 L p q w hL k s h1 h2 ht (by omega) he hk hm hf
  · exact M9 L p q w hL k s hs h1 h2
theorem Dk.seesIn_len {l:List (Int×List UInt8)}(h:∀i (h:i<l.length),l[i].2.length=64)(k:Int){s:List UInt8}(hs:Dk.seesIn l k=some s):s.length=64:=by
 induction l with
 |nil=>simp[Dk.seesIn]at hs
 |cons x l ih=>
  have h0:=h 0 (by simp);have a0:=ih (fun i hi=>by have:=h (i+1) (by simpa using hi);simpa using this);rw[Dk.seesIn]at hs
  split at hs
  · rename_i s' e
    injection hs with hs
    subst hs;exact a0 e
  · split at hs
    · injection hs with hs
      subst hs;exact h0
    · cases hs
theorem Dk.read_len {D:Dk}(hD:D.fit=true)(k:Int):(D.read k).1.length<=64:=by
 have hc:=(Dk.fit_parts hD).2.2.2.2.1;rw[Dk.read]
 split
 · simp
 · split
   · simp
   · split
     · simp
     · show(D.sees k).length<=64;rw[Dk.sees];cases h:Dk.seesIn D.cache k with
       |some s=>rw[Option.getD_some,Dk.seesIn_len (fun i hi=>(hc i hi).2.2) k h];omega
       |none=>
        rw[Option.getD_none,Dk.sector,List.length_drop,List.length_take];omega
theorem GQ {D:Dk}{L:Pn}(hD:D.fit=true)(hL:L.Fit)(k:Int):(Pn.look D L k).1.length<=64:=by
 rw[Pn.look]
 split
 · rename_i hm
   obtain⟨i,hi,_,_,h⟩:=Pn.find_in hm;have h0:i<L.data.length:=by rw[<-hL.1];exact hi
   rw[h,List.getD_eq_getElem?_getD,List.getElem?_eq_getElem h0];simp[hL.2.2.2 i h0]
 · exact Dk.read_len hD k
theorem u32w {x:Int}(h:0<=x/\x<=4294967295):IntKind.u32.wrap x=x:=by simp[IntKind.wrap,IntKind.bits,IntKind.signed];omega
abbrev rval (l n:Nat):Value:=.agg #[.int .i64 l,.int .u32 n]
theorem Hi (x k:Nat)(h1:1<=k)(h2:k<=8):putS x (k:Nat)=be k x:=by rw[putS,if_pos ⟨by omega,by omega⟩,Int.toNat_natCast]
theorem MV (s:List UInt8)(h:s.length<=64):padR s 64=(At s,0):=by rw[padR,if_neg (by omega)];rfl
theorem IW (s:List UInt8)(k:Nat)(h1:1<=k)(h2:k<=8)(h:k<=s.length):takeR s (k:Nat)=(un (s.take k),s.drop k,0):=by rw[takeR,if_neg (by omega),if_neg (by omega),Int.toNat_natCast]
theorem HB (k:Nat)(w:World):Calls Tryz.prog 92 #[.int .i64 k] w fun e w'=>e=.returned (.bool (decide (k<256)))/\w'=w:=by
 by_cases h:k<256
 · have h1:decide ((k:Int)<256)=true:=decide_eq_true (by omega);have h2:decide (k<256)=true:=decide_eq_true h;have Hw:=hid h2;go_enter Tryz.func92,Tryz.ntmps92;go_wp2_with fail
   go_ret
   exact⟨by rw[Hw.out];rfl,rfl⟩
 · have h1:decide ((k:Int)<256)=false:=decide_eq_false (by omega);have h2:decide (k<256)=false:=decide_eq_false h;have Hw:=hid h2;go_enter Tryz.func92,Tryz.ntmps92;go_wp2_with fail
   go_ret
   exact⟨by rw[Hw.out];rfl,rfl⟩
theorem HQ (l n:Nat)(hl:l<65536)(hn:n<4294967296)(w:World):
 CR 93 #[rval l n] w (.string (bs (rtHead l n))):=by
 have p1:=fun W=>DI (l:Int) 2 (by omega) (by omega) W
 have p2:=fun W=>DI (n:Int) 4 (by omega) (by omega) W
 rw[Int.toNat_natCast,show putS l 2=be 2 l from Hi l 2 (by decide) (by decide)]at p1;rw[Int.toNat_natCast,show putS n 4=be 4 n from Hi n 4 (by decide) (by decide)]at p2;have a3:=In l n;have c1:=fun W=>DF (rtBody l n) (by omega) W
 have c2:=fun W=>DE (crcOf (rtBody l n)) (A6 0 _) W
 have c3:=fun W=>EV (rtBody l n++be 4 (crcOf (rtBody l n))) (by rw[List.length_append,Ar];unfold maxLen;omega) 64 W
 rw[MV _ (by rw[List.length_append,Ar];omega)]at c3;have Hh:=hid (show rtHead l n=At (rtBody l n++be 4 (crcOf (rtBody l n)))from rfl);have Hb:=hid (show(67:UInt8)::79::70::82::(be 2 l++be 4 n)=rtBody l n from rfl);have u1:=u64w (x:=(l:Int)) ⟨by omega,by omega⟩;have u2:=u64w (x:=(n:Int)) ⟨by omega,by omega⟩;have a4:=Ar 2 l;have a5:=Ar 4 n;have a6:=Ar 4 (crcOf (rtBody l n));generalize crcOf (rtBody l n)=cr at*;generalize be 4 cr=B3 at*;generalize be 2 l=B1 at*;generalize be 4 n=B2 at*;have hB:=Y0 w;have x:=Blk.new w 95 #[.int .i64 l,.int .u32 n];have a0:=Ya hB x;go_enter Tryz.func93,Tryz.ntmps93;go_wp2_with fail
 generalize (w.alloc (.cells #[.int .i64 l,.int .u32 n] 95))=V at a0 x ⊢;clear hB;have hB:=a0;clear a0;have X2:=ext2 x;have D1:=fun e:Ext V=>p1 e.world
 have D2:=fun e:Ext V=>p2 e.world
 refine Az mixed (by kernel_rfl) ?_
 repeat (go_big_quiet_step (((first|(go_at_call 86;with_reducible exact An (D1 _))|(go_at_call 86;with_reducible exact An (D2 _))))))
 refine wpQuiet_nil ?_;rintro W ⟨pq_,hpq_⟩;have hW:=pq_.below;rw[<-hpq_]at hW;clear hpq_ pq_;have a2:=bt hB hW;have a1:=a2;rw[Hb.out];go_wp2_with fail
 refine((c1 _)).mono ?_;rintro e w' ⟨rfl,rfl⟩;go_wp2_with fail
 refine((c2 _)).mono ?_;rintro e w2 ⟨rfl,hb2⟩;replace a1:=bt a1 hb2;go_wp2_with fail
 refine((c3 _)).mono ?_;rintro e w3 ⟨rfl,hb3⟩;replace a1:=bt a1 hb3;go_wp2_with fail
 go_ret
 exact⟨by rw[Hh.out];rfl,a1⟩
theorem Jz {P:Program}{f:FuncId}{args:Array Value}{W:World}{v:Value}(h:Calls P f args W fun e w'=>e=.returned v/\W=w'):Calls P f args W fun e w'=>e=.returned v/\Below W.heap.size W w':=
 h.mono fun _ _ h=>⟨h.1,by rw[<-h.2];exact Below.refl _ _⟩
theorem HK (D:Dk)(L:Pn)(p q p' q':Pl)(w:World)(hD:IsDk w D p q)(hL:IsPn w L p' q')(hf:D.fit=true)(hfl:L.Fit):
 CR 55 #[dval D p q,pval L p' q'] w (.tuple #[rval (Pn.rtGet D L).1.1 (Pn.rtGet D L).1.2,.int .i64 (Pn.rtGet D L).2]):=by
 have ah:=fun(W:World)(hb:Below w.heap.size w W)=>Co D L p q p' q' W (hD.below hb) (hL.below hb) 1 ((Dk.fit_parts hf).2.2.1) (by have:=hfl.2.1;omega) hfl.1
 obtain⟨s,er,hs⟩:∃s er,Pn.look D L 1=(s,er):=⟨_,_,rfl⟩;simp only[hs]at ah;have ab:er=0->s.length=64:=fun h=>by have:=Pn.look_full hf hfl (k:=1) (by rw[hs];exact h);rw[hs]at this;exact this
 have Hw:=hid (show Pn.rtGet D L=if er≠0 then((0,0),er)else rtOf s by rw[Pn.rtGet,hs]);clear hs hD hL hf hfl;obtain⟨A1,a1⟩:=p;obtain⟨A2,a2⟩:=q;obtain⟨B1,b1⟩:=p';obtain⟨B2,b2⟩:=q';have hB:=Y0 w;have x:=apc5 (Blk.new w 25) D A1 a1 A2 a2;have a0:=Ya hB x;have z:=apc2 (Yd a0 63) L B1 b1 B2 b2;simp only[Ys]at z;have a5:=Ya a0 z;have ao:=Yc x a5;have r:=Yd a5 95 #[.int .i64 0,.int .u32 0];simp only[Ys]at r;have rk:=blk2 r;have an:=r.fz;have a4:=Ya a5 r;obtain⟨ap,al⟩:=Z5 (Yc ao a4);obtain⟨aq,am⟩:=Z2 (Yc z a4);go_enter Tryz.func55,Tryz.ntmps55;go_wp2_with fail
 refine((ah _ a4)).mono ?_;rintro e w1 ⟨rfl,hb1⟩;replace hB:=bt a4 hb1;replace x:=ap.bl hb1;replace z:=aq.bl hb1;replace r:=r.bl hb1;replace rk:=blk2 r;replace an:=r.fz;clear a0 a5 ao a4 al ap am aq;by_cases h1:er=0
 case neg=>
  have n1:(er !=0)=true:=by simpa using h1
  have Hr:=hid (show Pn.rtGet D L=((0,0),er) by rw[Hw.out,if_pos h1]);clear h1;go_wp2_with fail
  rw[Hr.out];have yy:=blk2 (Aj r (.int .i64 0) (.int .u32 0));have b9:=Ae hB (g:=w.heap.size+1+1) (by omega) (.int .i64 0) (.int .u32 0);refine bodyPost_ret (v:=.tuple #[.agg #[.int .i64 0,.int .u32 0],.int .i64 er]) (by simp[results,Tryz.results55,go_sem,yy]) rfl ?_;exact⟨rfl,b9⟩
 subst h1;have hl:=ab rfl;have ad:=hid (show Pn.rtGet D L=rtOf s by rw[Hw.out,if_neg (by simp)]);have ar:=hid (show rtOf s=_ from by unfold rtOf;rfl);have ax:List.drop 4 (List.take 64 s)=s.drop 4:=by rw[List.take_of_length_le (by omega)]
 have ay:List.drop 6 (List.take 64 s)=s.drop 6:=by rw[List.take_of_length_le (by omega)]
 clear ab ah Hw;by_cases hm:s.take 4=magicR
 rotate_left
 · have Hr:=hid (show Pn.rtGet D L=((0,0),14) by rw[ad.out,rtOf,if_pos hm]);have hd:(s.take 4==[67,79,70,82])=false:=by rw[beq_eq_false_iff_ne];exact hm
   clear hm;go_wp2_with fail
   rw[Hr.out];have yy:=blk2 (Aj r (.int .i64 0) (.int .u32 0));have b9:=Ae hB (g:=w.heap.size+1+1) (by omega) (.int .i64 0) (.int .u32 0);refine bodyPost_ret (v:=.tuple #[.agg #[.int .i64 0,.int .u32 0],.int .i64 14]) (by simp[results,Tryz.results55,go_sem,yy]) rfl ?_;exact⟨rfl,b9⟩
 have hd:(s.take 4==[67,79,70,82])=true:=by rw[beq_iff_eq];exact hm
 have Hm:=hid hm;clear hm;have c1:=fun W=>DF (s.take 10) (by rw[List.length_take];omega) W
 have ae:=A6 0 (s.take 10);have ae:crcOf (s.take 10)<4294967296:=ae;have c2:=fun W=>DE (crcOf (s.take 10)) ae W
 have a6:(s.take 14).drop 10=(s.drop 10).take 4:=by rw[List.drop_take]
 have a3:=hid (show be 4 (crcOf (s.take 10))=(s.drop 10).take 4↔be 4 (crcOf (s.take 10))=(s.take 14).drop 10 by rw[a6]);clear a6;obtain⟨cr,hcr⟩:∃c,crcOf (s.take 10)=c:=⟨_,rfl⟩;have af:=hid hcr;rw[hcr]at c1 c2 ae;clear hcr;go_wp2_with fail
 generalize w1=V at hB x z r rk an ⊢;have D1:=fun e:Ext V=>Jz (c1 e.world)
 have D2:=fun e:Ext V=>c2 e.world
 by_cases hq:be 4 cr=(s.take 14).drop 10
 rotate_left
 · have Hr:=hid (show Pn.rtGet D L=((0,0),15) by rw[ad.out,rtOf,if_neg (fun h=>h Hm.out),if_pos (fun h=>hq (by rw[<-af.out];exact a3.out.1 h))]);have f1:(be 4 cr==(s.take 14).drop 10)=false:=by simpa using hq
   clear hq;refine Az mixed (by kernel_rfl) ?_
   repeat (go_big_quiet_step ((first|(go_at_call 89;with_reducible exact An (D1 _))|(go_at_call 88;with_reducible exact An (D2 _)))))
   refine wpQuiet_nil ?_;rintro w2 ⟨pq_,hpq_⟩;have a7:=pq_.below;rw[<-hpq_]at a7;clear hpq_ pq_;have hB:=bt hB a7;obtain⟨r,rk,rf⟩:=Z2f ((r).below a7 (r).lt);go_wp2_with fail
   rw[Hr.out];have yy:=blk2 (Aj r (.int .i64 0) (.int .u32 0));have b9:=Ae hB (g:=w.heap.size+1+1) (by omega) (.int .i64 0) (.int .u32 0);refine bodyPost_ret (v:=.tuple #[.agg #[.int .i64 0,.int .u32 0],.int .i64 15]) (by simp[results,Tryz.results55,go_sem,yy]) rfl ?_;exact⟨rfl,b9⟩
 have ag:=hid (show Pn.rtGet D L=if 256<=un ((s.drop 4).take 2)\/rtHead (un ((s.drop 4).take 2)) (un ((s.drop 6).take 4))≠s then((0,0),14)else((un ((s.drop 4).take 2),un ((s.drop 6).take 4)),0) by
  rw[ad.out,rtOf,if_neg (fun h=>h Hm.out),if_neg (fun h=>h (a3.out.2 (by rw[af.out];exact hq)))])
 have f1:(be 4 cr==(s.take 14).drop 10)=true:=by simpa using hq
 clear hq a3 af ad ar;refine Az mixed (by kernel_rfl) ?_
 repeat (go_big_quiet_step ((first|(go_at_call 89;with_reducible exact An (D1 _))|(go_at_call 88;with_reducible exact An (D2 _)))))
 refine wpQuiet_nil ?_;rintro w2 ⟨pq_,hpq_⟩;have a7:=pq_.below;rw[<-hpq_]at a7;clear hpq_ pq_;have au:=bt hB a7;have r0:=(r).below a7 (r).lt;clear D1 D2 c1 c2 f1;have aj:=Fe (s.drop 4) 2 (by decide);have ak:=Fe (s.drop 6) 4 (by decide);have n1:=fun W=>DJ (s.drop 4) (by rw[List.length_drop];unfold maxLen;omega) 2 W
 rw[show takeR (s.drop 4) 2=(un ((s.drop 4).take 2),(s.drop 4).drop 2,0)from IW (s.drop 4) 2 (by decide) (by decide) (by rw[List.length_drop];omega)]at n1;have n2:=fun W=>DJ (s.drop 6) (by rw[List.length_drop];unfold maxLen;omega) 4 W
 rw[show takeR (s.drop 6) 4=(un ((s.drop 6).take 4),(s.drop 6).drop 4,0)from IW (s.drop 6) 4 (by decide) (by decide) (by rw[List.length_drop];omega)]at n2;generalize un ((s.drop 4).take 2)=l at*;generalize un ((s.drop 6).take 4)=n at*;replace aj:l<65536:=aj;replace ak:n<4294967296:=ak;have u1:=i64w (x:=(l:Int)) ⟨by omega,by omega⟩;have u2:=u32w (x:=(n:Int)) ⟨by omega,by omega⟩;have aw:=fun W=>HQ l n aj ak W
 have ho:=fun W=>HB l W
 have hB:=au;have ai:=blk2 r0;have a9:=r0.fz;go_wp2_with fail
 refine((n1 _)).mono ?_;rintro e w3 ⟨rfl,hb3⟩;replace hB:=bt hB hb3;replace r0:=r0.bl hb3;replace ai:=blk2 r0;replace a9:=r0.fz;go_wp2_with fail
 refine((n2 _)).mono ?_;rintro e w4 ⟨rfl,hb4⟩;replace hB:=bt hB hb4;replace r0:=r0.bl hb4;replace ai:=blk2 r0;replace a9:=r0.fz;obtain⟨y,yk⟩:=Z2 (Blk.new w4 95 #[.int .i64 l,.int .u32 n]);have a0:=Ya hB y;obtain⟨a8,ac,aa⟩:=Z2f (Yc r0 a0);go_wp2_with fail
 refine(ho _).mono ?_;rintro e w5 ⟨rfl,rfl⟩;by_cases hbig:256<=l
 · have Hr:=hid (show Pn.rtGet D L=((0,0),14) by rw[ag.out,if_pos (.inl hbig)]);have av:decide (l<256)=false:=decide_eq_false (by omega);go_wp2_with fail
   rw[Hr.out];have yy:=blk2 (Aj a8 (.int .i64 0) (.int .u32 0));have b9:=Ae a0 (g:=w.heap.size+1+1) (by omega) (.int .i64 0) (.int .u32 0);refine bodyPost_ret (v:=.tuple #[.agg #[.int .i64 0,.int .u32 0],.int .i64 14]) (by simp[results,Tryz.results55,go_sem,yy]) rfl ?_;exact⟨rfl,b9⟩
 have av:decide (l<256)=true:=decide_eq_true (by omega);go_wp2_with fail
 refine((aw _)).mono ?_;rintro e w6 ⟨rfl,hb6⟩;replace hB:=bt a0 hb6;replace r0:=a8.bl hb6;replace ai:=blk2 r0;replace a9:=r0.fz;replace y:=y.bl hb6;replace yk:=blk2 y;clear a0 ac aa a8;by_cases hh:rtHead l n=s
 · have Hr:=hid (show Pn.rtGet D L=((l,n),0) by rw[ag.out,if_neg (by rintro(h|h);exact hbig h;exact h hh)]);have f1:(rtHead l n==s)=true:=by simpa using hh
   clear hh;go_wp2_with fail
   rw[Hr.out];have yy:=blk2 (Aj r0 (.int .i64 l) (.int .u32 n));have b9:=Ae hB (g:=w.heap.size+1+1) (by omega) (.int .i64 l) (.int .u32 n);refine bodyPost_ret (v:=.tuple #[.agg #[.int .i64 l,.int .u32 n],.int .i64 0]) (by simp[results,Tryz.results55,go_sem,yy]) rfl ?_;exact⟨rfl,b9⟩
 · have Hr:=hid (show Pn.rtGet D L=((0,0),14) by rw[ag.out,if_pos (.inr hh)]);have f1:(rtHead l n==s)=false:=by rw[beq_eq_false_iff_ne];exact fun h=>hh h
   clear hh;go_wp2_with fail
   rw[Hr.out];have yy:=blk2 (Aj r0 (.int .i64 0) (.int .u32 0));have b9:=Ae hB (g:=w.heap.size+1+1) (by omega) (.int .i64 0) (.int .u32 0);refine bodyPost_ret (v:=.tuple #[.agg #[.int .i64 0,.int .u32 0],.int .i64 14]) (by simp[results,Tryz.results55,go_sem,yy]) rfl ?_;exact⟨rfl,b9⟩
end
section
open Go.RowKit Go.WideShapes Go.ChangeShapes
section
variable {H:Type} {enc:TypeId×Value->H} {P:Program}
theorem Nj {f:Func}{s:ChangeSpec}{apart fresh handsOn again:Bool}{W W':World}{args:Array Value}{v:Value}{ds gs:List (DataW H)}{before pa pv:List MemPlace}
 (hW:DataW.Whole enc P f.params.toList s.vars apart W args.toList ds gs before)
 (hres:∀(b:Nat)(sp:Nat->Bool)(hd:Bool),DataW.TrodAll enc P W' b sp hd f.resultTypes.toList (v.resultList f.resultTypes.size) (s.fn H (ds++gs)).results [])
 (hargs:∀sp:Nat->Bool,(∀p∈before,sp p.block=true)->DataW.TrodAll enc P W' 0 sp true f.params.toList args.toList (s.fn H (ds++gs)).args pa)
 (hvars:∀sp:Nat->Bool,(∀p∈before,sp p.block=true)->DataW.TrodVars enc P W' sp s.vars (s.fn H (ds++gs)).vars pv)
 (hps:before=pa++pv) (hb:Below W.heap.size W W')
 (hok:∀(j:Nat)(t:TypeId)(r:Value),f.resultTypes[j]? =some t->(v.resultList f.resultTypes.size)[j]? =some r->Value.okWide P W' .any 0 t r):
 s.post enc P f apart fresh handsOn again W args v W':=by
 have a2:∀p∈before,p.block<W.heap.size:=fun p hp=>hW.lt p hp
 have a0:∀p∈before,(fun b=>decide (b<W.heap.size)) p.block=true:=fun p hp=>by simpa using a2 p hp
 refine⟨ds,gs,before,[],pa,pv,hW,hres _ _ _,hargs _ a0,hvars _ a0,World.keptBut_mono (fun p hp=>⟨hp,?_⟩) (hb.frame (·∈before)),fun _=>?_⟩
 · rw[hps,List.mem_append]at hp;exact Or.inr hp
 · obtain⟨_,_,_,_,_,hz,hn⟩:=hW;refine⟨hok,_,_,([]++pa)++pv,⟨[]++pa,pv,trodAll_append (hargs _ (fun _ _=>rfl)) (hres _ _ _),hvars _ (fun _ _=>rfl),rfl,?_,?_⟩,?_⟩
   · intro b off hp;have a1:MemPlace.cell b off∈before:=by rw[hps];simpa using hp
     rw[hb.frozen (a2 _ a1)];exact hz b off a1
   · intro ha;have:=hn ha;rw[hps]at this;simpa using this
   · intro p hp _;rw[hps];simpa using hp
end
end
section
open Go.RowKit Go.WideShapes Go.ChangeShapes Go.Deep Go.Joins
section
variable {H:Type} {enc:TypeId×Value->H} {P:Program} {w:World} {base:Nat} {spare:Nat->Bool} {held:Bool}
theorem MR {t e:TypeId}{fs:Array Field}{fuel:Nat}{cs:List Value}{x:DataW H×List MemPlace}(ht:P.underlying t=some (.slice e))(he:P.underlying e=some (.struct fs))
 (hone:oneCellFields P fs=true) (hC:P.cellsOf e=fs.size) (h:DataW.trod enc P w base spare held fuel t cs=some x):
 (cs=[.slice none 0 0]/\x=(.nil,[]))\/
 ∃(a:Addr)(len cap m:Nat)(D:Nat->DataW H)(Pl:Nat->List MemPlace),cs=[.slice (some a) len cap]/\base<=a.block/\len<=cap/\cap<=maxLen/\m=(if spare a.block then cap else len)/\
  x=(.slice ((List.range len).map D) ((List.range (m-len)).map fun j=>D (len+j)),MemPlace.row a (m*fs.size)++(List.range m).flatMap Pl)/\
  ∀i,i<m->∃(ys:List (DataW H×List MemPlace))(n:Nat),D i=.agg (ys.map (·.1))/\Pl i=ys.flatMap (·.2)/\ys.length=fs.size/\
   ∀(j:Nat)(f:Field),fs[j]? =some f->∃(v:Value)(y:DataW H×List MemPlace),w.cell? (a.add (i*fs.size+j))=some v/\ys[j]? =some y/\DataW.trod enc P w base spare held n f.type [v]=some y:=by
 rcases open_slice ht h with h0|⟨a,len,cap,m,n,D,Pl,hcs,hb,hl,hm,hmm,hx,hi⟩
 · exact .inl h0
 · refine .inr ⟨a,len,cap,m,D,Pl,hcs,hb,hl,hm,hmm,by rw[hC]at hx;exact hx,fun i him=>?_⟩;obtain⟨cs',hc,ht'⟩:=hi i him;rw[hC]at hc;obtain⟨ys,n',hn',hy,hlen,hyl,hf⟩:=DataW.trod_struct he ht';obtain⟨_,hcl,hat⟩:=World.cells?_some hc;simp only[Prod.mk.injEq]at hy;refine⟨ys,n',hy.1,hy.2,hyl,fun j f hj=>?_⟩;obtain⟨ho,hk⟩:=hone_of hone j f hj;have a3:j<fs.size:=(Array.getElem?_eq_some_iff.1 hj).1;have a0:=hat j a3;have hv:cs'[j]? =some (cs'[j]'(by omega)):=List.getElem?_eq_getElem (by omega);have h1:=hf j f hj;rw[ho,hk]at h1;have a1:(cs'.drop j).take 1=[cs'[j]'(by omega)]:=by
    rw[List.drop_eq_getElem_cons (by omega)];rfl
   rw[a1]at h1;have a2:ys[j]? =some (ys[j]'(by omega)):=List.getElem?_eq_getElem (by omega);refine⟨_,_,?_,a2,h1.trans a2⟩;rw[<-Go.Deep.add_add,a0,hv]
theorem Dj {α:Type}{R:Nat->α->Prop}:∀{n:Nat},(∀i,i<n->∃x,R i x)->∃l:List α,l.length=n/\∀i (hi:i<l.length),R i l[i]
 |0,_=>⟨[],rfl,fun i hi=>by cases hi⟩
 |n+1,h=>by
  obtain⟨l,hl,hR⟩:=Dj (n:=n) fun i hi=>h i (by omega)
  obtain⟨x,hx⟩:=h n (by omega);refine⟨l++[x],by simp[hl],fun i hi=>?_⟩;by_cases hin:i<l.length
  · rw[List.getElem_append_left hin];exact hR i hin
  · have:i=l.length:=by simp at hi;omega
    subst this;rw[List.getElem_append_right (Nat.le_refl _)];simp only[Nat.sub_self,List.getElem_cons_zero,hl];exact hx
theorem Ea {a:Addr}{cs:List Value}(h:∀j u,cs[j]? =some u->w.cell? (a.add j)=some u):Cells w (some a) cs:=by
 cases cs with
 |nil=>exact .inl rfl
 |cons u0 r=>
  have h0:=World.cell?_spot (h 0 u0 rfl);obtain⟨b,off,sp⟩:=a;have a0:sp=none:=by
   cases sp with
   |none=>rfl
   |some s=>simp[Addr.add]at h0;try (split at h0<;>simp_all)
  subst a0;exact .inr ⟨b,off,rfl,fun j u hu=>by have:=h j u hu;rwa [Bj]at this⟩
theorem MP {α:Type}{f:α->Value}{R:α->Prop}{t e:TypeId}{fuel:Nat}{v:Value}{x:DataW H×List MemPlace}(ht:P.underlying t=some (.slice e))(hc:P.cellsOf e=1)
 (hf:∀{n:Nat}{v:Value}{y:DataW H×List MemPlace},DataW.trod enc P w base spare held n e [v]=some y->∃x,v=f x/\R x) (h:DataW.trod enc P w base spare held fuel t [v]=some x):
 ∃(A:Option Addr)(c:Nat)(l:List α),v=.slice A l.length c/\Cells w A (l.map f)/\(A=none->c=0)/\l.length<=c/\c<=maxLen/\∀x∈l,R x:=by
 rcases open_slice1 ht hc h with ⟨h0,_⟩|⟨a,len,cap,m,n,V,D,Pl,hcs,_,hl,hm,hmm,_,hi⟩
 · injection h0 with h0
   exact⟨none,0,[],h0,.inl rfl,fun _=>rfl,Nat.le_refl _,Nat.zero_le _,fun x hx=>by cases hx⟩
 · injection hcs with hcs
   have a0:len<=m:=by rw[hmm];split<;>omega
   obtain⟨l,hl',hR⟩:=Dj (α:=α) (n:=len) (R:=fun i x=>w.cell? (a.add i)=some (f x)/\R x) fun i h=>by
    obtain⟨hcell,ht'⟩:=hi i (by omega);obtain⟨x,hx,hRx⟩:=hf ht';exact⟨x,by rw[hcell,hx],hRx⟩
   subst hl';refine⟨some a,cap,l,hcs,Ea fun j u hu=>?_,(by intro h;cases h),hl,hm,fun x hx=>?_⟩
   · rw[List.getElem?_map]at hu;obtain⟨y,hy,rfl⟩:=Option.map_eq_some_iff.1 hu;obtain⟨hj,rfl⟩:=List.getElem?_eq_some_iff.1 hy;exact(hR j hj).1
   · obtain⟨j,hj,rfl⟩:=List.getElem_of_mem hx;exact(hR j hj).2
abbrev okInt (x:Int):Prop:= -9223372036854775808<=x/\x<=9223372036854775807
theorem Ck {x:Int}(h:(Lit.int .i64 x).wf=true):okInt x:=by
 have:=bounds_i64 h;exact⟨by omega,by omega⟩
theorem MO {t e:TypeId}{fuel:Nat}{v:Value}{x:DataW H×List MemPlace}(ht:P.underlying t=some (.slice e))(he:P.underlying e=some (.int .i64))(hc:P.cellsOf e=1)(h:DataW.trod enc P w base spare held fuel t [v]=some x):
 ∃(A:Option Addr)(c:Nat)(l:List Int),v=.slice A l.length c/\Cells w A (intCells l)/\(A=none->c=0)/\l.length<=c/\c<=maxLen/\∀x∈l,okInt x:=
 MP ht hc (fun hy=>by
  obtain⟨n,hn,_,hw⟩:=DataW.trod_int he hy;injection hn with hn
  exact⟨n,hn,Ck hw⟩) h
theorem Nl (l:List (Int×List UInt8))(j:Nat)(u:Value)(h:(putCells l)[j]? =some u):∃i,∃hi:i<l.length,(j=i*2/\u=.int .i64 l[i].1)\/(j=i*2+1/\u=.string (bs l[i].2)):=by
 have hj:=(List.getElem?_eq_some_iff.1 h).1;rw[Cm]at hj;have hi:j/2<l.length:=by omega
 refine⟨j/2,hi,?_⟩;obtain⟨h1,h2⟩:=EK l (j/2) hi
 rcases Nat.mod_two_eq_zero_or_one j with h0|h0
 · left
   have e:j=j/2*2:=by omega
   rw[<-e,h]at h1;exact⟨e,Option.some.inj h1⟩
 · right
   have e:j=j/2*2+1:=by omega
   rw[<-e,h]at h2;exact⟨e,Option.some.inj h2⟩
theorem MQ {t e:TypeId}{fuel:Nat}{v:Value}{x:DataW H×List MemPlace}{fs:Array Field}(ht:P.underlying t=some (.slice e))(he:P.underlying e=some (.struct fs))
 (hone:oneCellFields P fs=true) (hC:P.cellsOf e=2) {f0 f1:Field} (hfs:fs=#[f0,f1]) (h0:P.underlying f0.type=some (.int .i64)) (h1:P.underlying f1.type=some .string) (h:DataW.trod enc P w base spare held fuel t [v]=some x):
 ∃(A:Option Addr)(c:Nat)(l:List (Int×List UInt8)),v=.slice A l.length c/\Cells w A (putCells l)/\(A=none->c=0)/\l.length<=c/\c<=maxLen/\∀x∈l,okInt x.1/\x.2.length<=maxLen:=by
 subst hfs
 rcases MR ht he hone hC h with ⟨h0,_⟩|⟨a,len,cap,m,D,Pl,hcs,_,hl,hm,hmm,_,hi⟩
 · injection h0 with h0
   exact⟨none,0,[],h0,.inl rfl,fun _=>rfl,Nat.le_refl _,Nat.zero_le _,fun x hx=>by cases hx⟩
 · injection hcs with hcs
   have a0:len<=m:=by rw[hmm];split<;>omega
   obtain⟨l,hl',hR⟩:=Dj (α:=Int×List UInt8) (n:=len) (R:=fun i x=>w.cell? (a.add (i*2))=some (.int .i64 x.1)/\w.cell? (a.add (i*2+1))=some (.string (bs x.2))/\okInt x.1/\x.2.length<=maxLen) fun i h=>by
    obtain⟨ys,n,_,_,_,hf⟩:=hi i (by omega);obtain⟨v0,y0,c0,_,t0⟩:=hf 0 f0 rfl;obtain⟨v1,y1,c1,_,t1⟩:=hf 1 f1 rfl;obtain⟨k,hk,_,hw⟩:=DataW.trod_int h0 t0;obtain⟨s,hs,_,hw'⟩:=DataW.trod_string h1 t1;injection hk with hk
    injection hs with hs
    obtain⟨sl,rfl⟩:=CW s;rw[Ab]at hw';subst hk;subst hs
    exact⟨(k,sl),c0,c1,Ck hw,hw'⟩
   subst hl';refine⟨some a,cap,l,hcs,Ea fun j u hu=>?_,(by intro h;cases h),hl,hm,fun x hx=>?_⟩
   · obtain⟨i,hi,⟨rfl,rfl⟩|⟨rfl,rfl⟩⟩:=Nl l j u hu
     · exact(hR i hi).1
     · exact(hR i hi).2.1
   · obtain⟨j,hj,rfl⟩:=List.getElem_of_mem hx;exact(hR j hj).2.2
structure IsDk0 (w:World) (D:Dk) (p q:Pl):Prop where
 cache:Cells w p.a (putCells D.cache)
 bad:Cells w q.a (intCells D.bad)
 pn:p.a=none->p.c=0
 qn:q.a=none->q.c=0
 pc:D.cache.length<=p.c
 qc:D.bad.length<=q.c
 pm:p.c<=maxLen
 qm:q.c<=maxLen
 data:D.data.length<=maxLen
 fuse:okInt D.fuse
 strs:∀x∈D.cache,x.2.length<=maxLen
 ats:∀x∈D.cache,okInt x.1
 bads:∀x∈D.bad,okInt x
theorem IsDk0.below {w w':World}{D:Dk}{p q:Pl}(h:IsDk0 w D p q)(hb:Below w.heap.size w w'):IsDk0 w' D p q:=
 {h with cache:=h.cache.below hb,bad:=h.bad.below hb}
theorem IsDk0.full {w:World}{D:Dk}{p q:Pl}(h:IsDk0 w D p q)(h1:D.cache.length<=1099511627776)(h2:D.bad.length<=17592186044416)(h3:D.data.length<=140737488355328):IsDk w D p q:=
 {h with cl:=h1,bl:=h2,data:=h3}
theorem I9 (hl:laidOutB P=true){W W':World}{sp:Nat->Bool}(hb:Below W.heap.size W W'):∀{ts:List TypeId}{vs:List Value}{ds:List (DataW H)}{ps:List MemPlace},ts.all (fun t=>P.readableRec t&&decide (t<P.types.size))=true->
 DataW.TrodAll enc P W 0 (fun _=>true) true ts vs ds ps->(∀x∈ps,x.block<W.heap.size)->(∀x∈ps,sp x.block=true)->DataW.TrodAll enc P W' 0 sp true ts vs ds ps
 |[],[],[],_,_,h,_,_=>h
 |t::ts,_::_,_::_,_,ht,⟨p,q,h1,h2,e⟩,hlt,hs=>by
  subst e;simp only[List.all_cons,Bool.and_eq_true,decide_eq_true_eq]at ht;exact⟨p,q,WideElems.Trod_stays hl ht.1.1 ht.1.2 h1 (fun x hx=>hb.same (hlt x (List.mem_append_left _ hx))) (fun x hx=>hs x (List.mem_append_left _ hx)),
   I9 hl hb ht.2 h2 (fun x hx=>hlt x (List.mem_append_right _ hx)) (fun x hx=>hs x (List.mem_append_right _ hx)),rfl⟩
end
section
variable {H:Type} {enc:TypeId×Value->H} {P:Program} {w:World} {base:Nat} {spare:Nat->Bool} {held:Bool}
theorem Pz {t e:TypeId}{fuel:Nat}{A:Option Addr}{n c:Nat}{x:DataW H×List MemPlace}(ht:P.underlying t=some (.slice e))(h:DataW.trod enc P w base spare held fuel t [.slice A n c]=some x)
 (hw:(x.1.weights P t).all (·<=reachBytes)=true):n*P.bytesOf e<=reachBytes:=by
 rcases open_slice ht h with ⟨h0,_⟩|⟨a,len,cap,m,k,D,Pl,hcs,_,hl,hm,hmm,hx,_⟩
 · simp only[List.cons.injEq,Value.slice.injEq,and_true]at h0;rw[h0.2.1];simp
 · simp only[List.cons.injEq,Value.slice.injEq,and_true]at hcs;rw[hx]at hw;simp only[DataW.weights,ht,List.all_cons,Bool.and_eq_true,decide_eq_true_eq,List.length_map,List.length_range]at hw;rw[hcs.2.1];exact Nat.le_trans (Nat.mul_le_mul_right _ (Nat.le_add_right _ _)) hw.1
theorem QS {ts:List TypeId}{ds:List (DataW H)}{j:Nat}{t:TypeId}{d:DataW H}(h:(DataW.weightsEach P ts ds).all (·<=reachBytes)=true)(ht:ts[j]? =some t)(hd:ds[j]? =some d):(d.weights P t).all (·<=reachBytes)=true:=
 List.all_eq_true.2 fun n hn=>List.all_eq_true.1 h n (DataW.weights_mem_each ht hd n hn)
end
end
section
open Go.RowKit Go.Shelf Go.WideShapes Go.ChangeShapes Go.Deep Go.Joins
section
variable {H:Type} {enc:TypeId×Value->H} {P:Program} {w:World} {base:Nat} {spare:Nat->Bool} {held:Bool}
end
section
variable {H:Type} {enc:TypeId×Value->H} {P:Program} {w:World} {base:Nat} {spare:Nat->Bool} {held:Bool}
end
section
variable {H:Type} {enc:TypeId×Value->H} {P:Program} {w:World} {base:Nat} {spare:Nat->Bool} {held:Bool}
end
section
variable {H:Type} {enc:TypeId×Value->H} {P:Program} {w:World} {base:Nat} {spare:Nat->Bool} {held:Bool}
end
section
variable {H:Type} {enc:TypeId×Value->H} {P:Program} {w:World} {base:Nat} {spare:Nat->Bool} {held:Bool}
def dmCells (m:Dm):List Value:=.string (bs m.name):: .bool m.use::m.bits.map .bool
abbrev dmval (m:Dm):Value:=.agg (dmCells m).toArray
theorem AA {m:Dm}(h:m.bits.length=64):(dmCells m).length=66:=by simp[dmCells,h]
end
end
section
open Go.RowKit Go.Shelf
attribute [local go_sem] Ad Af Ag Ab Ai Ah
theorem GT {s:List UInt8}{i:Nat}(hi:i<s.length)(h:okByte s[i]=false):nameOk s=false:=by
 have:s.all okByte=false:=by
  rw[List.all_eq_false];exact⟨s[i],List.getElem_mem hi,by rw[h];simp⟩
 simp[nameOk,this]
theorem Mw {s:List UInt8}(h:∀j (hj:j<s.length),okByte s[j]=true):nameOk s=(!s.isEmpty&&decide (s.length<=8)):=by
 have:s.all okByte=true:=by
  rw[List.all_eq_true];intro x hx;obtain⟨j,hj,rfl⟩:=List.getElem_of_mem hx;exact h j hj
 simp[nameOk,this]
theorem DG (s:List UInt8)(hm:s.length<=maxLen)(w:World):
 Calls Tryz.prog 30 #[.string (bs s)] w fun e w'=>e=.returned (.bool (nameOk s))/\w=w':=by
 have a2:=hm;unfold maxLen at a2;go_enter Tryz.func30,Tryz.ntmps30;go_wp2_with fail
 go_loop [3] (fun x=>∃i:Nat,i<=s.length/\x=.int .i64 i/\Hid (∀j (hj:j<s.length),j<i->okByte s[j]=true)) (fun x=>s.length-(intOf x).toNat)
 case atStart=>exact⟨0,Nat.zero_le _,rfl,hid (fun j hj h0=>by omega)⟩
 case round=>
  obtain⟨i,hi,rfl,hok⟩:=hrel;by_cases hlt:i<s.length
  · have hb:=(s[i]).toNat_lt;by_cases h1:s[i].toNat<33
    · have d1:decide ((s[i].toNat:Int)<33)=true:=decide_eq_true (by omega);have Hw:=hid (GT hlt (by unfold okByte;rw[decide_eq_false (by omega)];rfl));go_wp2_with fail
      go_ret
      exact⟨by rw[Hw.out];rfl,rfl⟩
    · have d1:decide ((s[i].toNat:Int)<33)=false:=decide_eq_false (by omega);by_cases h2:126<s[i].toNat
      · have d2:decide ((126:Int)<(s[i].toNat:Int))=true:=decide_eq_true (by omega);have Hw:=hid (GT hlt (by unfold okByte;rw[decide_eq_true (by omega),decide_eq_false (by omega)];rfl));go_wp2_with fail
        go_ret
        exact⟨by rw[Hw.out];rfl,rfl⟩
      · have d2:decide ((126:Int)<(s[i].toNat:Int))=false:=decide_eq_false (by omega);have Hy:=hid (show okByte s[i]=true by unfold okByte;rw[decide_eq_true (by omega),decide_eq_true (by omega)];rfl);go_wp2_with fail
        go_round
        case rel=>exact⟨i+1,by omega,by go_num,hid (fun j hj hji=>by
         rcases Nat.lt_or_ge j i with h'|h'
         · exact hok.out j hj h'
         · obtain rfl:j=i:=by omega
           exact Hy.out)⟩
        case measure=>simp[intOf];omega
  · have Hw:=hid (Mw fun j hj=>hok.out j hj (by omega));clear hok;obtain rfl:i=s.length:=by omega
    by_cases hs:s=[]
    · subst hs;go_wp2_with fail
      go_ret
      exact⟨by rw[Hw.out];rfl,rfl⟩
    · have a1:s.isEmpty=false:=by cases s with
       |nil=>exact absurd rfl hs
       |cons a l=>rfl
      have d3:(s==[])=false:=by cases s with
       |nil=>exact absurd rfl hs
       |cons a l=>rfl
      have d4:(s !=[])=true:=by cases s with
       |nil=>exact absurd rfl hs
       |cons a l=>rfl
      by_cases h8:s.length<=8
      · have d1:decide ((s.length:Int)<=8)=true:=decide_eq_true (by omega);have d2:decide (s.length<=8)=true:=decide_eq_true h8;have a0:=hid (show nameOk s=true by rw[Hw.out,d2,a1];rfl);clear hs a1;go_wp2_with fail
        go_ret
        exact⟨by rw[a0.out];rfl,rfl⟩
      · have d1:decide ((s.length:Int)<=8)=false:=decide_eq_false (by omega);have d2:decide (s.length<=8)=false:=decide_eq_false h8;have a0:=hid (show nameOk s=false by rw[Hw.out,d2];simp);clear hs a1;go_wp2_with fail
        go_ret
        exact⟨by rw[a0.out];rfl,rfl⟩
theorem Oh (l:List UInt8)(hm:l.length<=maxLen)(w:World):
 CR 109 #[.string (bs l)] w (.tuple #[.string (bs (nameR l).1),.int .i64 (nameR l).2]):=by
 have hn:=fun W=>DG l hm W
 have hp:=fun W=>EV l hm 8 W
 by_cases h:nameOk l=true
 · have hl:=Ch h;have Hw:=hid (show nameR l=(l++List.replicate (8-l.length) 0,0) by rw[nameR,if_pos h]);rw[h]at hn;rw[show padR l 8=(l++List.replicate (8-l.length) 0,0) by rw[padR,if_neg (by omega)];rfl]at hp;generalize l++List.replicate (8-l.length) 0=T at*;clear h;have hB:=Y0 w;go_enter Tryz.func109,Tryz.ntmps109;go_wp2_with fail
   refine((hn _)).mono ?_;rintro e w' ⟨rfl,rfl⟩;go_wp2_with fail
   refine((hp _)).mono ?_;rintro e w2 ⟨rfl,hb2⟩;replace hB:=bt hB hb2;go_wp2_with fail
   go_ret2
   exact⟨by rw[Hw.out];rfl,hB⟩
 · have Hw:=hid (show nameR l=([],19) by rw[nameR,if_neg h]);rw[show nameOk l=false by simpa using h]at hn;clear h;go_enter Tryz.func109,Tryz.ntmps109;go_wp2_with fail
   refine((hn _)).mono ?_;rintro e w' ⟨rfl,rfl⟩;go_wp2_with fail
   go_ret2
   exact⟨by rw[Hw.out];rfl,Below.refl _ _⟩
theorem I8 (s:List UInt8)(n:Nat)(hn:n<=s.length)(hz:∀j (hj:j<s.length),n<=j->s[j]=0)(h:n=0\/∃hk:n-1<s.length,s[n-1]≠0):AK s=s.take n:=by
 have e:s=s.take n++List.replicate (s.length-n) 0:=by
  apply List.ext_getElem
  · simp;omega
  · intro j h1 h2;by_cases hj:j<n
    · rw[List.getElem_append_left (by simp;omega),List.getElem_take]
    · rw[List.getElem_append_right (by simp;omega),List.getElem_replicate,hz j h1 (by omega)]
 have h3:AK (s.take n++List.replicate (s.length-n) 0)=AK (s.take n):=by
  rw[AK,AK,Lib.trimRightB,Lib.trimRightB,List.reverse_append,List.reverse_replicate,Gj]
 rw[<-e]at h3;rw[h3]
 rcases h with rfl|⟨hk,hne⟩
 · rfl
 · rcases Nat.eq_zero_or_pos n with rfl|hp
   · rfl
   · obtain⟨m,rfl⟩:∃m,n=m+1:=⟨n-1,by omega⟩;rw[List.take_succ_eq_append_getElem (by omega)];rw[AK,Lib.trimRightB,List.reverse_append,List.reverse_singleton,List.singleton_append,List.dropWhile_cons,if_neg (by simpa using hne),List.reverse_cons,List.reverse_reverse]
theorem Oi (s:List UInt8)(hm:s.length<=maxLen)(w:World):
 Calls Tryz.prog 73 #[.string (bs s)] w fun e w'=>e=.returned (.tuple #[.string (bs (toNameR s).1),.int .i64 (toNameR s).2])/\w=w':=by
 have a3:=hm;unfold maxLen at a3;by_cases h8:s.length=8
 · have hn:=fun W n=>DG (s.take n) (by rw[List.length_take];omega) W
   have Hn:=hid hn;have Hw:=hid (show toNameR s=if nameOk (AK s)=true then(AK s,0)else([],19) by rw[toNameR,if_neg (by omega)]);clear hn;go_enter Tryz.func73,Tryz.ntmps73;go_wp2_with fail
   simp only[JL]
   go_loop [4] (fun x=>∃n:Nat,n<=s.length/\x=.int .i64 n/\Hid (∀j (hj:j<s.length),n<=j->s[j]=0)) (fun x=>(intOf x).toNat)
   case atStart=>exact⟨s.length,Nat.le_refl _,by rw[h8];rfl,hid (fun j hj h0=>by omega)⟩
   case round=>
    obtain⟨n,hn,rfl,hz⟩:=hrel;by_cases h0:0<n
    · have a2:n-1<s.length:=by omega
      have a4:IntKind.i64.wrap ((n:Int)-1)=((n-1:Nat):Int):=by rw[i64w (by omega)];omega
      have d0:decide ((0:Int)<(n:Int))=true:=decide_eq_true (by omega);by_cases hc:s[n-1]=0
      · have d1:((s[n-1].toNat:Int)==0)=true:=by rw[hc];rfl
        have Hz:=hid (fun j (hj:j<s.length)(h:n-1<=j)=>show s[j]=0 by
         rcases Nat.lt_or_ge j n with h'|h'
         · obtain rfl:j=n-1:=by omega
           exact hc
         · exact hz.out j hj h')
        clear hc hz;go_wp2_with fail
        go_round
        case rel=>exact⟨n-1,by omega,(by first|rfl|go_num),Hz⟩
        case measure=>simp[intOf];omega
      · have d1:((s[n-1].toNat:Int)==0)=false:=by
         rw[beq_eq_false_iff_ne];intro e;exact hc (UInt8.toNat_inj.1 (by simpa using e))
        have a0:n=0\/∃hk:n-1<s.length,s[n-1]≠0:=.inr ⟨a2,hc⟩;clear hc;have Ht:=hid (I8 s n hn hz.out a0);have hN:=Hn.out w n;by_cases hk:nameOk (s.take n)=true
        · have a1:=hid (show toNameR s=(s.take n,0) by rw[Hw.out,Ht.out,if_pos hk]);rw[hk]at hN;clear hk hz;go_wp2_with fail
          refine hN.mono ?_;rintro e w' ⟨rfl,rfl⟩;go_wp2_with fail
          go_ret2
          exact⟨by rw[a1.out];rfl,rfl⟩
        · have a1:=hid (show toNameR s=([],19) by rw[Hw.out,Ht.out,if_neg hk]);rw[show nameOk (s.take n)=false by simpa using hk]at hN;clear hk hz;go_wp2_with fail
          refine hN.mono ?_;rintro e w' ⟨rfl,rfl⟩;go_wp2_with fail
          go_ret2
          exact⟨by rw[a1.out];rfl,rfl⟩
    · have d0:decide ((0:Int)<(n:Int))=false:=decide_eq_false (by omega);have a0:n=0\/∃hk:n-1<s.length,s[n-1]≠0:=.inl (by omega);have Ht:=hid (I8 s n hn hz.out a0);have hN:=Hn.out w n;by_cases hk:nameOk (s.take n)=true
      · have a1:=hid (show toNameR s=(s.take n,0) by rw[Hw.out,Ht.out,if_pos hk]);rw[hk]at hN;clear hk hz;go_wp2_with fail
        refine hN.mono ?_;rintro e w' ⟨rfl,rfl⟩;go_wp2_with fail
        go_ret2
        exact⟨by rw[a1.out];rfl,rfl⟩
      · have a1:=hid (show toNameR s=([],19) by rw[Hw.out,Ht.out,if_neg hk]);rw[show nameOk (s.take n)=false by simpa using hk]at hN;clear hk hz;go_wp2_with fail
        refine hN.mono ?_;rintro e w' ⟨rfl,rfl⟩;go_wp2_with fail
        go_ret2
        exact⟨by rw[a1.out];rfl,rfl⟩
 · have Hw:=hid (show toNameR s=([],11) by rw[toNameR,if_pos h8]);have d1:((s.length:Int) !=8)=true:=bne_iff_ne.2 (by omega);clear h8;go_enter Tryz.func73,Tryz.ntmps73;go_wp2_with fail
   go_ret2
   exact⟨by rw[Hw.out];rfl,rfl⟩
theorem HU (n:Nat)(hn:n<=100)(w:World):CR 72 #[.int .i64 n] w (.string (bs (List.replicate n 0))):=by
 obtain⟨i0,hi,hz0,hz1,hz2⟩:=info_parts Tryz.infoByte;have a2:=fun W=>BK (P:=Tryz.prog) 139 5 i0 (.int .u8 0) Tryz.underlying139 hi hz0 .i64 .i64 n n (Nat.le_refl _) (by rw[hz2];omega) (by omega) W
 rw[hz1,Nat.mul_one]at a2;have a0:=run_convert_bytes_back (P:=Tryz.prog) (w.alloc (.cells (madeCells #[.int .u8 0] n) 5)) 139 9 5 ⟨w.heap.size,0,none⟩ n (List.replicate n 0) Tryz.underlying139 Tryz.underlying5 Tryz.underlying9 (fun j hj=>by
  have a1:j<n:=by simpa using hj
  have e:(Addr.add ⟨w.heap.size,0,none⟩ j)=⟨w.heap.size,j,none⟩:=by simp only[Addr.add];split<;>simp_all
  rw[e,(Blk.new w _ _).cell j,<-Array.getElem?_toList,toList_madeCells_one];simp[a1])
 rw[List.length_replicate,Ad]at a0;go_enter Tryz.func72,Tryz.ntmps72;go_wp2_with fail
 go_ret
 exact⟨rfl,Yz _⟩
theorem OQ (c:Nat):Lib.repeatL [0] c=List.replicate c 0:=by
 induction c with
 |zero=>simp[Lib.repeatL]
 |succ c ih=>simp[Lib.repeatL,ih,List.replicate_succ]
theorem Pe (n:Nat)(hn:n<=100)(w:World):CR 113 #[.int .i64 n] w (.string (bs (List.replicate n 0))):=by
 have a0:=fun W=>Tryz.strings_Repeat (bs [0]) n W (by omega) (by rw[Ab];simp;omega)
 rw[A9,OQ,Ad]at a0;generalize List.replicate n (0:UInt8)=Z at*;have hB:=Y0 w;go_enter Tryz.func113,Tryz.ntmps113;go_wp2_with fail
 refine((a0 _)).mono ?_;rintro e w1 ⟨rfl,hb1⟩;replace hB:=bt hB hb1;go_wp2_with fail
 go_ret
 exact⟨rfl,hB⟩
theorem Nw (k:Int)(w:World):Calls Tryz.prog 92 #[.int .i64 k] w fun e w'=>e=.returned (.bool (decide (0<=k/\k<256)))/\Below w.heap.size w w':=by
 by_cases h0:0<=k
 · have h1:decide (0<=k)=true:=decide_eq_true h0;by_cases h:k<256
   · have h2:decide (k<256)=true:=decide_eq_true h;have Hw:=hid (show decide (0<=k/\k<256)=true from decide_eq_true ⟨h0,h⟩);clear h0 h;go_enter Tryz.func92,Tryz.ntmps92;go_wp2_with fail
     go_ret
     exact⟨by rw[Hw.out];rfl,Below.refl _ _⟩
   · have h2:decide (k<256)=false:=decide_eq_false h;have Hw:=hid (show decide (0<=k/\k<256)=false from decide_eq_false (by omega));clear h0 h;go_enter Tryz.func92,Tryz.ntmps92;go_wp2_with fail
     go_ret
     exact⟨by rw[Hw.out];rfl,Below.refl _ _⟩
 · have h1:decide (0<=k)=false:=decide_eq_false h0;have Hw:=hid (show decide (0<=k/\k<256)=false from decide_eq_false (by omega));clear h0;go_enter Tryz.func92,Tryz.ntmps92;go_wp2_with fail
   go_ret
   exact⟨by rw[Hw.out];rfl,Below.refl _ _⟩
theorem Ie (L:Pn)(p q:Pl)(w:World)(hL:IsPn w L p q)(k:Int)(s:List UInt8)(hs:s.length<=9223372036854775807)(h:sectorOk k=false\/s.length≠64):
 CX 50 #[pval L p q,.int .i64 k,.string (bs s)] w (RetPn w.heap.size L p q (L.set k s)):=by
 have ho:=fun W=>ER k W
 have Hz:=hid (fun(W:World)(hb:Below w.heap.size w W)=>hL.below hb);clear hL;obtain⟨A1,c1⟩:=p;obtain⟨A2,c2⟩:=q;have b0:=Y0 w;obtain⟨z,zk⟩:=Z2 (apc2 (Blk.new w 63) L A1 c1 A2 c2);have a1:=Ya b0 z;have r:=Yd a1 63 #[.slice none 0 0,.slice none 0 0];simp only[Ys]at r;have rk:=blk2 r;have a3:=r.fz;have a0:=Ya a1 r;have a2:=Yc z a0;cases h1:sectorOk k with
 |false=>
  have Hw:=hid (show L.set k s=(L,10) by simp[Pn.set,h1]);rw[h1]at ho;clear h;go_enter Tryz.func50,Tryz.ntmps50;go_wp2_with fail
  refine((ho _)).mono ?_;rintro e w1 ⟨rfl,hb1⟩;replace b0:=bt a0 hb1;replace z:=a2.bl hb1;replace zk:=blk2 z;replace r:=r.bl hb1;replace rk:=blk2 r;replace a3:=r.fz;clear a1 a0 a2;go_wp2_with fail
  rw[Hw.out];have yy:=blk2 (ap2 (Aj r) L A1 c1 A2 c2);have b9:=ap2 (Ae b0 (g:=w.heap.size+1) (by omega)) L A1 c1 A2 c2;exact retPn (Hz.out _ b9) (fun _ _ h=>h) b9 (by simp[results,Tryz.results50,go_sem,yy]) rfl
 |true=>
  have h2:s.length≠64:=by rcases h with h|h;(rw[h1]at h;cases h);exact h
  have Hw:=hid (show L.set k s=(L,11) by simp[Pn.set,h1,h2]);have n0:((s.length:Int) !=64)=true:=by simp;omega
  rw[h1]at ho;clear h h2;go_enter Tryz.func50,Tryz.ntmps50;go_wp2_with fail
  refine((ho _)).mono ?_;rintro e w1 ⟨rfl,hb1⟩;replace b0:=bt a0 hb1;replace z:=a2.bl hb1;replace zk:=blk2 z;replace r:=r.bl hb1;replace rk:=blk2 r;replace a3:=r.fz;clear a1 a0 a2;go_wp2_with fail
  rw[Hw.out];have yy:=blk2 (ap2 (Aj r) L A1 c1 A2 c2);have b9:=ap2 (Ae b0 (g:=w.heap.size+1) (by omega)) L A1 c1 A2 c2;exact retPn (Hz.out _ b9) (fun _ _ h=>h) b9 (by simp[results,Tryz.results50,go_sem,yy]) rfl
theorem Ot (L:Pn)(p q:Pl)(w:World)(hL:IsPn w L p q)(k:Int)(hk: -9223372036854775808<=k/\k<=9223372036854775807)(s:List UInt8)(h1:sectorOk k=true)(h2:s.length=64)(ht:L.targets.length<=1000000)(he:L.targets.length=L.data.length):
 CX 50 #[pval L p q,.int .i64 k,.string (bs s)] w (RetPn w.heap.size L p q (L.set k s)):=by
 have ho:=fun W=>ER k W
 rw[h1]at ho;have a5:=fun(W:World)(hb:Below w.heap.size w W)=>EQ L p q k W (hL.below hb) (by omega)
 have n0:((s.length:Int) !=64)=false:=by simp;omega
 have hd:L.data.length<=1000000:=by omega
 have Hz:=hid (fun(W:World)(hb:Below w.heap.size w W)=>hL.below hb);have a4:=hL.ats;have a0:=hL.strs;have a7:=hL.pn;have a8:=hL.qn;clear hL;obtain⟨A1,c1⟩:=p;obtain⟨A2,c2⟩:=q;simp only at a7 a8;obtain⟨i1,j1,iz1,iz2,iz3⟩:=info_parts Tryz.infoIntP;obtain⟨i2,j2,jz1,jz2,jz3⟩:=info_parts Tryz.infoStrP;have He:=hid he;have H2:=hid h2;clear he h2;have b0:=Y0 w;obtain⟨z,zk⟩:=Z2 (apc2 (Blk.new w 63) L A1 c1 A2 c2);have a2:=Ya b0 z;have r:=Yd a2 63 #[.slice none 0 0,.slice none 0 0];simp only[Ys]at r;have a3:=Ya a2 r;have aa:=Yc z a3;go_enter Tryz.func50,Tryz.ntmps50;go_wp2_with fail
 refine((ho _)).mono ?_;rintro e w1 ⟨rfl,hb1⟩;replace b0:=bt a3 hb1;replace z:=aa.bl hb1;replace zk:=blk2 z;replace r:=r.bl hb1;clear a2 a3 aa;have a1:=r.lt;have i0:=Hz.out _ b0;go_wp2_with (first|(at_builtin;refine Bg rfl (.tmp 19) (.tmp 21) 23 rfl w1.heap.size 3 i1 (.int .i64 0) 1 8 Tryz.underlying23 j1 iz1 iz2 iz3 rfl (by decide) _ 0 [] rfl (World.ownsRow_nil _ _ _ _) A1 L.targets.length c1 (intCells L.targets) rfl i0.targets (by rw[CE];simp) a7 (GZ _) (by unfold maxLen;omega) (by omega) (Nat.le_refl _) ?_;intro v1 w2 hown1 hb2;rw[Nat.zero_add,List.nil_append]at hown1;obtain⟨V1,C1,rfl,f1,g1,e1⟩:=Aw hown1;have b2:=bt b0 hb2;have z2:=z.bl hb2;have ah:=blk2 z2;have r2:=r.bl hb2)|(at_builtin;refine Bg rfl (.tmp 23) (.tmp 25) 61 rfl w2.heap.size 9 i2 (.string ⟨#[]⟩) 1 16 Tryz.underlying61 j2 jz1 jz2 jz3 rfl (by decide) _ 0 [] rfl (World.ownsRow_nil _ _ _ _) A2 L.data.length c2 (strCells L.data) rfl (Hz.out _ b2).data (by rw[strCells_length];simp) a8 (Dq _) (by unfold maxLen;omega) (by omega) (Nat.le_refl _) ?_;intro v2 w3 hown2 hb3;rw[Nat.zero_add,List.nil_append]at hown2;obtain⟨V2,C2,rfl,f2,g2',e2⟩:=Aw hown2;have b3:=bt b2 hb3;have z3:=z2.bl hb3;have ar:=blk2 z3;have r3:=r2.bl hb3))
 have o1:=AB hown1 hb3;have af:=hb2.size;have aq:=hb3.size;have o2:=Bc hown2 af;clear hown1 hown2 z zk r z2 ah r2 i0 b0 b2;by_cases hm:k∈L.targets
 · obtain⟨i,hi,m1,m2,m3⟩:=Pn.find_in hm;have a6:i<L.data.length:=by have:=He.out;omega
   have Hw:=hid (show L.set k s=(⟨L.targets,L.data.set i s⟩,0) by rw[Pn.set,if_neg (by rw[h1];simp),if_neg (by have:=H2.out;omega),if_pos hm,m3]);have hf:=a5 _ b3;rw[m1]at hf;clear m1 m2 m3 hm a5;refine hf.mono ?_;rintro e w4 ⟨rfl,hb4⟩;have b4:=bt b3 hb4;have z4:=z3.bl hb4;have r4:=r3.bl hb4;have p1:=AB o1 hb4;have p2:=AB o2 hb4;have ag:=hb4.size;obtain⟨g2,rfl⟩:∃g2,V2=some ⟨g2,0,none⟩:=by
    rcases p2.2 with ⟨_,h⟩|⟨g2,cap,cur,h,_⟩
    · omega
    · injection h with h;exact⟨g2,h⟩
   have ak:=(p2.lt g2 rfl).1;have ac:¬w.heap.size+1=g2:=by omega
   have al:¬g2=w.heap.size+1:=by omega
   have ab:=p2.cellAt i (by omega);rw[show(strCells L.data)[i]? =some (.string (bs L.data[i])) by simp[strCells,a6]]at ab;have aj:=p2.frozenAt i;have st:=(p2.stored i (.string (bs s))).1;have ai:=blk2 z4;have ae:=blk2 r4;have ad:=r4.fz;obtain⟨r5,ao,am⟩:=Z2f (r4.other (a:=⟨g2,i,none⟩) ac (.string (bs s)));go_wp2_with fail
   rw[Hw.out];have yy:=blk2 (ap2 (Aj r5) L V1 C1 (some ⟨g2,0,none⟩) C2);have b9:=ap2 (Ae (b4.setCell (p:=⟨g2,i,none⟩) (by show w.heap.size<=g2;omega) (.string (bs s))) (g:=w.heap.size+1) (by omega)) L V1 C1 (some ⟨g2,0,none⟩) C2;have nb:∀b off,V1=some ⟨b,off,none⟩->b≠g2:=by
    rintro b off rfl rfl
    rcases p1.2 with ⟨h,_⟩|⟨g3,cap,cur,h,_,h3,_⟩
    · injection h with h;cases h
    · injection h with h;injection h with h;injection h with h
      subst h
      rcases p2.2 with ⟨h,_⟩|⟨g4,cap',cur',h,_,h4,_⟩
      · injection h with h;cases h
      · injection h with h;injection h with h;injection h with h
        subst h;rw[h3]at h4;injection h4 with h4
        injection h4 with _ h4
        exact absurd h4 (by decide)
   have ct:=(((Cells.of_own p1).setCell (p:=⟨g2,i,none⟩) nb (.string (bs s))).setCell (p:=⟨w.heap.size+1,0,none⟩) (AF p1 a1) (.slice V1 L.targets.length C1)).setCell (p:=⟨w.heap.size+1,1,none⟩) (AF p1 a1) (.slice (some ⟨g2,0,none⟩) L.data.length C2);have cd:=((Cells.of_own st).setCell (p:=⟨w.heap.size+1,0,none⟩) (AF st a1) (.slice V1 L.targets.length C1)).setCell (p:=⟨w.heap.size+1,1,none⟩) (AF st a1) (.slice (some ⟨g2,0,none⟩) L.data.length C2);rw[show(strCells L.data).set i (.string (bs s))=strCells (L.data.set i s) by simp[strCells,List.map_set]]at cd;refine bodyPost_ret (v:=.tuple #[pval ⟨L.targets,L.data.set i s⟩ ⟨V1,C1⟩ ⟨some ⟨g2,0,none⟩,C2⟩,.int .i64 0]) (by simp[results,Tryz.results50,go_sem,yy]) rfl ?_;refine⟨⟨_,_,rfl,⟨ct,cd,e1,e2,f1,by simpa using f2,g1,g2',a4,fun x hx=>?_⟩,fun g hg _=>⟨A7 p1 (by omega),by rw[List.length_set];exact A7 p2 (by omega)⟩⟩,b9⟩
   rcases List.mem_or_eq_of_mem_set hx with h|h
   · exact a0 x h
   · subst h;have:=H2.out;omega
 · have hf:=a5 _ b3;rw[Pn.find_out hm]at hf;clear a5;refine hf.mono ?_;rintro e w4 ⟨rfl,hb4⟩;have b4:=bt b3 hb4;have z4:=z3.bl hb4;have r4:=r3.bl hb4;have p1:=AB o1 hb4;have p2:=AB o2 hb4;have ag:=hb4.size;have ai:=blk2 z4;have ae:=blk2 r4;have ad:=r4.fz;by_cases hfull:24<=L.targets.length
   · have Hw:=hid (show L.set k s=(L,16) by rw[Pn.set,if_neg (by rw[h1];simp),if_neg (by have:=H2.out;omega),if_neg hm,if_pos hfull]);clear hm;go_wp2_with fail
     rw[Hw.out];have yy:=blk2 (ap2 (Aj r4) L A1 c1 A2 c2);have b9:=ap2 (Ae b4 (g:=w.heap.size+1) (by omega)) L A1 c1 A2 c2;exact retPn (Hz.out _ b9) (fun _ _ h=>h) b9 (by simp[results,Tryz.results50,go_sem,yy]) rfl
   · have Hw:=hid (show L.set k s=(⟨L.targets++[k],L.data++[s]⟩,0) by rw[Pn.set,if_neg (by rw[h1];simp),if_neg (by have:=H2.out;omega),if_neg hm,if_neg hfull]);clear hm;go_wp2_with (first|(at_builtin;refine wpList_append_own _ rfl (.tmp 43) (.tmp 45) 23 rfl w1.heap.size 3 i1 (.int .i64 0) 1 8 Tryz.underlying23 j1 iz1 iz2 iz3 rfl (by decide) _ L.targets.length (intCells L.targets) rfl (p1.alloc _) ⟨w4.heap.size,0,none⟩ 1 1 [.int .i64 k] rfl rfl (World.news_of_block (Blk.new w4 3 #[.int .i64 k])) (by simp[Value.oneCell']) (by unfold maxLen;omega) (by omega) (by simp;omega) ?_;intro v5 w5 h5 gr5 _;have gr5:(w4.alloc (.cells #[.int .i64 k] 3)).grownBy w5 (Value.slice V1 L.targets.length C1).ownBlock:=gr5;have q2:=(p2.alloc (.cells #[.int .i64 k] 3)).kept gr5 (Dt (p2.alloc (.cells #[.int .i64 k] 3)) (p1.alloc (.cells #[.int .i64 k] 3)) (by decide));have r5:=(r4.alloc (.cells #[.int .i64 k] 3)).kept gr5 (Bm (p1.alloc (.cells #[.int .i64 k] 3)) (r4.alloc (.cells #[.int .i64 k] 3)) (by decide));have b5:=(b4.alloc b4.size (.cells #[.int .i64 k] 3)).trans ((AW (p1.alloc (.cells #[.int .i64 k] 3)) gr5 (by simp;omega)).mono (by omega));have a9:=gr5.size;obtain⟨V5,C5,rfl,f5,g5,e5⟩:=Aw h5)|(at_builtin;refine wpList_append_own _ rfl (.tmp 47) (.tmp 49) 61 rfl w1.heap.size 9 i2 (.string ⟨#[]⟩) 1 16 Tryz.underlying61 j2 jz1 jz2 jz3 rfl (by decide) _ L.data.length (strCells L.data) rfl (q2.alloc _) ⟨w5.heap.size,0,none⟩ 1 1 [.string (bs s)] rfl rfl (World.news_of_block (Blk.new w5 9 #[.string (bs s)])) (by simp[Value.oneCell']) (by unfold maxLen;omega) (by omega) (by simp at a9 ⊢;omega) ?_;intro v6 w6 h6 gr6 _;have gr6:(w5.alloc (.cells #[.string (bs s)] 9)).grownBy w6 (Value.slice V2 L.data.length C2).ownBlock:=gr6;have h7:=(h5.alloc (.cells #[.string (bs s)] 9)).kept gr6 (Dt (h5.alloc (.cells #[.string (bs s)] 9)) (q2.alloc (.cells #[.string (bs s)] 9)) (by decide));have r6:=(r5.alloc (.cells #[.string (bs s)] 9)).kept gr6 (Bm (q2.alloc (.cells #[.string (bs s)] 9)) (r5.alloc (.cells #[.string (bs s)] 9)) (by decide));have b6:=(b5.alloc b5.size (.cells #[.string (bs s)] 9)).trans ((AW (q2.alloc (.cells #[.string (bs s)] 9)) gr6 (by simp at a9 ⊢;omega)).mono (by omega));obtain⟨V6,C6,rfl,f6,g6,e6⟩:=Aw h6;have ap:=blk2 r6;have an:=r6.frozen))
     rw[Hw.out];have yy:=blk2 (Aj r6 (.slice V5 (L.targets.length+1) C5) (.slice V6 (L.data.length+1) C6));have b9:=Ae b6 (g:=w.heap.size+1) (by omega) (.slice V5 (L.targets.length+1) C5) (.slice V6 (L.data.length+1) C6);have ct:=((Cells.of_own h7).setCell (p:=⟨w.heap.size+1,0,none⟩) (AF h7 a1) (.slice V5 (L.targets.length+1) C5)).setCell (p:=⟨w.heap.size+1,1,none⟩) (AF h7 a1) (.slice V6 (L.data.length+1) C6);have cd:=((Cells.of_own h6).setCell (p:=⟨w.heap.size+1,0,none⟩) (AF h6 a1) (.slice V5 (L.targets.length+1) C5)).setCell (p:=⟨w.heap.size+1,1,none⟩) (AF h6 a1) (.slice V6 (L.data.length+1) C6);rw[show intCells L.targets++[Value.int .i64 k]=intCells (L.targets++[k]) by simp[intCells]]at ct;rw[show strCells L.data++[Value.string (bs s)]=strCells (L.data++[s]) by simp[strCells]]at cd;refine bodyPost_ret (v:=.tuple #[pval ⟨L.targets++[k],L.data++[s]⟩ ⟨V5,C5⟩ ⟨V6,C6⟩,.int .i64 0]) (by simp[results,Tryz.results50,go_sem,yy]) rfl ?_;refine⟨⟨_,_,rfl,⟨ct,cd,e5,e6,by simpa using f5,by simpa using f6,g5,g6,fun x hx=>?_,fun x hx=>?_⟩,fun g hg _=>⟨by have:=A7 (g:=g) h7 (by omega);simpa using this,by have:=A7 (g:=g) h6 (by omega);simpa using this⟩⟩,b9⟩
     · rcases List.mem_append.1 hx with h|h
       · exact a4 x h
       · simp at h;subst h;exact hk
     · rcases List.mem_append.1 hx with h|h
       · exact a0 x h
       · simp at h;subst h;have:=H2.out;omega
theorem Cp (L:Pn)(p q:Pl)(w:World)(hL:IsPn w L p q)(k:Int)(hk: -9223372036854775808<=k/\k<=9223372036854775807)(s:List UInt8)(hs:s.length<=9223372036854775807)(ht:L.targets.length<=1000000)(he:L.targets.length=L.data.length):
 CX 50 #[pval L p q,.int .i64 k,.string (bs s)] w (RetPn w.heap.size L p q (L.set k s)):=by
 cases h1:sectorOk k with
 |false=>exact Ie L p q w hL k s hs (.inl h1)
 |true=>
  by_cases h2:s.length=64
  · exact Ot L p q w hL k hk s h1 h2 ht he
  · exact Ie L p q w hL k s hs (.inr h2)
theorem Id (D:Dk)(L:Pn)(p q p' q':Pl)(w:World)(hD:IsDk w D p q)(hL:IsPn w L p' q')(hf:D.fit=true)(hfl:L.Fit)(k o:Int)(hk: -9223372036854775808<=k/\k<=9223372036854775807)(s:List UInt8)(hs:s.length<=9223372036854775807):
 CX 95 #[dval D p q,pval L p' q',.int .i64 k,.int .i64 o,.string (bs s)] w (RetPn w.heap.size L p' q' (Pn.patch D L k o s)):=by
 have a8:=fun(W:World)(hb:Below w.heap.size w W)=>Co D L p q p' q' W (hD.below hb) (hL.below hb) k (Dk.fit_parts hf).2.2.1 (by have:=hfl.2.1;omega) hfl.1
 have ae:=fun(W:World)(hb:Below w.heap.size w W)(s:List UInt8)(hs:s.length<=9223372036854775807)=>Cp L p' q' W (hL.below hb) k hk s hs (by have:=hfl.2.1;omega) hfl.1
 have ad:=hid (fun g (hg:w.heap.size<=g)=>hL.apart hg);obtain⟨b,er,hb⟩:∃b er,Pn.look D L k=(b,er):=⟨_,_,rfl⟩;have ag:b.length<=64:=by have:=GQ hf hfl k;rw[hb]at this;exact this
 obtain⟨c,f,hc⟩:∃c f,Pn.laidOver b o s=(c,f):=⟨_,_,rfl⟩;have a7:f=0->c.length<=9223372036854775807:=by
  intro h0;rw[Pn.laidOver]at hc
  split at hc
  · injection hc with h1 h2;omega
  · injection hc with h1 h2
    rw[<-h1,Ds _ _ _ (by omega)];omega
 have a9:=fun(W:World)=>EO b s o W (by omega) hs
 rw[hc]at a9;simp only[hb]at a8;have Hp:=hid (show Pn.patch D L k o s=if er≠0 then(L,er)else if f≠0 then(L,f)else L.set k c by rw[Pn.patch,hb,hc]);have Hz:=hid (fun(W:World)(hb:Below w.heap.size w W)=>hL.below hb);clear hb hc hD hL hf hfl;obtain⟨A1,c1⟩:=p;obtain⟨A2,c2⟩:=q;obtain⟨B1,d1⟩:=p';obtain⟨B2,d2⟩:=q';have b0:=Y0 w;have x:=apc5 (Blk.new w 25) D A1 c1 A2 c2;have a2:=Ya b0 x;have z:=apc2 (Yd a2 63) L B1 d1 B2 d2;simp only[Ys]at z;have zk:=blk2 z;have a1:=Ya a2 z;have aa:=Yc x a1;have r:=Yd a1 63 #[.slice none 0 0,.slice none 0 0];simp only[Ys]at r;have rk:=blk2 r;have a4:=r.fz;have a0:=Ya a1 r;obtain⟨ab,a5⟩:=Z5 (Yc aa a0);obtain⟨ac,a6⟩:=Z2 (Yc z a0);go_enter Tryz.func95,Tryz.ntmps95;go_wp2_with fail
 refine((a8 _ a0)).mono ?_;rintro e w1 ⟨rfl,hb1⟩;replace b0:=bt a0 hb1;replace x:=ab.bl hb1;replace z:=ac.bl hb1;replace zk:=blk2 z;replace r:=r.bl hb1;replace rk:=blk2 r;replace a4:=r.fz;clear a2 a1 aa a0 a5 ab a6 ac;by_cases h1:er=0
 case neg=>
  have n1:(er !=0)=true:=by simpa using h1
  have Hr:=hid (show Pn.patch D L k o s=(L,er) by rw[Hp.out,if_pos h1]);clear h1;go_wp2_with fail
  rw[Hr.out];have yy:=blk2 (ap2 (Aj r) L B1 d1 B2 d2);have b9:=ap2 (Ae b0 (g:=w.heap.size+1+1) (by omega)) L B1 d1 B2 d2;exact retPn (Hz.out _ b9) (fun _ _ h=>h) b9 (by simp[results,Tryz.results95,go_sem,yy]) rfl
 subst h1;go_wp2_with fail
 refine((a9 _)).mono ?_;rintro e w2 ⟨rfl,hb2⟩;replace b0:=bt b0 hb2;replace x:=x.bl hb2;replace z:=z.bl hb2;replace zk:=blk2 z;replace r:=r.bl hb2;replace rk:=blk2 r;replace a4:=r.fz;have af:=r.lt;by_cases h2:f=0
 case neg=>
  have n1:(f !=0)=true:=by simpa using h2
  have Hr:=hid (show Pn.patch D L k o s=(L,f) by rw[Hp.out,if_neg (by simp),if_pos h2]);clear h2;go_wp2_with fail
  rw[Hr.out];have yy:=blk2 (ap2 (Aj r) L B1 d1 B2 d2);have b9:=ap2 (Ae b0 (g:=w.heap.size+1+1) (by omega)) L B1 d1 B2 d2;exact retPn (Hz.out _ b9) (fun _ _ h=>h) b9 (by simp[results,Tryz.results95,go_sem,yy]) rfl
 subst h2;have a3:=a7 rfl;have Hr:=hid (show Pn.patch D L k o s=L.set k c by rw[Hp.out,if_neg (by simp),if_neg (by simp)]);clear a7;go_wp2_with fail
 refine((ae _ b0 c a3)).mono ?_;rintro e w3 ⟨⟨p3,q3,rfl,i3,o3⟩,hb3⟩;replace b0:=bt b0 hb3;replace x:=x.bl hb3;replace z:=z.bl hb3;replace zk:=blk2 z;replace r:=r.bl hb3;replace rk:=blk2 r;replace a4:=r.fz;go_wp2_with fail
 rw[Hr.out];have ho:=o3 (w.heap.size+1+1) af (ad.out _ (by omega));have yy:=blk2 (Aj r (.slice p3.a (L.set k c).1.targets.length p3.c) (.slice q3.a (L.set k c).1.data.length q3.c));have b9:=Ae b0 (g:=w.heap.size+1+1) (by omega) (.slice p3.a (L.set k c).1.targets.length p3.c) (.slice q3.a (L.set k c).1.data.length q3.c);exact retPn (i3.off2 ho _ _) (fun g hg h=>o3 g (by omega) h) b9 (by simp[results,Tryz.results95,go_sem,yy]) rfl
end
section
open Go.RowKit Go.Shelf
theorem Cells.grown {w w':World}{A:Option Addr}{cs:List Value}{G n:Nat}(h:Cells w A cs)(hg:w.grownBy w' (some G))(ho:Off G A n)(hn:n=0->cs=[]):Cells w' A cs:=by
 rcases ho with h0|ho
 · exact .inl (hn h0)
 rcases h with h|⟨b,off,e,hc⟩
 · exact .inl h
 · refine .inr ⟨b,off,e,fun j u hu=>?_⟩;have h1:=hc j u hu;have h2:=Bb h1;rw[World.cell?_of_block (w:=w) (a:=⟨b,off+j,none⟩) (hg.block b h2 (by intro e';injection e' with e';exact ho b off e e'))];exact h1
theorem IsPn.grown {w w':World}{L:Pn}{p q:Pl}{G:Nat}(h:IsPn w L p q)(hg:w.grownBy w' (some G))(ho:PnOff G L p q):IsPn w' L p q:=
 {h with targets:=h.targets.grown hg ho.1 (fun e=>by rw[List.length_eq_zero_iff.1 e];rfl),data:=h.data.grown hg ho.2 (fun e=>by rw[List.length_eq_zero_iff.1 e];rfl)}
theorem IsDk.grown {w w':World}{D:Dk}{p q:Pl}{G:Nat}(h:IsDk w D p q)(hg:w.grownBy w' (some G))(ho:DkOff G D p q):IsDk w' D p q:=
 {h with cache:=h.cache.grown hg ho.1 (fun e=>by rw[List.length_eq_zero_iff.1 e];rfl),bad:=h.bad.grown hg ho.2 (fun e=>by rw[List.length_eq_zero_iff.1 e];rfl)}
theorem LG {w w':World}(h:Below w.heap.size w w')(G:Nat):w.grownBy w' (some G):=⟨h.os,h.tape,h.output,h.size,fun k hk _=>h.block k hk⟩
theorem Cb {a b:World}{G B:Nat}(h:a.grownBy b (some G))(hB:B<=G)(hs:B<=a.heap.size):Below B a b:=⟨h.os,h.tape,h.output,h.size,fun k hk=>h.block k (by omega) (by intro e;injection e with e;omega)⟩
theorem Blk.grown {a b:World}{G k:Nat}{t:TypeId}{cs:Array Value}(h:Blk a k t cs)(hg:a.grownBy b (some G))(hk:k≠G):Blk b k t cs:=h.kept hg (by intro e;injection e with e;exact hk e)
theorem Bh {w w':World}{g:Nat}(h:w.grownBy w' (some g))(o:Nat)(v:Value):w.grownBy (w'.setCell ⟨g,o,none⟩ v) (some g):=
 ⟨h.os,h.tape,h.output,by simpa using h.size,fun k hk hne=>(Below.heap_setCell w' ⟨g,o,none⟩ v k (fun e=>hne (by rw[e]))).trans (h.block k hk hne)⟩
theorem Eo {w w':World}{g:Nat}(h:w.grownBy w' (some g))(v0 v1 v2 v3 v4 v5:Value):
 w.grownBy ((((((w'.setCell ⟨g,0,none⟩ v0).setCell ⟨g,1,none⟩ v1).setCell ⟨g,2,none⟩ v2).setCell ⟨g,3,none⟩ v3).setCell ⟨g,4,none⟩ v4).setCell ⟨g,5,none⟩ v5) (some g):=
 Bh (Bh (Bh (Bh (Bh (Bh h 0 v0) 1 v1) 2 v2) 3 v3) 4 v4) 5 v5
theorem CD {w w1 w2:World}{g:Nat}(h:w.grownBy w1 (some g))(h2:Below w1.heap.size w1 w2):w.grownBy w2 (some g):=
 ⟨h2.os.trans h.os,h2.tape.trans h.tape,h2.output.trans h.output,Nat.le_trans h.size h2.size,fun k hk hne=>(h2.block k (Nat.lt_of_lt_of_le hk h.size)).trans (h.block k hk hne)⟩
theorem De (w:World)(g:Nat):w.grownBy w (some g):=⟨rfl,rfl,rfl,Nat.le_refl _,fun _ _ _=>rfl⟩
section
variable {P:Program} {Q:Exit->Act->World->Prop}
theorem G3 {o:Oper}{a:Act}{w w':World}{f:FuncId}{args:Array Value}{K:Act->World->Prop}(hr:(execOp a.eval o).run P w=.ok (.enter f args) w')
 (h:Calls P f args w' fun e w''=>∃v,e=.returned v/\K (a.put o.dst v) w''):o.wp P a w K Q:=by
 simp only[Oper.wp,hr,Oper.upon];refine h.mono ?_;rintro e w'' ⟨v,rfl,hv⟩;exact hv
end
attribute [local go_sem] Ad Af Ag Ab Ai Ah
theorem NA (L:Pn)(p q:Pl)(w:World)(hL:IsPn w L p q)(ht:L.targets.length<=1000000)(he:L.targets.length=L.data.length)(l n:Nat)(hl:l<256)(hn:n<4294967296):
 CX 51 #[pval L p q,rval l n] w (RetPn w.heap.size L p q (L.set 1 (rtHead l n))):=by
 have hc:=fun W=>HB l W
 rw[decide_eq_true hl]at hc;have hh:=fun W=>HQ l n (by omega) hn W
 have hs:=fun(W:World)(hb:Below w.heap.size w W)=>Cp L p q W (hL.below hb) 1 (by decide) (rtHead l n) (by rw[O0];decide) ht he
 have oP:∀B,w.heap.size<=B->PnOff B L p q:=fun B hB=>hL.apart hB
 generalize rtHead l n=T at*;generalize L.set 1 T=R at*;clear hL ht he hl;obtain⟨B1,b1⟩:=p;obtain⟨B2,b2⟩:=q;have hB:=Y0 w;obtain⟨z,zk⟩:=Z2 (apc2 (Blk.new w 63) L B1 b1 B2 b2);have a2:=Ya hB z;have y:=Yd a2 95 #[.int .i64 l,.int .u32 n];simp only[Ys]at y;have yk:=blk2 y;have a1:=Ya a2 y;have a8:=Yc z a1;have r:=Yd a1 63 #[.slice none 0 0,.slice none 0 0];simp only[Ys]at r;have rk:=blk2 r;have ab:=r.fz;have a0:=Ya a1 r;obtain⟨a6,a4⟩:=Z2 (Yc a8 a0);obtain⟨a5,a3⟩:=Z2 (Yc y a0);go_enter Tryz.func51,Tryz.ntmps51;go_wp2_with fail
 generalize (((w.alloc (.cells #[.slice B1 L.targets.length b1,.slice B2 L.data.length b2] 63)).alloc (.cells #[.int .i64 l,.int .u32 n] 95)).alloc (.cells #[.slice none 0 0,.slice none 0 0] 63))=V at a0 a6 a4 a5 a3 r rk ab ⊢;clear a2 a1 a8 hB z y zk yk;have hB:=a0;have z:=a6;have zk:=a4;have y:=a5;have yk:=a3;clear a0 a6 a4 a5 a3;refine(hc _).mono ?_;rintro e w5 ⟨rfl,rfl⟩;have nz:w.heap.size≠w.heap.size+1+1:=by omega
 have ny:w.heap.size+1≠w.heap.size+1+1:=by omega
 have KZ:=fun(W:World)(hW:w5.grownBy W (some (w.heap.size+1+1)))=>blk2 (z.grown hW nz)
 have KY:=fun(W:World)(hW:w5.grownBy W (some (w.heap.size+1+1)))=>blk2 (y.grown hW ny)
 have a7:=hB.size;go_wp2_with fail
 have s0:w5.grownBy w5.drew (some (w.heap.size+1+1)):=LG (Below.refl _ _).drew _;have r0:=r.drew;refine AV (S:=fun W=>w5.grownBy W (some (w.heap.size+1+1))) (late:=fun _=>false) (by kernel_rfl) ?_;generalize w5.drew=U0 at s0 r0 ⊢;simp only[Nat.reduceAdd,Yn];refine Yu 0 (some 11) (pval L ⟨B1,b1⟩ ⟨B2,b2⟩) rfl (by kernel_rfl) (fun _ _ _ h=>h) (fun W hW=>by have h9:=KZ W hW;go_simp) s0 ?_;simp only[Yf];refine Yu 1 (some 12) (rval l n) rfl (by kernel_rfl) (fun _ _ _ h=>h) (fun W hW=>by have h9:=KY W hW;go_simp) s0 ?_;simp only[Yf];refine Ak (i:=2) (by kernel_rfl) rfl rfl (fun K' hK=>?_);refine G3 (f:=93) (args:=#[rval l n]) (w':=U0) (by go_simp) ((hh U0).mono ?_);rintro e U1 ⟨rfl,hb1⟩;refine⟨_,rfl,?_⟩;show K' (Act.put _ (some 13) _) _;have s1:=CD s0 hb1;have r1:=r0.bl hb1;refine hK _ _ (fun _ _=>s1) ?_;simp only[Yf];refine Ak (i:=3) (by kernel_rfl) rfl rfl (fun K' hK=>?_);refine G3 (f:=50) (args:=#[pval L ⟨B1,b1⟩ ⟨B2,b2⟩,.int .i64 1,.string (bs T)]) (w':=U1) (by go_simp) ((hs U1 (hB.trans (Cb s1 (by omega) a7))).mono ?_);rintro e U2 ⟨⟨p6,q6,rfl,i6,o6⟩,hb2⟩;refine⟨_,rfl,?_⟩;show K' (Act.put _ (some 14) _) _;have s2:=CD s1 hb2;have aa:=o6 (w.heap.size+1+1) r1.lt (oP _ (by omega));have r2:=r1.bl hb2;have a9:=hB.trans (Cb s2 (by omega) a7);have O6:∀g,g<w.heap.size->PnOff g L ⟨B1,b1⟩ ⟨B2,b2⟩->PnOff g R.1 p6 q6:=fun g h1 h2=>o6 g (by have:=s1.size;omega) h2
 refine hK _ _ (fun _ _=>s2) ?_;simp only[Yf];refine Yt 4 15 (pval R.1 p6 q6) rfl (by kernel_rfl) (fun _ _ _ h=>h) (fun W=>by first|rfl|go_simp) ?_;simp only[Yf];refine Yt 5 16 (.int .i64 R.2) rfl (by kernel_rfl) (fun _ _ _ h=>h) (fun W=>by first|rfl|go_simp) ?_;simp only[Yf];refine Ak (i:=6) (by kernel_rfl) rfl rfl (fun K' hK=>?_);refine Ay (w':=(U2.setCell ⟨w.heap.size+1+1,0,none⟩ (.slice p6.a R.1.targets.length p6.c)).setCell ⟨w.heap.size+1+1,1,none⟩ (.slice q6.a R.1.data.length q6.c)) (by have f1:=r2.frozen;have z1:=blk2 r2;have qq:=r2.set 0 (.slice p6.a R.1.targets.length p6.c);have ac:=qq.frozen;have u1:=blk2 qq;go_simp) ?_;show K' (Act.put _ none _) _;have s3:=Bh (Bh s2 0 (.slice p6.a R.1.targets.length p6.c)) 1 (.slice q6.a R.1.data.length q6.c);have yy:=blk2 (ap2 (Aj r2) R.1 p6.a p6.c q6.a q6.c);have i8:=ap2 (i6.off2 aa) R.1 p6.a p6.c q6.a q6.c;have b8:=ap2 (Ae a9 (g:=w.heap.size+1+1) (by omega)) R.1 p6.a p6.c q6.a q6.c;refine hK _ _ (fun _ _=>s3) ?_
 try simp only[Yf]
 refine Yt 7 5 (.int .i64 R.2) rfl (by kernel_rfl) (fun _ _ _ h=>h) (fun W=>by first|rfl|go_simp) ?_;simp only[Yf];refine AD (by kernel_rfl) ?_ _;go_wp2_with fail
 exact retPn i8 O6 b8 (by simp[results,Tryz.results51,go_sem,yy]) rfl
theorem Nz (L:Pn)(p q:Pl)(w:World)(hL:IsPn w L p q)(ht:L.targets.length<=1000000)(he:L.targets.length=L.data.length)(l:Int)(n:Nat)(hn:n<4294967296):
 CX 51 #[pval L p q,.agg #[.int .i64 l,.int .u32 n]] w (RetPn w.heap.size L p q (Pn.rtSet L l n)):=by
 by_cases h:l<0\/256<=l
 · have hc:=fun W=>Nw l W
   rw[decide_eq_false (show¬(0<=l/\l<256) by omega)]at hc;have Hr:=hid (show Pn.rtSet L l n=(L,10) by rw[Pn.rtSet,if_pos h]);have hz:=hL;have a9:=fun g (hg:w.heap.size<=g)=>hL.apart hg
   clear hL h ht he hn;obtain⟨A1,a1⟩:=p;obtain⟨A2,a2⟩:=q;have hB:=Y0 w;obtain⟨x,xk⟩:=Z2 (apc2 (Blk.new w 63) L A1 a1 A2 a2);have a4:=Ya hB x;have y:=Yd a4 95 #[.int .i64 l,.int .u32 n];simp only[Ys]at y;have a0:=Ya a4 y;have a6:=Yc x a0;have r:=Yd a0 63 #[.slice none 0 0,.slice none 0 0];simp only[Ys]at r;have rk:=blk2 r;have aa:=r.fz;have a3:=Ya a0 r;have a7:=Yc a6 a3;obtain⟨a8,a5⟩:=Z2 (Yc y a3);go_enter Tryz.func51,Tryz.ntmps51;go_wp2_with fail
   refine((hc _)).mono ?_;rintro e w1 ⟨rfl,hb1⟩;replace hB:=bt a3 hb1;replace x:=a7.bl hb1;replace xk:=blk2 x;replace y:=a8.bl hb1;replace r:=r.bl hb1;replace rk:=blk2 r;replace aa:=r.fz;clear a4 a0 a6 a3 a7 a5 a8;go_wp2_with fail
   have i0:=hz.below hB;have yy:=blk2 (ap2 (Aj r) L A1 a1 A2 a2);have i2:=ap2 (i0.off2 (g:=w.heap.size+1+1) (a9 _ (by omega))) L A1 a1 A2 a2;have b8:=ap2 (Ae hB (g:=w.heap.size+1+1) (by omega)) L A1 a1 A2 a2;rw[Hr.out];exact retPn i2 (fun g _ h=>h) b8 (by simp[results,Tryz.results51,go_sem,yy]) rfl
 · obtain⟨l,rfl⟩:=Int.eq_ofNat_of_zero_le (show 0<=l by omega);refine(NA L p q w hL ht he l n (by omega) hn).mono ?_;rintro e w' ⟨h1,h2⟩;rw[show Pn.rtSet L l n=L.set 1 (rtHead l n) by rw[Pn.rtSet,if_neg h,Int.toNat_natCast]];exact⟨h1,h2⟩
theorem QE (n:Nat):Lib.trimB (List.replicate n 0) 0=[]:=by
 have h:Lib.trimRightB (List.replicate n (0:UInt8)) 0=[]:=by
  have:=Qz (s:=[]) (fun x hx=>nomatch hx) n;rw[List.nil_append]at this;exact this
 rw[Lib.trimB,h];rfl
theorem QD {l:List UInt8}(h:l≠List.replicate l.length 0):Lib.trimB l 0≠[]:=fun e=>by
 obtain⟨n,hn⟩:=I7 l;have h2:Lib.trimLeftB (AK l) 0=[]:=e;have h3:∀m:List UInt8,Lib.trimLeftB m 0=[]->m=List.replicate m.length 0:=fun m hm=>by
  have h4:m.dropWhile (· ==0)=[]:=hm
  induction m with
  |nil=>rfl
  |cons a m ih=>
   rw[List.dropWhile_cons]at h4
   split at h4
   · rename_i ha
     have ha:a=0:=by simpa using ha
     rw[ha,List.length_cons,List.replicate_succ,<-ih h4 h4]
   · cases h4
 have h5:=h3 _ h2;apply h
 have h6:l=List.replicate ((AK l).length+n) 0:=by
  rw[<-List.replicate_append_replicate,<-h5];exact hn
 rw[h6];simp
end
end Go.Proofs.YtmiilfnchfdfcaaGreatDoor
