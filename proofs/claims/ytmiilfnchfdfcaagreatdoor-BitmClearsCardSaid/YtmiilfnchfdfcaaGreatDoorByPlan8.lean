/- By: Plan4, Plan7, PackOver, Plan8. -/
import Derived.Test.YtmiilfnchfdfcaaGreatDoorBySuper1
import Derived.Deep.DeepCutAuto
import Derived.Deep.RegionLaw
import Derived.Deep.CutBlock
set_option maxRecDepth 100000
set_option maxHeartbeats 40000000
set_option linter.unusedVariables false
namespace Go.Proofs.YtmiilfnchfdfcaaGreatDoor
section
open Go.RowKit Go.Shelf
attribute [local go_sem] Ad Ag Ah Ac Aj Ai
theorem Ab {w w1 W W':World}{a b:Addr}{v1 v2:Value}(h:(W.cell? a=some v1/\W.cell? b=some v2)/\Below w.heap.size w W/\Below w1.heap.size w1 W)(hb:Below W.heap.size W W'):
 (W'.cell? a=some v1/\W'.cell? b=some v2)/\Below w.heap.size w W'/\Below w1.heap.size w1 W':=
 ⟨⟨Av hb h.1.1,Av hb h.1.2⟩,bt h.2.1 hb,bt h.2.2 hb⟩
theorem BD {w w1 W:World}{v1 v2 u v:Value}{k g:Nat}(h:(W.cell? ⟨k,0,none⟩=some v1/\W.cell? ⟨k,1,none⟩=some v2)/\Below w.heap.size w W/\Below w1.heap.size w1 W)(h1:k≠g)(h2:w.heap.size<=g)(h3:w1.heap.size<=g):
 ((((W.setCell ⟨g,0,none⟩ u).setCell ⟨g,1,none⟩ v).cell? ⟨k,0,none⟩=some v1/\((W.setCell ⟨g,0,none⟩ u).setCell ⟨g,1,none⟩ v).cell? ⟨k,1,none⟩=some v2))/\Below w.heap.size w ((W.setCell ⟨g,0,none⟩ u).setCell ⟨g,1,none⟩ v)/\Below w1.heap.size w1 ((W.setCell ⟨g,0,none⟩ u).setCell ⟨g,1,none⟩ v):=by
 refine⟨⟨?_,?_⟩,(h.2.1.setCell (p:=⟨g,0,none⟩) h2 _).setCell (p:=⟨g,1,none⟩) h2 _,(h.2.2.setCell (p:=⟨g,0,none⟩) h3 _).setCell (p:=⟨g,1,none⟩) h3 _⟩
 · rw[World.cell?_setCell_other _ _ _ _ (by intro e;injection e with e;exact h1 e.symm),World.cell?_setCell_other _ _ _ _ (by intro e;injection e with e;exact h1 e.symm)];exact h.1.1
 · rw[World.cell?_setCell_other _ _ _ _ (by intro e;injection e with e;exact h1 e.symm),World.cell?_setCell_other _ _ _ _ (by intro e;injection e with e;exact h1 e.symm)];exact h.1.2
theorem AD {w w':World}{base:Nat}{e:TypeId}{size n:Nat}{v:Value}{xs:List Value}(h:w.ownsRow base e size v n xs)(hb:Below w.heap.size w w'):w'.ownsRow base e size v n xs:=by
 refine⟨h.1,?_⟩
 rcases h.2 with h'|⟨g,cap,cur,h1,h2,h3,h4⟩
 · exact .inl h'
 · exact .inr ⟨g,cap,cur,h1,h2,(hb.block g (Array.getElem?_eq_some_iff.1 h3).1).trans h3,h4⟩
theorem Bb {w:World}{base base':Nat}{e:TypeId}{size n:Nat}{v:Value}{xs:List Value}(h:w.ownsRow base' e size v n xs)(hb:base<=base'):w.ownsRow base e size v n xs:=by
 refine⟨h.1,?_⟩
 rcases h.2 with h'|⟨g,cap,cur,h1,h2,h3⟩
 · exact .inl h'
 · exact .inr ⟨g,cap,cur,h1,by omega,h3⟩
def SetMade (w1 W:World)(L:Pn)(v:Value):Prop:=∃g B1 e1 B2 e2,v=.pointer (some ⟨g,0,none⟩)/\w1.heap.size<=g/\Blk W g 63 #[.slice B1 L.targets.length e1,.slice B2 L.data.length e2]/\
 W.ownsRow w1.heap.size 3 1 (.slice B1 L.targets.length e1) L.targets.length (intCells L.targets)/\W.ownsRow w1.heap.size 9 1 (.slice B2 L.data.length e2) L.data.length (strCells L.data)/\Below w1.heap.size w1 W
theorem Gm (L:Pn)(p q:Pl)(w:World)(hL:IsPn w L p q)(k:Int)(s:List UInt8)(h1:sectorOk k=true)(h2:s.length=64)(ht:L.targets.length<=1000000)(hd:L.data.length<=1000000)(he:L.targets.length=L.data.length)(hcase:k∈L.targets\/24<=L.targets.length):
 Calls Tryz.prog 77 #[pval L p q,.int .i64 k,.string (bs s)] w fun e w'=>RetPn w.heap.size L p q (L.set k s) e w'/\Below w.heap.size w w':=by
 have ho:=fun W=>Cv k W
 rw[h1]at ho;have n0:((s.length:Int) !=64)=false:=by simp;omega
 have hc1:=fun(W:World)(hb:Below w.heap.size w W)=>EZ p.a L.targets p.c W (hL.targets.below hb) (by omega) hL.pn
 have hc2:=fun(W:World)(hb:Below w.heap.size w W)=>E5 q.a L.data q.c W (hL.data.below hb) (by omega) hL.qn
 obtain⟨A1,c1⟩:=p;obtain⟨A2,c2⟩:=q;simp only at hc1 hc2;have x0:=(Blk.new w 63 #[.slice A1 L.targets.length c1,.slice A2 L.data.length c2]).alloc (.cells #[.slice none 0 0,.slice none 0 0] 63);have b0:=Ap w (.cells #[.slice A1 L.targets.length c1,.slice A2 L.data.length c2] 63) (.cells #[.slice none 0 0,.slice none 0 0] 63);have z0:=Blk.new (w.alloc (.cells #[.slice A1 L.targets.length c1,.slice A2 L.data.length c2] 63)) 63 #[.slice none 0 0,.slice none 0 0];simp only[Ys]at z0;have He:=hid he;clear he;have Hsz:=hid (show((w.alloc (.cells #[.slice A1 L.targets.length c1,.slice A2 L.data.length c2] 63)).alloc (.cells #[.slice none 0 0,.slice none 0 0] 63)).heap.size=w.heap.size+2 by simp);go_enter Tryz.func77,Tryz.ntmps77;go_wp2_with fail
 go_at_call 114;refine(ho _).mono ?_;rintro e w1 ⟨rfl,rfl⟩;go_upto_region 5 with fail
 generalize (w.alloc (.cells #[.slice A1 L.targets.length c1,.slice A2 L.data.length c2] 63)).alloc (.cells #[.slice none 0 0,.slice none 0 0] 63)=w1 at*;have y0:=blk2 x0;have s0:(w1.drew.cell? ⟨w.heap.size,0,none⟩=some (.slice A1 L.targets.length c1)/\w1.drew.cell? ⟨w.heap.size,1,none⟩=some (.slice A2 L.data.length c2))/\Below w.heap.size w w1.drew/\Below w1.heap.size w1 w1.drew:=⟨y0,b0.drew,(Below.refl _ _).drew⟩
 go_cut [8] (fun s8 wx=>SetMade w1 wx L s8)
 case first=>
  go_region_held3 (fun W=>(W.cell? ⟨w.heap.size,0,none⟩=some (.slice A1 L.targets.length c1)/\W.cell? ⟨w.heap.size,1,none⟩=some (.slice A2 L.data.length c2))/\Below w.heap.size w W/\Below w1.heap.size w1 W)
   (first|exact s0|exact⟨y0,b0,Below.refl _ _⟩|exact Ab (s0) hbl1|exact Ab (s0) hbl2|exact Ab (s0) (Yz _)|exact Ab (Ab (s0) hbl1) hbl2|exact Ab (Ab (s0) hbl2) hbl1|exact Ab (Ab (s0) hbl1) (Yz _)|exact Ab (Ab (s0) (Yz _)) hbl1|exact Ab (Ab (s0) hbl2) (Yz _)|exact Ab (Ab (s0) (Yz _)) hbl2|exact Ab (Ab (Ab (s0) hbl1) hbl2) (Yz _)|exact Ab (Ab (Ab (s0) hbl1) (Yz _)) hbl2|exact Ab (Ab (Ab (s0) (Yz _)) hbl1) hbl2|exact Ab (Ab (Ab (s0) hbl2) hbl1) (Yz _)|exact Ab (Ab (Ab (s0) hbl2) (Yz _)) hbl1|exact Ab (Ab (Ab (s0) (Yz _)) hbl2) hbl1|exact BD (Ab (Ab (Ab (s0) hbl1) (Yz _)) hbl2) (by first|(have z:w1.heap.size<=W1.heap.size:=hbl1.size;have z0:=Hsz.out;omega)|(have z:w1.heap.size<=W2.heap.size:=hbl2.size;have z0:=Hsz.out;omega)|(have z:w1.drew.heap.size=w1.heap.size:=rfl;have z0:=Hsz.out;omega)) (by first|(have z:w1.heap.size<=W1.heap.size:=hbl1.size;have z0:=Hsz.out;omega)|(have z:w1.heap.size<=W2.heap.size:=hbl2.size;have z0:=Hsz.out;omega)|(have z:w1.drew.heap.size=w1.heap.size:=rfl;have z0:=Hsz.out;omega)) (by first|(have z:w1.heap.size<=W1.heap.size:=hbl1.size;have z0:=Hsz.out;omega)|(have z:w1.heap.size<=W2.heap.size:=hbl2.size;have z0:=Hsz.out;omega)|(have z:w1.drew.heap.size=w1.heap.size:=rfl;have z0:=Hsz.out;omega))|exact BD (Ab (Ab (Ab (s0) (Yz _)) hbl1) hbl2) (by first|(have z:w1.heap.size<=W1.heap.size:=hbl1.size;have z0:=Hsz.out;omega)|(have z:w1.heap.size<=W2.heap.size:=hbl2.size;have z0:=Hsz.out;omega)|(have z:w1.drew.heap.size=w1.heap.size:=rfl;have z0:=Hsz.out;omega)) (by first|(have z:w1.heap.size<=W1.heap.size:=hbl1.size;have z0:=Hsz.out;omega)|(have z:w1.heap.size<=W2.heap.size:=hbl2.size;have z0:=Hsz.out;omega)|(have z:w1.drew.heap.size=w1.heap.size:=rfl;have z0:=Hsz.out;omega)) (by first|(have z:w1.heap.size<=W1.heap.size:=hbl1.size;have z0:=Hsz.out;omega)|(have z:w1.heap.size<=W2.heap.size:=hbl2.size;have z0:=Hsz.out;omega)|(have z:w1.drew.heap.size=w1.heap.size:=rfl;have z0:=Hsz.out;omega))|exact BD (Ab (Ab (Ab (s0) hbl2) (Yz _)) hbl1) (by first|(have z:w1.heap.size<=W1.heap.size:=hbl1.size;have z0:=Hsz.out;omega)|(have z:w1.heap.size<=W2.heap.size:=hbl2.size;have z0:=Hsz.out;omega)|(have z:w1.drew.heap.size=w1.heap.size:=rfl;have z0:=Hsz.out;omega)) (by first|(have z:w1.heap.size<=W1.heap.size:=hbl1.size;have z0:=Hsz.out;omega)|(have z:w1.heap.size<=W2.heap.size:=hbl2.size;have z0:=Hsz.out;omega)|(have z:w1.drew.heap.size=w1.heap.size:=rfl;have z0:=Hsz.out;omega)) (by first|(have z:w1.heap.size<=W1.heap.size:=hbl1.size;have z0:=Hsz.out;omega)|(have z:w1.heap.size<=W2.heap.size:=hbl2.size;have z0:=Hsz.out;omega)|(have z:w1.drew.heap.size=w1.heap.size:=rfl;have z0:=Hsz.out;omega))|exact BD (Ab (Ab (Ab (s0) (Yz _)) hbl2) hbl1) (by first|(have z:w1.heap.size<=W1.heap.size:=hbl1.size;have z0:=Hsz.out;omega)|(have z:w1.heap.size<=W2.heap.size:=hbl2.size;have z0:=Hsz.out;omega)|(have z:w1.drew.heap.size=w1.heap.size:=rfl;have z0:=Hsz.out;omega)) (by first|(have z:w1.heap.size<=W1.heap.size:=hbl1.size;have z0:=Hsz.out;omega)|(have z:w1.heap.size<=W2.heap.size:=hbl2.size;have z0:=Hsz.out;omega)|(have z:w1.drew.heap.size=w1.heap.size:=rfl;have z0:=Hsz.out;omega)) (by first|(have z:w1.heap.size<=W1.heap.size:=hbl1.size;have z0:=Hsz.out;omega)|(have z:w1.heap.size<=W2.heap.size:=hbl2.size;have z0:=Hsz.out;omega)|(have z:w1.drew.heap.size=w1.heap.size:=rfl;have z0:=Hsz.out;omega)))
   (first|(go_at_call 115;refine(hc1 _ (by first|exact s0.2.1|exact(Ab (s0) hbl2).2.1|exact(Ab (s0) (Yz _)).2.1|exact(Ab (Ab (s0) hbl2) (Yz _)).2.1|exact(Ab (Ab (s0) (Yz _)) hbl2).2.1)).mono ?_;rintro e W1 ⟨v1,rfl,hown1,hbl1⟩;obtain⟨B1,e1,rfl,f1,g1,i1⟩:=Az hown1;first|(have qb1:Blk W1 w1.heap.size 63 #[.slice none 0 0,.slice none 0 0]:=(Blk.new w1.drew 63 #[.slice none 0 0,.slice none 0 0]).below hbl1 (Blk.new w1.drew 63 #[.slice none 0 0,.slice none 0 0]).lt;have qc1:=blk2 qb1;have qf1:=qb1.frozen)|(have qb1:=(Blk.new W2 63 #[.slice none 0 0,.slice none 0 0]).below hbl1 (Blk.new W2 63 #[.slice none 0 0,.slice none 0 0]).lt;have qc1:=blk2 qb1;have qf1:=qb1.frozen)|(have qb1:=qb2.below hbl1 qb2.lt;have qc1:=blk2 qb1;have qf1:=qb1.frozen)|skip)|(go_at_call 116;refine(hc2 _ (by first|exact s0.2.1|exact(Ab (s0) hbl1).2.1|exact(Ab (s0) (Yz _)).2.1|exact(Ab (Ab (s0) hbl1) (Yz _)).2.1|exact(Ab (Ab (s0) (Yz _)) hbl1).2.1)).mono ?_;rintro e W2 ⟨v2,rfl,hown2,hbl2⟩;obtain⟨B2,e2,rfl,f2,g2,i2⟩:=Az hown2;first|(have qb2:Blk W2 w1.heap.size 63 #[.slice none 0 0,.slice none 0 0]:=(Blk.new w1.drew 63 #[.slice none 0 0,.slice none 0 0]).below hbl2 (Blk.new w1.drew 63 #[.slice none 0 0,.slice none 0 0]).lt;have qc2:=blk2 qb2;have qf2:=qb2.frozen)|(have qb2:=(Blk.new W1 63 #[.slice none 0 0,.slice none 0 0]).below hbl2 (Blk.new W1 63 #[.slice none 0 0,.slice none 0 0]).lt;have qc2:=blk2 qb2;have qf2:=qb2.frozen)|(have qb2:=qb1.below hbl2 qb1.lt;have qc2:=blk2 qb2;have qf2:=qb2.frozen)|skip))
  · go_wp2_with fail
    go_meet
    have z1:w1.heap.size<=W1.heap.size:=hbl1.size;have z2:W1.heap.size<=W2.heap.size:=hbl2.size;exact⟨W2.heap.size,B1,e1,B2,e2,rfl,by omega,Blk.new W2 _ _,AD (AD hown1 hbl2) (Yz _),Bb (AD hown2 (Yz _)) z1,(Ab (Ab (s0) hbl1) hbl2).2.2.alloc (by omega) _⟩
  · go_wp2_with fail
    go_meet
    have z1:w1.heap.size<=W1.heap.size:=hbl1.size;have qb:Blk ((W2.setCell ⟨W1.heap.size,0,none⟩ (.slice B1 L.targets.length e1)).setCell ⟨W1.heap.size,1,none⟩ (.slice B2 L.data.length e2)) W1.heap.size 63 #[.slice B1 L.targets.length e1,.slice B2 L.data.length e2]:=by
     have:=(qb2.set 0 (.slice B1 L.targets.length e1)).set 1 (.slice B2 L.data.length e2);simpa using this
    have r1:=AD (AD hown1 (Yz (.cells #[.slice none 0 0,.slice none 0 0] 63))) hbl2;have nb:Value.ownBlock (.slice B1 L.targets.length e1)≠some W1.heap.size:=fun e=>by have:=(hown1.lt _ e).2;omega
    have r2:=Bb (base:=w1.heap.size) (ownsRow_setCell_below (ownsRow_setCell_below hown2 (a:=⟨W1.heap.size,0,none⟩) (by simp) (.slice B1 L.targets.length e1)) (a:=⟨W1.heap.size,1,none⟩) (by simp) (.slice B2 L.data.length e2)) (by simp;omega);exact⟨W1.heap.size,B1,e1,B2,e2,rfl,z1,qb,ownsRow_setCell_other (ownsRow_setCell_other r1 (a:=⟨W1.heap.size,0,none⟩) nb (.slice B1 L.targets.length e1)) (a:=⟨W1.heap.size,1,none⟩) nb (.slice B2 L.data.length e2),r2,
     ((Ab (Ab (Ab (s0) hbl1) (Yz _)) hbl2).2.2.setCell (p:=⟨W1.heap.size,0,none⟩) z1 _).setCell (p:=⟨W1.heap.size,1,none⟩) z1 _⟩
  · go_wp2_with fail
    go_meet
    have z1:w1.heap.size+1<=W1.heap.size:=by have:=hbl1.size;simpa using this
    have qb:Blk ((W2.setCell ⟨w1.heap.size,0,none⟩ (.slice B1 L.targets.length e1)).setCell ⟨w1.heap.size,1,none⟩ (.slice B2 L.data.length e2)) w1.heap.size 63 #[.slice B1 L.targets.length e1,.slice B2 L.data.length e2]:=by
     have:=(qb2.set 0 (.slice B1 L.targets.length e1)).set 1 (.slice B2 L.data.length e2);simpa using this
    have r1:=Bb (base:=w1.heap.size) (ownsRow_setCell_below (ownsRow_setCell_below (AD hown1 hbl2) (a:=⟨w1.heap.size,0,none⟩) (by simp) (.slice B1 L.targets.length e1)) (a:=⟨w1.heap.size,1,none⟩) (by simp) (.slice B2 L.data.length e2)) (by simp);have r2:=Bb (base:=w1.heap.size) (ownsRow_setCell_below (ownsRow_setCell_below hown2 (a:=⟨w1.heap.size,0,none⟩) (by simp;omega) (.slice B1 L.targets.length e1)) (a:=⟨w1.heap.size,1,none⟩) (by simp;omega) (.slice B2 L.data.length e2)) (by omega);exact⟨w1.heap.size,B1,e1,B2,e2,rfl,Nat.le_refl _,qb,r1,r2,
     ((Ab (Ab (Ab (s0) (Yz _)) hbl1) hbl2).2.2.setCell (p:=⟨w1.heap.size,0,none⟩) (Nat.le_refl _) _).setCell (p:=⟨w1.heap.size,1,none⟩) (Nat.le_refl _) _⟩
 case rest=>
  clear hc1 hc2;obtain⟨g,B1,e1,B2,e2,rfl,hg,qb,r1,r2,hB⟩:=hcut;have hz:=Hsz.out;have Hz:=hid hz;have x1:=x0.below hB (by omega);have z1:=z0.below hB (by omega);have b1:=b0.trans (hB.mono (by omega):Below w.heap.size w1 wc);clear hz;have hix:=DY A1 L.targets c1 k wc (hL.below b1).targets (by omega) L.data;have k1:=blk2 x1;have k2:=blk2 z1;have k3:=blk2 qb;have k4:=z1.fz;by_cases hm:k∈L.targets
  · obtain⟨i,hi,f1,f2,f3⟩:=Pn.find_in hm;have hid2:i<L.data.length:=by have:=He.out;omega
    have Hw:=hid (show L.set k s=(⟨L.targets,L.data.set i s⟩,0) by rw[Pn.set,if_neg (by rw[h1];simp),if_neg (by omega),if_pos hm,f3]);rw[show(⟨L.targets,L.data⟩:Pn).find k=i from f1]at hix;clear f1 f2 f3 hm;obtain⟨g2,rfl⟩:∃g2,B2=some ⟨g2,0,none⟩:=by
     rcases r2.2 with ⟨_,h⟩|⟨g2,cap,cur,h,_⟩
     · omega
     · injection h with h;exact⟨g2,h⟩
    have hg2:=r2.lt g2 rfl;have ngg:¬g=g2:=by
     rintro rfl
     rcases r2.2 with ⟨h,_⟩|⟨g3,cap,cur,h,_,h3,_⟩
     · injection h with h;cases h
     · injection h with h;injection h with h;injection h with h
       subst h;rw[show wc.heap[g]? =_ from qb]at h3;injection h3 with h3
       injection h3 with _ h3
       exact absurd h3 (by decide)
    have ngh:¬g2=g:=fun h=>ngg h.symm
    have ng5:¬w.heap.size+1=g2:=by have:=Hz.out;omega
    have ng6:¬g2=w.heap.size+1:=by have:=Hz.out;omega
    have cst:=r2.cellAt i (by omega);rw[show(strCells L.data)[i]? =some (.string (bs L.data[i])) by simp[strCells,hid2]]at cst;have fst:=r2.frozenAt i;have st:=(r2.stored i (.string (bs s))).1;go_wp2_with fail
    go_at_call 117;refine hix.mono ?_;rintro e w3 ⟨rfl,rfl⟩;go_wp2_with fail
    rw[Hw.out];have zz:Blk (((w3.setCell ⟨g2,i,none⟩ (.string (bs s))).setCell ⟨w.heap.size+1,0,none⟩ (.slice B1 L.targets.length e1)).setCell ⟨w.heap.size+1,1,none⟩ (.slice (some ⟨g2,0,none⟩) L.data.length e2)) (w.heap.size+1) 63 #[.slice B1 L.targets.length e1,.slice (some ⟨g2,0,none⟩) L.data.length e2]:=by
     have:=((z1.other (a:=⟨g2,i,none⟩) ng5 (.string (bs s))).set 0 (.slice B1 L.targets.length e1)).set 1 (.slice (some ⟨g2,0,none⟩) L.data.length e2);simpa using this
    have yy:=blk2 zz;have hbf:=((b1.setCell (p:=⟨g2,i,none⟩) (by show w.heap.size<=g2;have:=Hz.out;have:=hg2.1;omega) (.string (bs s))).setCell (p:=⟨w.heap.size+1,0,none⟩) (by simp) (.slice B1 L.targets.length e1)).setCell (p:=⟨w.heap.size+1,1,none⟩) (by simp) (.slice (some ⟨g2,0,none⟩) L.data.length e2);have lt1:w.heap.size+1<w1.heap.size:=by have:=Hz.out;omega
    have nb:∀b off,B1=some ⟨b,off,none⟩->b≠g2:=by
     rintro b off rfl rfl
     rcases r1.2 with ⟨h,_⟩|⟨g3,cap,cur,h,_,h3,_⟩
     · injection h with h;cases h
     · injection h with h;injection h with h;injection h with h
       subst h
       rcases r2.2 with ⟨h,_⟩|⟨g4,cap',cur',h,_,h4,_⟩
       · injection h with h;cases h
       · injection h with h;injection h with h;injection h with h
         subst h;rw[h3]at h4;injection h4 with h4
         injection h4 with _ h4
         exact absurd h4 (by decide)
    obtain⟨_,_,s1,u1,u2,u3⟩:=Az r1;injection s1 with s1 _ s1'
    subst s1;subst s1'
    obtain⟨_,_,s2,v1,v2,v3⟩:=Az r2;injection s2 with s2 _ s2'
    subst s2;subst s2'
    have ct:=(((Cells.of_own r1).setCell (p:=⟨g2,i,none⟩) nb (.string (bs s))).setCell (p:=⟨w.heap.size+1,0,none⟩) (AF r1 lt1) (.slice B1 L.targets.length e1)).setCell (p:=⟨w.heap.size+1,1,none⟩) (AF r1 lt1) (.slice (some ⟨g2,0,none⟩) L.data.length e2);have cd:=((Cells.of_own st).setCell (p:=⟨w.heap.size+1,0,none⟩) (AF st lt1) (.slice B1 L.targets.length e1)).setCell (p:=⟨w.heap.size+1,1,none⟩) (AF st lt1) (.slice (some ⟨g2,0,none⟩) L.data.length e2);rw[show(strCells L.data).set i (.string (bs s))=strCells (L.data.set i s) by simp[strCells,List.map_set]]at cd;refine bodyPost_ret (v:=.tuple #[pval ⟨L.targets,L.data.set i s⟩ ⟨B1,e1⟩ ⟨some ⟨g2,0,none⟩,e2⟩,.int .i64 0]) (by simp[results,Tryz.results77,go_sem,yy]) rfl ?_;refine⟨⟨_,_,rfl,⟨ct,cd,u3,v3,u1,by simpa using v1,u2,v2,hL.ats,fun x hx=>?_⟩,fun g hg _=>⟨AX r1 (by omega),by rw[List.length_set];exact AX r2 (by omega)⟩⟩,hbf⟩
    rcases List.mem_or_eq_of_mem_set hx with h|h
    · exact hL.strs x h
    · subst h;omega
  · rw[show(⟨L.targets,L.data⟩:Pn).find k= -1 from Pn.find_out hm]at hix;by_cases hfull:24<=L.targets.length
    · have Hw:=hid (show L.set k s=(L,16) by rw[Pn.set,if_neg (by rw[h1];simp),if_neg (by omega),if_neg hm,if_pos hfull]);go_wp2_with fail
      go_at_call 117;refine hix.mono ?_;rintro e w3 ⟨rfl,rfl⟩;go_wp2_with fail
      rw[Hw.out];have zz:Blk ((w3.setCell ⟨w.heap.size+1,0,none⟩ (.slice A1 L.targets.length c1)).setCell ⟨w.heap.size+1,1,none⟩ (.slice A2 L.data.length c2)) (w.heap.size+1) 63 #[.slice A1 L.targets.length c1,.slice A2 L.data.length c2]:=by
       have:=(z1.set 0 (.slice A1 L.targets.length c1)).set 1 (.slice A2 L.data.length c2);simpa using this
      have yy:=blk2 zz;have hbf:=(b1.setCell (p:=⟨w.heap.size+1,0,none⟩) (by simp) (.slice A1 L.targets.length c1)).setCell (p:=⟨w.heap.size+1,1,none⟩) (by simp) (.slice A2 L.data.length c2);refine bodyPost_ret (v:=.tuple #[pval L ⟨A1,c1⟩ ⟨A2,c2⟩,.int .i64 16]) (by simp[results,Tryz.results77,go_sem,yy]) rfl ?_;exact⟨⟨_,_,rfl,hL.below hbf,fun _ _ h=>h⟩,hbf⟩
    · exact absurd hcase (by simp[hm,hfull])
namespace Pn
theorem fit_len {L:Pn}(h:L.Fit):L.targets.length=L.data.length/\L.targets.length<=24:=⟨h.1,h.2.1⟩
end Pn
theorem Ni (L:Pn)(p q:Pl)(w:World)(hL:IsPn w L p q)(ht:L.targets.length<=9223372036854775807)(hd:L.data.length<=9223372036854775807)(h:L.targets.length≠L.data.length\/24<L.targets.length):
 Calls Tryz.prog 141 #[pval L p q] w fun e w'=>e=.returned (.bool L.fit)/\Below w.heap.size w w':=by
 have Hf:=hid (Pn.fit_no (L:=L) (fun hf=>by have:=Pn.fit_len hf;omega));obtain⟨A1,c1⟩:=p;obtain⟨A2,c2⟩:=q;have b0:=Yz (W:=w) (.cells #[.slice A1 L.targets.length c1,.slice A2 L.data.length c2] 63);by_cases h1:L.targets.length=L.data.length
 · have n1:((L.targets.length:Int) !=L.data.length)=false:=by simp;omega
   have n2:24<L.targets.length:=by omega
   clear h h1;go_enter Tryz.func141,Tryz.ntmps141;go_wp2_with fail
   go_ret
   exact⟨by rw[Hf.out];rfl,b0⟩
 · have n1:((L.targets.length:Int) !=L.data.length)=true:=by simp;omega
   clear h h1;go_enter Tryz.func141,Tryz.ntmps141;go_wp2_with fail
   go_ret
   exact⟨by rw[Hf.out];rfl,b0⟩
theorem Nj (L:Pn)(p q:Pl)(w:World)(hL:IsPn w L p q)(h1:L.targets.length=L.data.length)(h2:L.targets.length<=24):
 Calls Tryz.prog 141 #[pval L p q] w fun e w'=>e=.returned (.bool L.fit)/\Below w.heap.size w w':=by
 have c1:=fun(W:World)(hb:Below w.heap.size w W)=>hL.targets.below hb
 have c2:=fun(W:World)(hb:Below w.heap.size w W)=>hL.data.below hb
 have hst:=hL.strs;have hfd:=fun(W:World)(hb:Below w.heap.size w W)(k:Int)=>En L p q k W (hL.below hb) (by omega)
 clear hL;obtain⟨A1,a1⟩:=p;obtain⟨A2,a2⟩:=q;simp only at c1 c2;have b0:=Yz (W:=w) (.cells #[.slice A1 L.targets.length a1,.slice A2 L.data.length a2] 63);have x0:=Blk.new w 63 #[.slice A1 L.targets.length a1,.slice A2 L.data.length a2];have n1:((L.targets.length:Int) !=L.data.length)=false:=by simp;omega
 have H1:=hid h1;have H2:=hid h2;clear h1;go_enter Tryz.func141,Tryz.ntmps141;go_wp2_with fail
 go_loopw [3] (fun x W=>∃i:Nat,i<=L.targets.length/\x=.int .i64 i/\Hid (∀j (hj:j<L.targets.length)(hj':j<L.data.length),j<i->(sectorOk L.targets[j]=true/\L.find L.targets[j]=j)/\L.data[j].length=64)/\
  Blk W w.heap.size 63 #[.slice A1 L.targets.length a1,.slice A2 L.data.length a2]/\Below w.heap.size w W) (fun x _=>L.targets.length-(intOf x).toNat)
 case atStart=>exact⟨0,Nat.zero_le _,rfl,hid (fun j hj hj' h0=>by omega),x0,b0⟩
 case round=>
  clear x0 b0;obtain⟨i,hi,rfl,hok,hx,hb⟩:=hrel;have k0:=blk2 hx;have K0:=ext2 hx;by_cases hlt:i<L.targets.length
  · have hlt':i<L.data.length:=by have:=H1.out;omega
    obtain⟨pb,po,hpa,hcell⟩:=(c1 _ hb).int hlt;obtain⟨pb',po',hpa',hcell'⟩:=(c2 _ hb).str hlt';subst hpa;subst hpa';have y0:=hcell i hlt;have y1:=hcell' i hlt';have Y0:=fun e:Ext wr=>e.cell y0
    have Y1:=fun e:Ext wr=>e.cell y1
    have hsl:=hst _ (List.getElem_mem hlt');clear hcell hcell';have s1:=fun e:Ext wr=>Eo L.targets[i] e.world
    have s2:=fun e:Ext wr=>hfd e.world (bt hb e.below) L.targets[i]
    cases e1:sectorOk L.targets[i]with
    |false=>
     have Hf:=hid (Pn.fit_no (L:=L) (fun hf=>by have:=(hf.2.2.1 i hlt).1;rw[e1]at this;cases this));rw[e1]at s1;clear e1;go_wp2_with fail
     refine Ay mixed (by kernel_rfl) ?_
     repeat (go_big_quiet_step ((first|(go_at_call 90;with_reducible exact Al (s1 _))|(go_at_call 91;with_reducible exact Al (s2 _)))))
     refine wpQuiet_nil ?_;rintro w2 ⟨pq_,hpq_⟩;have hb2:=pq_.below;rw[<-hpq_]at hb2;clear hpq_ pq_;go_wp2_with fail
     go_ret
     exact⟨by rw[Hf.out];rfl,bt hb hb2⟩
    |true=>
     rw[e1]at s1;have E1:=hid e1;clear e1;by_cases e2:L.find L.targets[i]=i
     · have m2:((L.find L.targets[i]:Int) !=i)=false:=by simpa using e2
       have E2:=hid e2;clear e2;by_cases e3:L.data[i].length=64
       · have m3:((L.data[i].length:Int) !=64)=false:=by simp;omega
         have E3:=hid e3;clear e3;generalize L.find L.targets[i]=f at s2 m2;go_wp2_with fail
         refine Ay mixed (by kernel_rfl) ?_
         repeat (go_big_quiet_step ((first|(go_at_call 90;with_reducible exact Al (s1 _))|(go_at_call 91;with_reducible exact Al (s2 _)))))
         refine wpQuiet_nil ?_;rintro w2 ⟨pq_,hpq_⟩;have hb2:=pq_.below;rw[<-hpq_]at hb2;clear hpq_ pq_;go_wp2_with fail
         go_roundw
         case rel=>exact⟨i+1,by omega,by go_num,hid (fun j hj hj' hji=>by
          rcases Nat.lt_or_ge j i with h'|h'
          · exact hok.out j hj hj' h'
          · obtain rfl:j=i:=by omega
            exact⟨⟨E1.out,E2.out⟩,E3.out⟩),hx.below hb2 hx.lt,bt hb hb2⟩
         case measure=>simp[intOf];omega
       · have Hf:=hid (Pn.fit_no (L:=L) (fun hf=>e3 (hf.2.2.2 i hlt')));have m3:((L.data[i].length:Int) !=64)=true:=by simp;omega
         clear e3;go_wp2_with fail
         refine Ay mixed (by kernel_rfl) ?_
         repeat (go_big_quiet_step ((first|(go_at_call 90;with_reducible exact Al (s1 _))|(go_at_call 91;with_reducible exact Al (s2 _)))))
         refine wpQuiet_nil ?_;rintro w2 ⟨pq_,hpq_⟩;have hb2:=pq_.below;rw[<-hpq_]at hb2;clear hpq_ pq_;go_wp2_with fail
         go_ret
         exact⟨by rw[Hf.out];rfl,bt hb hb2⟩
     · have Hf:=hid (Pn.fit_no (L:=L) (fun hf=>e2 (hf.2.2.1 i hlt).2));have m2:((L.find L.targets[i]:Int) !=i)=true:=by simpa using e2
       clear e2;go_wp2_with fail
       refine Ay mixed (by kernel_rfl) ?_
       repeat (go_big_quiet_step ((first|(go_at_call 90;with_reducible exact Al (s1 _))|(go_at_call 91;with_reducible exact Al (s2 _)))))
       refine wpQuiet_nil ?_;rintro w2 ⟨pq_,hpq_⟩;have hb2:=pq_.below;rw[<-hpq_]at hb2;clear hpq_ pq_;go_wp2_with fail
       go_ret
       exact⟨by rw[Hf.out];rfl,bt hb hb2⟩
  · have Hf:=hid (Pn.fit_iff.2 (show L.Fit from⟨H1.out,H2.out,fun j hj=>(hok.out j hj (by have:=H1.out;omega) (by omega)).1,fun j hj=>(hok.out j (by have:=H1.out;omega) hj (by have:=H1.out;omega)).2⟩));clear hok K0;go_wp2_with fail
    go_ret
    exact⟨by rw[Hf.out];rfl,hb⟩
theorem Gy (L:Pn)(p q:Pl)(w:World)(hL:IsPn w L p q):
 Calls Tryz.prog 141 #[pval L p q] w fun e w'=>e=.returned (.bool L.fit)/\Below w.heap.size w w':=by
 by_cases h:L.targets.length≠L.data.length\/24<L.targets.length
 · exact Ni L p q w hL (Nat.le_trans hL.pc hL.pm) (Nat.le_trans hL.qc hL.qm) h
 · exact Nj L p q w hL (by omega) (by omega)
end
section
open Go.RowKit Go.Shelf
attribute [local go_sem] Ad Ag Ah Ac Aj Ai
def SetGrown (w1 W:World)(g:Nat)(L:Pn)(k:Int)(s:List UInt8)(v:Value):Prop:=∃gg1 cap1 gg2 cap2,v=.pointer (some ⟨g,0,none⟩)/\Blk W g 63 #[.slice (some ⟨gg1,0,none⟩) (L.targets.length+1) cap1,.slice (some ⟨gg2,0,none⟩) (L.data.length+1) cap2]/\
 W.ownsRow w1.heap.size 3 1 (.slice (some ⟨gg1,0,none⟩) (L.targets.length+1) cap1) (L.targets.length+1) (intCells L.targets++[.int .i64 k])/\W.ownsRow w1.heap.size 9 1 (.slice (some ⟨gg2,0,none⟩) (L.data.length+1) cap2) (L.data.length+1) (strCells L.data++[.string (bs s)])/\Below w1.heap.size w1 W
theorem Ev {w1 W2:World}{L:Pn}{k:Int}{s:List UInt8}{g gg1 gg2 cap1 cap2:Nat}{c0 c1:Value}(hg:w1.heap.size<=g)
 (O1:W2.ownsRow w1.heap.size 3 1 (.slice (some ⟨gg1,0,none⟩) (L.targets.length+1) cap1) (L.targets.length+1) (intCells L.targets++[.int .i64 k])) (O2:W2.ownsRow w1.heap.size 9 1 (.slice (some ⟨gg2,0,none⟩) (L.data.length+1) cap2) (L.data.length+1) (strCells L.data++[.string (bs s)]))
 (QC:Blk W2 g 63 #[c0,c1]) (BW2:Below w1.heap.size w1 W2):
 SetGrown w1 ((W2.setCell ⟨g,0,none⟩ (.slice (some ⟨gg1,0,none⟩) (L.targets.length+1) cap1)).setCell ⟨g,1,none⟩ (.slice (some ⟨gg2,0,none⟩) (L.data.length+1) cap2)) g L k s (.pointer (some ⟨g,0,none⟩)):=by
 have P1:=ownsRow_setCell_other (ownsRow_setCell_other O1 (a:=⟨g,0,none⟩) (Bg O1 QC (by decide)).symm (.slice (some ⟨gg1,0,none⟩) (L.targets.length+1) cap1)) (a:=⟨g,1,none⟩) (Bg O1 QC (by decide)).symm (.slice (some ⟨gg2,0,none⟩) (L.data.length+1) cap2);have P2:=ownsRow_setCell_other (ownsRow_setCell_other O2 (a:=⟨g,0,none⟩) (Bg O2 QC (by decide)).symm (.slice (some ⟨gg1,0,none⟩) (L.targets.length+1) cap1)) (a:=⟨g,1,none⟩) (Bg O2 QC (by decide)).symm (.slice (some ⟨gg2,0,none⟩) (L.data.length+1) cap2);refine⟨gg1,cap1,gg2,cap2,rfl,?_,P1,P2,(BW2.setCell (p:=⟨g,0,none⟩) hg _).setCell (p:=⟨g,1,none⟩) hg _⟩;have:=(QC.set 0 (.slice (some ⟨gg1,0,none⟩) (L.targets.length+1) cap1)).set 1 (.slice (some ⟨gg2,0,none⟩) (L.data.length+1) cap2);simpa using this
structure SetSt (w1 W:World) (g:Nat) (L:Pn) (k:Int) (s:List UInt8) (v1 v2:Value) (n1 n2:Nat) (xs1 xs2:List Value) (c1 c2:Value):Prop where
 r1:W.ownsRow w1.heap.size 3 1 v1 n1 xs1
 r2:W.ownsRow w1.heap.size 9 1 v2 n2 xs2
 qb:Blk W g 63 #[c1,c2]
 bw:Below w1.heap.size w1 W
section
variable {w1 W W':World} {g:Nat} {L:Pn} {k:Int} {s:List UInt8} {v1 v2:Value} {n1 n2:Nat} {xs1 xs2:List Value} {c1 c2:Value}
theorem SetSt.alloc (h:SetSt w1 W g L k s v1 v2 n1 n2 xs1 xs2 c1 c2)(o:Obj):SetSt w1 (W.alloc o) g L k s v1 v2 n1 n2 xs1 xs2 c1 c2:=⟨h.r1.alloc o,h.r2.alloc o,h.qb.alloc o,h.bw.alloc h.bw.size o⟩
theorem SetSt.grow1 (h:SetSt w1 W g L k s v1 v2 n1 n2 xs1 xs2 c1 c2)(gr:W.grownBy W' v1.ownBlock){v:Value}{n:Nat}{xs:List Value}(h':W'.ownsRow w1.heap.size 3 1 v n xs):SetSt w1 W' g L k s v v2 n n2 xs xs2 c1 c2:=
 ⟨h',h.r2.kept gr (Db h.r2 h.r1 (by decide)),h.qb.kept gr (Bg h.r1 h.qb (by decide)),h.bw.trans (Bf h.r1 gr h.bw.size)⟩
theorem SetSt.grow2 (h:SetSt w1 W g L k s v1 v2 n1 n2 xs1 xs2 c1 c2)(gr:W.grownBy W' v2.ownBlock){v:Value}{n:Nat}{xs:List Value}(h':W'.ownsRow w1.heap.size 9 1 v n xs):SetSt w1 W' g L k s v1 v n1 n xs1 xs c1 c2:=
 ⟨h.r1.kept gr (Db h.r1 h.r2 (by decide)),h',h.qb.kept gr (Bg h.r2 h.qb (by decide)),h.bw.trans (Bf h.r2 gr h.bw.size)⟩
end
theorem Oh {w w1 W:World}{L:Pn}{p q:Pl}{k:Int}{s:List UInt8}{gg1 gg2 cap1 cap2:Nat}{u v:Value}(hL:IsPn w L p q)(hk: -9223372036854775808<=k/\k<=9223372036854775807)(hs:s.length=64)(hlt:w.heap.size+1<w1.heap.size)(hbw:Below w.heap.size w w1)
 (z:Blk W (w.heap.size+1) 63 #[u,v]) (P1:W.ownsRow w1.heap.size 3 1 (.slice (some ⟨gg1,0,none⟩) (L.targets.length+1) cap1) (L.targets.length+1) (intCells L.targets++[.int .i64 k])) (P2:W.ownsRow w1.heap.size 9 1 (.slice (some ⟨gg2,0,none⟩) (L.data.length+1) cap2) (L.data.length+1) (strCells L.data++[.string (bs s)]))
 (BW:Below w1.heap.size w1 W):
 IsPn ((W.setCell ⟨w.heap.size+1,0,none⟩ (.slice (some ⟨gg1,0,none⟩) (L.targets.length+1) cap1)).setCell ⟨w.heap.size+1,1,none⟩ (.slice (some ⟨gg2,0,none⟩) (L.data.length+1) cap2)) ⟨L.targets++[k],L.data++[s]⟩ ⟨some ⟨gg1,0,none⟩,cap1⟩ ⟨some ⟨gg2,0,none⟩,cap2⟩/\
 Blk ((W.setCell ⟨w.heap.size+1,0,none⟩ (.slice (some ⟨gg1,0,none⟩) (L.targets.length+1) cap1)).setCell ⟨w.heap.size+1,1,none⟩ (.slice (some ⟨gg2,0,none⟩) (L.data.length+1) cap2)) (w.heap.size+1) 63 #[(.slice (some ⟨gg1,0,none⟩) (L.targets.length+1) cap1),(.slice (some ⟨gg2,0,none⟩) (L.data.length+1) cap2)]/\
 Below w.heap.size w ((W.setCell ⟨w.heap.size+1,0,none⟩ (.slice (some ⟨gg1,0,none⟩) (L.targets.length+1) cap1)).setCell ⟨w.heap.size+1,1,none⟩ (.slice (some ⟨gg2,0,none⟩) (L.data.length+1) cap2))/\
 ∀g,g<w.heap.size->PnOff g L p q->PnOff g ⟨L.targets++[k],L.data++[s]⟩ ⟨some ⟨gg1,0,none⟩,cap1⟩ ⟨some ⟨gg2,0,none⟩,cap2⟩:=by
 obtain⟨_,_,s1,u1,u2,u3⟩:=Az P1;injection s1 with s1 _ s1'
 subst s1;subst s1'
 obtain⟨_,_,s2,v1,v2,v3⟩:=Az P2;injection s2 with s2 _ s2'
 subst s2;subst s2'
 have c1:=((Cells.of_own P1).setCell (p:=⟨w.heap.size+1,0,none⟩) (AF P1 hlt) (.slice (some ⟨gg1,0,none⟩) (L.targets.length+1) cap1)).setCell (p:=⟨w.heap.size+1,1,none⟩) (AF P1 hlt) (.slice (some ⟨gg2,0,none⟩) (L.data.length+1) cap2);have c2:=((Cells.of_own P2).setCell (p:=⟨w.heap.size+1,0,none⟩) (AF P2 hlt) (.slice (some ⟨gg1,0,none⟩) (L.targets.length+1) cap1)).setCell (p:=⟨w.heap.size+1,1,none⟩) (AF P2 hlt) (.slice (some ⟨gg2,0,none⟩) (L.data.length+1) cap2);rw[show intCells L.targets++[Value.int .i64 k]=intCells (L.targets++[k]) by simp[intCells]]at c1;rw[show strCells L.data++[Value.string (bs s)]=strCells (L.data++[s]) by simp[strCells]]at c2;have bb:=hbw.trans (BW.mono (by omega));refine⟨⟨c1,c2,u3,v3,by simpa using u1,by simpa using v1,u2,v2,fun x hx=>?_,fun x hx=>?_⟩,?_,(bb.setCell (p:=⟨w.heap.size+1,0,none⟩) (by simp) (.slice (some ⟨gg1,0,none⟩) (L.targets.length+1) cap1)).setCell (p:=⟨w.heap.size+1,1,none⟩) (by simp) (.slice (some ⟨gg2,0,none⟩) (L.data.length+1) cap2),fun g hg _=>⟨?_,?_⟩⟩
 · rcases List.mem_append.1 hx with h|h
   · exact hL.ats x h
   · simp at h;subst h;exact hk
 · rcases List.mem_append.1 hx with h|h
   · exact hL.strs x h
   · simp at h;subst h;omega
 · have:=(z.set 0 (.slice (some ⟨gg1,0,none⟩) (L.targets.length+1) cap1)).set 1 (.slice (some ⟨gg2,0,none⟩) (L.data.length+1) cap2);simpa using this
 · have:=AX (g:=g) P1 (by omega);simpa using this
 · have:=AX (g:=g) P2 (by omega);simpa using this
theorem L6 (L:Pn)(p q:Pl)(w:World)(hL:IsPn w L p q)(k:Int)(s:List UInt8)(h1:sectorOk k=true)(h2:s.length=64)(ht:L.targets.length<=1000000)(hd:L.data.length<=1000000)(he:L.targets.length=L.data.length)(hk: -9223372036854775808<=k/\k<=9223372036854775807)(hm:k∉L.targets)(hfull:¬24<=L.targets.length):
 Calls Tryz.prog 77 #[pval L p q,.int .i64 k,.string (bs s)] w fun e w'=>RetPn w.heap.size L p q (L.set k s) e w'/\Below w.heap.size w w':=by
 have ho:=fun W=>Cv k W
 rw[h1]at ho;have n0:((s.length:Int) !=64)=false:=by simp;omega
 have hc1:=fun(W:World)(hb:Below w.heap.size w W)=>EZ p.a L.targets p.c W (hL.targets.below hb) (by omega) hL.pn
 have hc2:=fun(W:World)(hb:Below w.heap.size w W)=>E5 q.a L.data q.c W (hL.data.below hb) (by omega) hL.qn
 obtain⟨A1,c1⟩:=p;obtain⟨A2,c2⟩:=q;simp only at hc1 hc2;have x0:=(Blk.new w 63 #[.slice A1 L.targets.length c1,.slice A2 L.data.length c2]).alloc (.cells #[.slice none 0 0,.slice none 0 0] 63);have b0:=Ap w (.cells #[.slice A1 L.targets.length c1,.slice A2 L.data.length c2] 63) (.cells #[.slice none 0 0,.slice none 0 0] 63);have z0:=Blk.new (w.alloc (.cells #[.slice A1 L.targets.length c1,.slice A2 L.data.length c2] 63)) 63 #[.slice none 0 0,.slice none 0 0];simp only[Ys]at z0;clear he;have Hsz:=hid (show((w.alloc (.cells #[.slice A1 L.targets.length c1,.slice A2 L.data.length c2] 63)).alloc (.cells #[.slice none 0 0,.slice none 0 0] 63)).heap.size=w.heap.size+2 by simp);go_enter Tryz.func77,Tryz.ntmps77;go_wp2_with fail
 go_at_call 114;refine(ho _).mono ?_;rintro e w1 ⟨rfl,rfl⟩;go_upto_region 5 with fail
 generalize (w.alloc (.cells #[.slice A1 L.targets.length c1,.slice A2 L.data.length c2] 63)).alloc (.cells #[.slice none 0 0,.slice none 0 0] 63)=w1 at*;have y0:=blk2 x0;have s0:(w1.drew.cell? ⟨w.heap.size,0,none⟩=some (.slice A1 L.targets.length c1)/\w1.drew.cell? ⟨w.heap.size,1,none⟩=some (.slice A2 L.data.length c2))/\Below w.heap.size w w1.drew/\Below w1.heap.size w1 w1.drew:=⟨y0,b0.drew,(Below.refl _ _).drew⟩
 go_cut [8] (fun s8 wx=>SetMade w1 wx L s8)
 case first=>
  go_region_held3 (fun W=>(W.cell? ⟨w.heap.size,0,none⟩=some (.slice A1 L.targets.length c1)/\W.cell? ⟨w.heap.size,1,none⟩=some (.slice A2 L.data.length c2))/\Below w.heap.size w W/\Below w1.heap.size w1 W)
   (first|exact s0|exact⟨y0,b0,Below.refl _ _⟩|exact Ab (s0) hbl1|exact Ab (s0) hbl2|exact Ab (s0) (Yz _)|exact Ab (Ab (s0) hbl1) hbl2|exact Ab (Ab (s0) hbl2) hbl1|exact Ab (Ab (s0) hbl1) (Yz _)|exact Ab (Ab (s0) (Yz _)) hbl1|exact Ab (Ab (s0) hbl2) (Yz _)|exact Ab (Ab (s0) (Yz _)) hbl2|exact Ab (Ab (Ab (s0) hbl1) hbl2) (Yz _)|exact Ab (Ab (Ab (s0) hbl1) (Yz _)) hbl2|exact Ab (Ab (Ab (s0) (Yz _)) hbl1) hbl2|exact Ab (Ab (Ab (s0) hbl2) hbl1) (Yz _)|exact Ab (Ab (Ab (s0) hbl2) (Yz _)) hbl1|exact Ab (Ab (Ab (s0) (Yz _)) hbl2) hbl1|exact BD (Ab (Ab (Ab (s0) hbl1) (Yz _)) hbl2) (by first|(have z:w1.heap.size<=W1.heap.size:=hbl1.size;have z0:=Hsz.out;omega)|(have z:w1.heap.size<=W2.heap.size:=hbl2.size;have z0:=Hsz.out;omega)|(have z:w1.drew.heap.size=w1.heap.size:=rfl;have z0:=Hsz.out;omega)) (by first|(have z:w1.heap.size<=W1.heap.size:=hbl1.size;have z0:=Hsz.out;omega)|(have z:w1.heap.size<=W2.heap.size:=hbl2.size;have z0:=Hsz.out;omega)|(have z:w1.drew.heap.size=w1.heap.size:=rfl;have z0:=Hsz.out;omega)) (by first|(have z:w1.heap.size<=W1.heap.size:=hbl1.size;have z0:=Hsz.out;omega)|(have z:w1.heap.size<=W2.heap.size:=hbl2.size;have z0:=Hsz.out;omega)|(have z:w1.drew.heap.size=w1.heap.size:=rfl;have z0:=Hsz.out;omega))|exact BD (Ab (Ab (Ab (s0) (Yz _)) hbl1) hbl2) (by first|(have z:w1.heap.size<=W1.heap.size:=hbl1.size;have z0:=Hsz.out;omega)|(have z:w1.heap.size<=W2.heap.size:=hbl2.size;have z0:=Hsz.out;omega)|(have z:w1.drew.heap.size=w1.heap.size:=rfl;have z0:=Hsz.out;omega)) (by first|(have z:w1.heap.size<=W1.heap.size:=hbl1.size;have z0:=Hsz.out;omega)|(have z:w1.heap.size<=W2.heap.size:=hbl2.size;have z0:=Hsz.out;omega)|(have z:w1.drew.heap.size=w1.heap.size:=rfl;have z0:=Hsz.out;omega)) (by first|(have z:w1.heap.size<=W1.heap.size:=hbl1.size;have z0:=Hsz.out;omega)|(have z:w1.heap.size<=W2.heap.size:=hbl2.size;have z0:=Hsz.out;omega)|(have z:w1.drew.heap.size=w1.heap.size:=rfl;have z0:=Hsz.out;omega))|exact BD (Ab (Ab (Ab (s0) hbl2) (Yz _)) hbl1) (by first|(have z:w1.heap.size<=W1.heap.size:=hbl1.size;have z0:=Hsz.out;omega)|(have z:w1.heap.size<=W2.heap.size:=hbl2.size;have z0:=Hsz.out;omega)|(have z:w1.drew.heap.size=w1.heap.size:=rfl;have z0:=Hsz.out;omega)) (by first|(have z:w1.heap.size<=W1.heap.size:=hbl1.size;have z0:=Hsz.out;omega)|(have z:w1.heap.size<=W2.heap.size:=hbl2.size;have z0:=Hsz.out;omega)|(have z:w1.drew.heap.size=w1.heap.size:=rfl;have z0:=Hsz.out;omega)) (by first|(have z:w1.heap.size<=W1.heap.size:=hbl1.size;have z0:=Hsz.out;omega)|(have z:w1.heap.size<=W2.heap.size:=hbl2.size;have z0:=Hsz.out;omega)|(have z:w1.drew.heap.size=w1.heap.size:=rfl;have z0:=Hsz.out;omega))|exact BD (Ab (Ab (Ab (s0) (Yz _)) hbl2) hbl1) (by first|(have z:w1.heap.size<=W1.heap.size:=hbl1.size;have z0:=Hsz.out;omega)|(have z:w1.heap.size<=W2.heap.size:=hbl2.size;have z0:=Hsz.out;omega)|(have z:w1.drew.heap.size=w1.heap.size:=rfl;have z0:=Hsz.out;omega)) (by first|(have z:w1.heap.size<=W1.heap.size:=hbl1.size;have z0:=Hsz.out;omega)|(have z:w1.heap.size<=W2.heap.size:=hbl2.size;have z0:=Hsz.out;omega)|(have z:w1.drew.heap.size=w1.heap.size:=rfl;have z0:=Hsz.out;omega)) (by first|(have z:w1.heap.size<=W1.heap.size:=hbl1.size;have z0:=Hsz.out;omega)|(have z:w1.heap.size<=W2.heap.size:=hbl2.size;have z0:=Hsz.out;omega)|(have z:w1.drew.heap.size=w1.heap.size:=rfl;have z0:=Hsz.out;omega)))
   (first|(go_at_call 115;refine(hc1 _ (by first|exact s0.2.1|exact(Ab (s0) hbl2).2.1|exact(Ab (s0) (Yz _)).2.1|exact(Ab (Ab (s0) hbl2) (Yz _)).2.1|exact(Ab (Ab (s0) (Yz _)) hbl2).2.1)).mono ?_;rintro e W1 ⟨v1,rfl,hown1,hbl1⟩;obtain⟨B1,e1,rfl,f1,g1,i1⟩:=Az hown1;first|(have qb1:Blk W1 w1.heap.size 63 #[.slice none 0 0,.slice none 0 0]:=(Blk.new w1.drew 63 #[.slice none 0 0,.slice none 0 0]).below hbl1 (Blk.new w1.drew 63 #[.slice none 0 0,.slice none 0 0]).lt;have qc1:=blk2 qb1;have qf1:=qb1.frozen)|(have qb1:=(Blk.new W2 63 #[.slice none 0 0,.slice none 0 0]).below hbl1 (Blk.new W2 63 #[.slice none 0 0,.slice none 0 0]).lt;have qc1:=blk2 qb1;have qf1:=qb1.frozen)|(have qb1:=qb2.below hbl1 qb2.lt;have qc1:=blk2 qb1;have qf1:=qb1.frozen)|skip)|(go_at_call 116;refine(hc2 _ (by first|exact s0.2.1|exact(Ab (s0) hbl1).2.1|exact(Ab (s0) (Yz _)).2.1|exact(Ab (Ab (s0) hbl1) (Yz _)).2.1|exact(Ab (Ab (s0) (Yz _)) hbl1).2.1)).mono ?_;rintro e W2 ⟨v2,rfl,hown2,hbl2⟩;obtain⟨B2,e2,rfl,f2,g2,i2⟩:=Az hown2;first|(have qb2:Blk W2 w1.heap.size 63 #[.slice none 0 0,.slice none 0 0]:=(Blk.new w1.drew 63 #[.slice none 0 0,.slice none 0 0]).below hbl2 (Blk.new w1.drew 63 #[.slice none 0 0,.slice none 0 0]).lt;have qc2:=blk2 qb2;have qf2:=qb2.frozen)|(have qb2:=(Blk.new W1 63 #[.slice none 0 0,.slice none 0 0]).below hbl2 (Blk.new W1 63 #[.slice none 0 0,.slice none 0 0]).lt;have qc2:=blk2 qb2;have qf2:=qb2.frozen)|(have qb2:=qb1.below hbl2 qb1.lt;have qc2:=blk2 qb2;have qf2:=qb2.frozen)|skip))
  · go_wp2_with fail
    go_meet
    have z1:w1.heap.size<=W1.heap.size:=hbl1.size;have z2:W1.heap.size<=W2.heap.size:=hbl2.size;exact⟨W2.heap.size,B1,e1,B2,e2,rfl,by omega,Blk.new W2 _ _,AD (AD hown1 hbl2) (Yz _),Bb (AD hown2 (Yz _)) z1,(Ab (Ab (s0) hbl1) hbl2).2.2.alloc (by omega) _⟩
  · go_wp2_with fail
    go_meet
    have z1:w1.heap.size<=W1.heap.size:=hbl1.size;have qb:Blk ((W2.setCell ⟨W1.heap.size,0,none⟩ (.slice B1 L.targets.length e1)).setCell ⟨W1.heap.size,1,none⟩ (.slice B2 L.data.length e2)) W1.heap.size 63 #[.slice B1 L.targets.length e1,.slice B2 L.data.length e2]:=by
     have:=(qb2.set 0 (.slice B1 L.targets.length e1)).set 1 (.slice B2 L.data.length e2);simpa using this
    have r1:=AD (AD hown1 (Yz (.cells #[.slice none 0 0,.slice none 0 0] 63))) hbl2;have nb:Value.ownBlock (.slice B1 L.targets.length e1)≠some W1.heap.size:=fun e=>by have:=(hown1.lt _ e).2;omega
    have r2:=Bb (base:=w1.heap.size) (ownsRow_setCell_below (ownsRow_setCell_below hown2 (a:=⟨W1.heap.size,0,none⟩) (by simp) (.slice B1 L.targets.length e1)) (a:=⟨W1.heap.size,1,none⟩) (by simp) (.slice B2 L.data.length e2)) (by simp;omega);exact⟨W1.heap.size,B1,e1,B2,e2,rfl,z1,qb,ownsRow_setCell_other (ownsRow_setCell_other r1 (a:=⟨W1.heap.size,0,none⟩) nb (.slice B1 L.targets.length e1)) (a:=⟨W1.heap.size,1,none⟩) nb (.slice B2 L.data.length e2),r2,
     ((Ab (Ab (Ab (s0) hbl1) (Yz _)) hbl2).2.2.setCell (p:=⟨W1.heap.size,0,none⟩) z1 _).setCell (p:=⟨W1.heap.size,1,none⟩) z1 _⟩
  · go_wp2_with fail
    go_meet
    have z1:w1.heap.size+1<=W1.heap.size:=by have:=hbl1.size;simpa using this
    have qb:Blk ((W2.setCell ⟨w1.heap.size,0,none⟩ (.slice B1 L.targets.length e1)).setCell ⟨w1.heap.size,1,none⟩ (.slice B2 L.data.length e2)) w1.heap.size 63 #[.slice B1 L.targets.length e1,.slice B2 L.data.length e2]:=by
     have:=(qb2.set 0 (.slice B1 L.targets.length e1)).set 1 (.slice B2 L.data.length e2);simpa using this
    have r1:=Bb (base:=w1.heap.size) (ownsRow_setCell_below (ownsRow_setCell_below (AD hown1 hbl2) (a:=⟨w1.heap.size,0,none⟩) (by simp) (.slice B1 L.targets.length e1)) (a:=⟨w1.heap.size,1,none⟩) (by simp) (.slice B2 L.data.length e2)) (by simp);have r2:=Bb (base:=w1.heap.size) (ownsRow_setCell_below (ownsRow_setCell_below hown2 (a:=⟨w1.heap.size,0,none⟩) (by simp;omega) (.slice B1 L.targets.length e1)) (a:=⟨w1.heap.size,1,none⟩) (by simp;omega) (.slice B2 L.data.length e2)) (by omega);exact⟨w1.heap.size,B1,e1,B2,e2,rfl,Nat.le_refl _,qb,r1,r2,
     ((Ab (Ab (Ab (s0) (Yz _)) hbl1) hbl2).2.2.setCell (p:=⟨w1.heap.size,0,none⟩) (Nat.le_refl _) _).setCell (p:=⟨w1.heap.size,1,none⟩) (Nat.le_refl _) _⟩
 case rest=>
  clear hc1 hc2;obtain⟨g,B1,e1,B2,e2,rfl,hg,qb,r1,r2,hB⟩:=hcut;have hz:=Hsz.out;have Hz:=hid hz;have x1:=x0.below hB (by omega);have z1:=z0.below hB (by omega);have b1:=b0.trans (hB.mono (by omega):Below w.heap.size w1 wc);clear hz;have hix:=DY A1 L.targets c1 k wc (hL.below b1).targets (by omega) L.data;have k1:=blk2 x1;have k2:=blk2 z1;have k3:=blk2 qb;have k4:=z1.fz;rw[show(⟨L.targets,L.data⟩:Pn).find k= -1 from Pn.find_out hm]at hix;have Hw:=hid (show L.set k s=(⟨L.targets++[k],L.data++[s]⟩,0) by rw[Pn.set,if_neg (by rw[h1];simp),if_neg (by omega),if_neg hm,if_neg hfull]);obtain⟨i1,j1,iz1,iz2,iz3⟩:=info_parts Tryz.infoIntP;obtain⟨i2,j2,jz1,jz2,jz3⟩:=info_parts Tryz.infoStrP;go_wp2_with fail
  go_at_call 117;refine hix.mono ?_;rintro e w3 ⟨rfl,rfl⟩
  go_upto_block 1 with fail
  go_cut [8] (fun s8 wx=>SetGrown w1 wx g L k s s8)
  case first=>
   go_wp2_with fail
   have s0:w3.drew.cell? ⟨g,0,none⟩=some (.slice B1 L.targets.length e1)/\w3.drew.cell? ⟨g,1,none⟩=some (.slice B2 L.data.length e2):=k3;have BW0:Below w3.heap.size w3 w3.drew:=(Below.refl _ _).drew;have neb:∀b,w3.heap.size<=b->some b≠Value.ownBlock (.slice B1 L.targets.length e1):=fun b hb h=>by have:=(r1.lt b h.symm).2;omega
   have st:SetSt w1 w3.drew g L k s (.slice B1 L.targets.length e1) (.slice B2 L.data.length e2) L.targets.length L.data.length (intCells L.targets) (strCells L.data) (.slice B1 L.targets.length e1) (.slice B2 L.data.length e2):=
    ⟨AD r1 BW0,AD r2 BW0,qb.drew,hB.drew⟩
   clear hix ho x0 y0 z1 x1 k1 k2 k3 k4;refine AT (S:=fun W=>W.cell? ⟨g,0,none⟩=some (.slice B1 L.targets.length e1)/\W.cell? ⟨g,1,none⟩=some (.slice B2 L.data.length e2)) (late:=fun i=>i==11||i==12||i==13) (by kernel_rfl) ?_;simp only[Nat.reduceAdd,Yn];refine Yt 0 30 (.pointer (some ⟨g,0,none⟩)) ?_;simp only[Yf];refine Yu 1 (some 31) (.slice B1 L.targets.length e1) rfl (fun W hW=>by have h:=hW.1;go_simp) s0 ?_;simp only[Yf];refine Yt 2 32 (.int .i64 k) ?_;simp only[Yf];refine Yt 5 35 (.pointer (some ⟨g,1,none⟩)) ?_;simp only[Yf];refine Yu 6 (some 36) (.slice B2 L.data.length e2) rfl (fun W hW=>by have h:=hW.2;go_simp) s0 ?_;simp only[Yf];refine Yt 7 37 (.string (bs s)) ?_;simp only[Yf];refine AG (i:=3) (k:=8) (by kernel_rfl) rfl rfl rfl rfl (fun K hK=>?_) (fun K hK=>?_)
   · refine An (v:=.slice (some ⟨(w3.drew).heap.size,0,none⟩) 1 1) (w':=(w3.drew).alloc (.cells #[.int .i64 k] 3)) (by go_simp) ?_;show K (Act.put _ (some 33) _) _;refine hK _ _ (fun _ _=>blk2 (st.alloc (.cells #[.int .i64 k] 3)).qb) ?_;simp only[Yf];have st1:=st.alloc (.cells #[.int .i64 k] 3);refine AG (i:=4) (k:=8) (by kernel_rfl) rfl rfl rfl rfl (fun K hK=>?_) (fun K hK=>?_)
     · refine wp_append_lies _ (.tmp 31) (.tmp 33) 23 rfl w1.heap.size 3 i1 (.int .i64 0) 1 8 Tryz.underlying23 j1 iz1 iz2 iz3 rfl (by decide) _ L.targets.length (intCells L.targets) rfl st1.r1 ⟨w3.drew.heap.size,0,none⟩ 1 1 [.int .i64 k] rfl rfl (World.news_of_block (Blk.new w3.drew 3 #[.int .i64 k])) (by simp[Value.oneCell']) (by omega) (by unfold maxLen;omega) (by omega) st1.bw.size _ rfl ?_;intro gg1 cap1 W1 h1 gr1 _ _;have gr1:(w3.drew.alloc (.cells #[.int .i64 k] 3)).grownBy W1 (Value.slice B1 L.targets.length e1).ownBlock:=gr1;have st2:=st1.grow1 gr1 h1;show K (Act.put _ (some 34) _) _;refine hK _ _ (fun _ _=>blk2 st2.qb) ?_;simp only[Yf];refine Yt 10 40 (.pointer (some ⟨g,0,none⟩)) ?_;simp only[Yf];refine Yo 8 (fun K hK=>?_);refine An (v:=.slice (some ⟨(W1).heap.size,0,none⟩) 1 1) (w':=(W1).alloc (.cells #[.string (bs s)] 9)) (by go_simp) ?_;show K (Act.put _ (some 38) _) _;refine hK _ _ (fun _ _=>blk2 (st2.alloc (.cells #[.string (bs s)] 9)).qb) ?_;simp only[Yf];have st3:=st2.alloc (.cells #[.string (bs s)] 9);refine Yo 9 (fun K hK=>?_);refine wp_append_lies _ (.tmp 36) (.tmp 38) 61 rfl w1.heap.size 9 i2 (.string ⟨#[]⟩) 1 16 Tryz.underlying61 j2 jz1 jz2 jz3 rfl (by decide) _ L.data.length (strCells L.data) rfl st3.r2 ⟨W1.heap.size,0,none⟩ 1 1 [.string (bs s)] rfl rfl (World.news_of_block (Blk.new W1 9 #[.string (bs s)])) (by simp[Value.oneCell']) (by omega) (by unfold maxLen;omega) (by omega) st3.bw.size _ rfl ?_;intro gg2 cap2 W2 h2 gr2 _ _;have gr2:(W1.alloc (.cells #[.string (bs s)] 9)).grownBy W2 (Value.slice B2 L.data.length e2).ownBlock:=gr2;have st4:=st3.grow2 gr2 h2;show K (Act.put _ (some 39) _) _;refine hK _ _ (fun _ _=>blk2 st4.qb) ?_;simp only[Yf];have u0:=blk2 st4.qb;have uf:=st4.qb.frozen;have qq:=st4.qb.set 0 (Value.slice (some ⟨gg1,0,none⟩) (L.targets.length+1) cap1);have uf2:=qq.fz;have u1:=blk2 qq;refine Yo 11 (fun K hK=>?_);refine Aw (w':=(W2).setCell ⟨g,0,none⟩ (Value.slice (some ⟨gg1,0,none⟩) (L.targets.length+1) cap1)) (by go_simp) ?_;show K (Act.put _ none _) _;refine hK _ _ (fun h=>by cases h) ?_
       try simp only[Yf]
       refine Yt 12 41 (.pointer (some ⟨g,1,none⟩)) ?_;simp only[Yf];refine Yo 13 (fun K hK=>?_);refine Aw (w':=((W2).setCell ⟨g,0,none⟩ (Value.slice (some ⟨gg1,0,none⟩) (L.targets.length+1) cap1)).setCell ⟨g,1,none⟩ (Value.slice (some ⟨gg2,0,none⟩) (L.data.length+1) cap2)) (by go_simp) ?_;show K (Act.put _ none _) _;refine hK _ _ (fun h=>by cases h) ?_
       try simp only[Yf]
       refine Ar (by kernel_rfl) ?_ _;go_wp2_with fail
       go_meet
       exact Ev hg st4.r1 st4.r2 st4.qb st4.bw
     · refine An (v:=.slice (some ⟨(w3.drew.alloc (.cells #[.int .i64 k] 3)).heap.size,0,none⟩) 1 1) (w':=(w3.drew.alloc (.cells #[.int .i64 k] 3)).alloc (.cells #[.string (bs s)] 9)) (by go_simp) ?_;show K (Act.put _ (some 38) _) _;refine hK _ _ (fun _ _=>blk2 (st1.alloc (.cells #[.string (bs s)] 9)).qb) ?_;simp only[Yf];have st2:=st1.alloc (.cells #[.string (bs s)] 9);refine Yo 4 (fun K hK=>?_);refine wp_append_lies _ (.tmp 31) (.tmp 33) 23 rfl w1.heap.size 3 i1 (.int .i64 0) 1 8 Tryz.underlying23 j1 iz1 iz2 iz3 rfl (by decide) _ L.targets.length (intCells L.targets) rfl st2.r1 ⟨w3.drew.heap.size,0,none⟩ 1 1 [.int .i64 k] rfl rfl (World.news_of_block ((Blk.new w3.drew 3 #[.int .i64 k]).alloc (.cells #[.string (bs s)] 9))) (by simp[Value.oneCell']) (by omega) (by unfold maxLen;omega) (by omega) st2.bw.size _ rfl ?_;intro gg1 cap1 W1 h1 gr1 _ _;have gr1:((w3.drew.alloc (.cells #[.int .i64 k] 3)).alloc (.cells #[.string (bs s)] 9)).grownBy W1 (Value.slice B1 L.targets.length e1).ownBlock:=gr1;have st3:=st2.grow1 gr1 h1;show K (Act.put _ (some 34) _) _;refine hK _ _ (fun _ _=>blk2 st3.qb) ?_;simp only[Yf];refine Yt 10 40 (.pointer (some ⟨g,0,none⟩)) ?_;simp only[Yf];refine Yo 9 (fun K hK=>?_);refine wp_append_lies _ (.tmp 36) (.tmp 38) 61 rfl w1.heap.size 9 i2 (.string ⟨#[]⟩) 1 16 Tryz.underlying61 j2 jz1 jz2 jz3 rfl (by decide) _ L.data.length (strCells L.data) rfl st3.r2 ⟨(w3.drew.alloc (.cells #[.int .i64 k] 3)).heap.size,0,none⟩ 1 1 [.string (bs s)] rfl rfl (World.news_of_block ((Blk.new (w3.drew.alloc (.cells #[.int .i64 k] 3)) 9 #[.string (bs s)]).kept gr1 (neb _ (by simp)))) (by simp[Value.oneCell']) (by omega) (by unfold maxLen;omega) (by omega) st3.bw.size _ rfl ?_;intro gg2 cap2 W2 h2 gr2 _ _;have gr2:(W1).grownBy W2 (Value.slice B2 L.data.length e2).ownBlock:=gr2;have st4:=st3.grow2 gr2 h2;show K (Act.put _ (some 39) _) _;refine hK _ _ (fun _ _=>blk2 st4.qb) ?_;simp only[Yf];have u0:=blk2 st4.qb;have uf:=st4.qb.frozen;have qq:=st4.qb.set 0 (Value.slice (some ⟨gg1,0,none⟩) (L.targets.length+1) cap1);have uf2:=qq.fz;have u1:=blk2 qq;refine Yo 11 (fun K hK=>?_);refine Aw (w':=(W2).setCell ⟨g,0,none⟩ (Value.slice (some ⟨gg1,0,none⟩) (L.targets.length+1) cap1)) (by go_simp) ?_;show K (Act.put _ none _) _;refine hK _ _ (fun h=>by cases h) ?_
       try simp only[Yf]
       refine Yt 12 41 (.pointer (some ⟨g,1,none⟩)) ?_;simp only[Yf];refine Yo 13 (fun K hK=>?_);refine Aw (w':=((W2).setCell ⟨g,0,none⟩ (Value.slice (some ⟨gg1,0,none⟩) (L.targets.length+1) cap1)).setCell ⟨g,1,none⟩ (Value.slice (some ⟨gg2,0,none⟩) (L.data.length+1) cap2)) (by go_simp) ?_;show K (Act.put _ none _) _;refine hK _ _ (fun h=>by cases h) ?_
       try simp only[Yf]
       refine Ar (by kernel_rfl) ?_ _;go_wp2_with fail
       go_meet
       exact Ev hg st4.r1 st4.r2 st4.qb st4.bw
   · refine An (v:=.slice (some ⟨(w3.drew).heap.size,0,none⟩) 1 1) (w':=(w3.drew).alloc (.cells #[.string (bs s)] 9)) (by go_simp) ?_;show K (Act.put _ (some 38) _) _;refine hK _ _ (fun _ _=>blk2 (st.alloc (.cells #[.string (bs s)] 9)).qb) ?_;simp only[Yf];have st1:=st.alloc (.cells #[.string (bs s)] 9);refine Yo 3 (fun K hK=>?_);refine An (v:=.slice (some ⟨(w3.drew.alloc (.cells #[.string (bs s)] 9)).heap.size,0,none⟩) 1 1) (w':=(w3.drew.alloc (.cells #[.string (bs s)] 9)).alloc (.cells #[.int .i64 k] 3)) (by go_simp) ?_;show K (Act.put _ (some 33) _) _;refine hK _ _ (fun _ _=>blk2 (st1.alloc (.cells #[.int .i64 k] 3)).qb) ?_;simp only[Yf];have st2:=st1.alloc (.cells #[.int .i64 k] 3);refine Yo 4 (fun K hK=>?_);refine wp_append_lies _ (.tmp 31) (.tmp 33) 23 rfl w1.heap.size 3 i1 (.int .i64 0) 1 8 Tryz.underlying23 j1 iz1 iz2 iz3 rfl (by decide) _ L.targets.length (intCells L.targets) rfl st2.r1 ⟨(w3.drew.alloc (.cells #[.string (bs s)] 9)).heap.size,0,none⟩ 1 1 [.int .i64 k] rfl rfl (World.news_of_block (Blk.new (w3.drew.alloc (.cells #[.string (bs s)] 9)) 3 #[.int .i64 k])) (by simp[Value.oneCell']) (by omega) (by unfold maxLen;omega) (by omega) st2.bw.size _ rfl ?_;intro gg1 cap1 W1 h1 gr1 _ _;have gr1:((w3.drew.alloc (.cells #[.string (bs s)] 9)).alloc (.cells #[.int .i64 k] 3)).grownBy W1 (Value.slice B1 L.targets.length e1).ownBlock:=gr1;have st3:=st2.grow1 gr1 h1;show K (Act.put _ (some 34) _) _;refine hK _ _ (fun _ _=>blk2 st3.qb) ?_;simp only[Yf];refine Yt 10 40 (.pointer (some ⟨g,0,none⟩)) ?_;simp only[Yf];refine Yo 9 (fun K hK=>?_);refine wp_append_lies _ (.tmp 36) (.tmp 38) 61 rfl w1.heap.size 9 i2 (.string ⟨#[]⟩) 1 16 Tryz.underlying61 j2 jz1 jz2 jz3 rfl (by decide) _ L.data.length (strCells L.data) rfl st3.r2 ⟨w3.drew.heap.size,0,none⟩ 1 1 [.string (bs s)] rfl rfl (World.news_of_block (((Blk.new w3.drew 9 #[.string (bs s)]).alloc (.cells #[.int .i64 k] 3)).kept gr1 (neb _ (Nat.le_refl _)))) (by simp[Value.oneCell']) (by omega) (by unfold maxLen;omega) (by omega) st3.bw.size _ rfl ?_;intro gg2 cap2 W2 h2 gr2 _ _;have gr2:(W1).grownBy W2 (Value.slice B2 L.data.length e2).ownBlock:=gr2;have st4:=st3.grow2 gr2 h2;show K (Act.put _ (some 39) _) _;refine hK _ _ (fun _ _=>blk2 st4.qb) ?_;simp only[Yf];have u0:=blk2 st4.qb;have uf:=st4.qb.frozen;have qq:=st4.qb.set 0 (Value.slice (some ⟨gg1,0,none⟩) (L.targets.length+1) cap1);have uf2:=qq.fz;have u1:=blk2 qq;refine Yo 11 (fun K hK=>?_);refine Aw (w':=(W2).setCell ⟨g,0,none⟩ (Value.slice (some ⟨gg1,0,none⟩) (L.targets.length+1) cap1)) (by go_simp) ?_;show K (Act.put _ none _) _;refine hK _ _ (fun h=>by cases h) ?_
     try simp only[Yf]
     refine Yt 12 41 (.pointer (some ⟨g,1,none⟩)) ?_;simp only[Yf];refine Yo 13 (fun K hK=>?_);refine Aw (w':=((W2).setCell ⟨g,0,none⟩ (Value.slice (some ⟨gg1,0,none⟩) (L.targets.length+1) cap1)).setCell ⟨g,1,none⟩ (Value.slice (some ⟨gg2,0,none⟩) (L.data.length+1) cap2)) (by go_simp) ?_;show K (Act.put _ none _) _;refine hK _ _ (fun h=>by cases h) ?_
     try simp only[Yf]
     refine Ar (by kernel_rfl) ?_ _;go_wp2_with fail
     go_meet
     exact Ev hg st4.r1 st4.r2 st4.qb st4.bw
  case rest=>
   obtain⟨gg1,cap1,gg2,cap2,rfl,qd,O1,O2,hBB⟩:=hcut;have hz:=Hz.out;have lt1:w.heap.size+1<w1.heap.size:=by omega
   have z2:=z0.below hBB lt1;obtain⟨D1,D2,D3,D4⟩:=Oh hL hk h2 lt1 b0 z2 O1 O2 hBB;clear hz z1 k2 k4 x1 k1;have k5:=blk2 z2;have k6:=z2.fz;have k7:=blk2 qd;clear hix ho x0 y0;go_wp2_with fail
   rw[Hw.out];have yy:=blk2 D2;refine bodyPost_ret (v:=.tuple #[pval ⟨L.targets++[k],L.data++[s]⟩ ⟨some ⟨gg1,0,none⟩,cap1⟩ ⟨some ⟨gg2,0,none⟩,cap2⟩,.int .i64 0]) (by simp[results,Tryz.results77,go_sem,yy]) rfl ?_;exact⟨⟨_,_,rfl,D1,D4⟩,D3⟩
theorem D9 {s t:List UInt8}{k:Int}(h:k<0\/(s.length:Int)-t.length<k):Pn.laidOver s k t=([],10):=by rw[Pn.laidOver,if_pos h]
theorem Lf {s t:List UInt8}{k:Nat}(h:(k:Int)<=(s.length:Int)-t.length):Pn.laidOver s k t=(s.take k++t++s.drop (k+t.length),0):=by
 rw[Pn.laidOver,if_neg (by omega),Int.toNat_natCast,over]
theorem El (s t:List UInt8)(k:Int)(w:World)(hs:s.length<=1000000)(ht:t.length<=9223372036854775807):
 Calls Tryz.prog 61 #[.string (bs s),.int .i64 k,.string (bs t)] w fun e w'=>e=.returned (.tuple #[.string (bs (Pn.laidOver s k t).1),.int .i64 (Pn.laidOver s k t).2])/\Below w.heap.size w w':=by
 by_cases h0:k<0
 · have Hw:=hid (D9 (s:=s) (t:=t) (.inl h0));go_enter Tryz.func61,Tryz.ntmps61
   go_wp2
   go_ret2
   exact⟨by rw[Hw.out];rfl,Below.refl _ _⟩
 · by_cases h2:(s.length:Int)<t.length
   · have Hw:=hid (D9 (s:=s) (t:=t) (k:=k) (.inr (by omega)));go_enter Tryz.func61,Tryz.ntmps61
     go_wp2
     go_ret2
     exact⟨by rw[Hw.out];rfl,Below.refl _ _⟩
   · by_cases h:(s.length:Int)-t.length<k
     · have Hw:=hid (D9 (.inr h));go_enter Tryz.func61,Tryz.ntmps61
       go_wp2
       go_ret2
       exact⟨by rw[Hw.out];rfl,Below.refl _ _⟩
     · obtain⟨n,rfl⟩:=Int.eq_ofNat_of_zero_le (show 0<=k by omega);have Hw:=hid (Lf (s:=s) (t:=t) (k:=n) (by omega));have h1:t.length<=1000000:=by omega
       go_enter Tryz.func61,Tryz.ntmps61
       go_wp2
       go_quiet (fail)
       go_wp2
       go_ret2
       exact⟨by rw[Hw.out];simp,CR _ _⟩
theorem L5 (L:Pn)(p q:Pl)(w:World)(hL:IsPn w L p q)(k:Int)(hk: -9223372036854775808<=k/\k<=9223372036854775807)(s:List UInt8)(hs:s.length<=9223372036854775807)(ht:L.targets.length<=1000000)(he:L.targets.length=L.data.length):
 Calls Tryz.prog 77 #[pval L p q,.int .i64 k,.string (bs s)] w fun e w'=>RetPn w.heap.size L p q (L.set k s) e w'/\Below w.heap.size w w':=by
 cases h1:sectorOk k with
 |false=>exact L7 L p q w hL k s h1
 |true=>
  by_cases h2:s.length=64
  · by_cases hm:k∈L.targets
    · exact Gm L p q w hL k s h1 h2 ht (by omega) he (.inl hm)
    · by_cases hf:24<=L.targets.length
      · exact Gm L p q w hL k s h1 h2 ht (by omega) he (.inr hf)
      · exact L6 L p q w hL k s h1 h2 ht (by omega) he hk hm hf
  · exact L8 L p q w hL k s hs h1 h2
theorem Dk.seesIn_len {l:List (Int×List UInt8)}(h:∀i (h:i<l.length),l[i].2.length=64)(k:Int){s:List UInt8}(hs:Dk.seesIn l k=some s):s.length=64:=by
 induction l with
 |nil=>simp[Dk.seesIn]at hs
 |cons x l ih=>
  have h0:=h 0 (by simp);have ih':=ih (fun i hi=>by have:=h (i+1) (by simpa using hi);simpa using this);rw[Dk.seesIn]at hs
  split at hs
  · rename_i s' e
    injection hs with hs
    subst hs;exact ih' e
  · split at hs
    · injection hs with hs
      subst hs;exact h0
    · cases hs
theorem Dk.read_len {D:Dk}(hD:D.fit=true)(k:Int):(D.read k).1.length<=64:=by
 have hc:=(Dk.fit_parts hD).2.2.2.2.1;rw[Dk.read]
 split
 · simp
 · split
   · simp
   · split
     · simp
     · show(D.sees k).length<=64;rw[Dk.sees];cases h:Dk.seesIn D.cache k with
       |some s=>rw[Option.getD_some,Dk.seesIn_len (fun i hi=>(hc i hi).2.2) k h];omega
       |none=>
        rw[Option.getD_none,Dk.sector,List.length_drop,List.length_take];omega
theorem FZ {D:Dk}{L:Pn}(hD:D.fit=true)(hL:L.Fit)(k:Int):(Pn.look D L k).1.length<=64:=by
 rw[Pn.look]
 split
 · rename_i hm
   obtain⟨i,hi,_,_,h⟩:=Pn.find_in hm;have h0:i<L.data.length:=by rw[<-hL.1];exact hi
   rw[h,List.getD_eq_getElem?_getD,List.getElem?_eq_getElem h0];simp[hL.2.2.2 i h0]
 · exact Dk.read_len hD k
end
end Go.Proofs.YtmiilfnchfdfcaaGreatDoor
