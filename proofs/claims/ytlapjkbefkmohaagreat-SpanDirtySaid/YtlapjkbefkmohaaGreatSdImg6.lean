/- Package ref13: images are written. -/
import Derived.Test.YtlapjkbefkmohaaGreatSdImg2
import Derived.Test.YtlapjkbefkmohaaGreatSdImg3
import Derived.Test.YtlapjkbefkmohaaGreatSdImg4
import Derived.Test.YtlapjkbefkmohaaGreatSdImg5
import Derived.Test.YtlapjkbefkmohaaGreatSdAllocs
import Derived.Test.YtlapjkbefkmohaaGreatSdPoint7
import Derived.Deep.DeepCutAuto
set_option linter.unusedVariables false
namespace Go.Proofs.YtlapjkbefkmohaaGreat
open Go.RowKit Go.Shelf
attribute [local go_sem] bs_mk bs_append bs_extract bs_size bs_toList bs_get
/-- Sector i of a cluster is written, and the first n of them. -/
def fillAt (at9 : Int) (b : List UInt8) (i : Nat) (E : Dk) : Dk × Int := E.write (at9 + i) ((b.take (64 * (i + 1))).drop (64 * i))
def fillN (D : Dk) (at9 : Int) (b : List UInt8) : Nat → Dk × Int
 | 0 => (D, 0)
 | 1 => fillAt at9 b 0 D
 | _ => Dk.next (fillAt at9 b 0 D) (fillAt at9 b 1)
theorem fillN_next (D : Dk) (at9 : Int) (b : List UInt8) {i : Nat} (hi : i < 2) (h : (fillN D at9 b i).2 = 0) : fillN D at9 b (i + 1) = fillAt at9 b i (fillN D at9 b i).1 := by
 match i, hi with
 | 0, _ => rfl
 | 1, _ =>
  have h' : (fillAt at9 b 0 D).2 = 0 := h
  show Dk.next (fillAt at9 b 0 D) _ = _
  rw [Dk.next_zero h']
  rfl
theorem fillN_stop (D : Dk) (at9 : Int) (b : List UInt8) {i : Nat} (hi : i < 2) (h : (fillN D at9 b (i + 1)).2 ≠ 0) : fillN D at9 b 2 = fillN D at9 b (i + 1) := by
 match i, hi with
 | 0, _ =>
  have h' : (fillAt at9 b 0 D).2 ≠ 0 := h
  show Dk.next (fillAt at9 b 0 D) _ = fillAt at9 b 0 D
  rw [Dk.next, if_pos h']
 | 1, _ => rfl
theorem fillN_fit {D : Dk} (hD : D.fit = true) (at9 : Int) (b : List UInt8) (i : Nat) : (fillN D at9 b i).1.fit = true := by
 match i with
 | 0 => exact hD
 | 1 => exact Dk.write_fit hD _ _
 | i + 2 => exact Dk.next_fit (Dk.write_fit hD _ _) fun E hE => Dk.write_fit hE _ _
theorem fill_N {k at9 : Int} (hk : 96 + 2 * k = at9) {b : List UInt8} (hb : b.length = 128) (D : Dk) : Im.fill D k b = fillN D at9 b 2 := by
 have e0 : fillAt at9 b 0 = fun E => E.write (96 + 2 * k) (b.take 64) := by funext E; unfold fillAt; rw [hk]; simp
 have e1 : fillAt at9 b 1 = fun E => E.write (96 + 2 * k + 1) (b.drop 64) := by funext E; unfold fillAt; rw [hk, List.take_of_length_le (by omega)]; rfl
 show Dk.next _ _ = Dk.next (fillAt at9 b 0 D) (fillAt at9 b 1)
 rw [e0, e1]
theorem Im.rd_len {D : Dk} (hf : D.fit = true) (l1 u : Int) (h : (Im.rd D l1 u).2 = 0) : (Im.rd D l1 u).1.length = 128 := by
 unfold Im.rd at h ⊢
 split
 · rename_i h1; rw [if_pos h1] at h; exact absurd h h1
 · rename_i h1
   rw [if_neg h1] at h
   split
   · rename_i h2
     rw [if_pos h2] at h
     unfold Im.clus at h ⊢
     split
     · rename_i h3; rw [if_pos h3] at h; exact absurd h h3
     · rename_i h3
       rw [if_neg h3] at h
       split
       · rename_i h4; rw [if_pos h4] at h; exact absurd h h4
       · rename_i h4
         have e1 := Dk.read_full hf (Classical.not_not.1 h3)
         have e2 := Dk.read_full hf (Classical.not_not.1 h4)
         show (_ ++ _ : List UInt8).length = 128
         rw [List.length_append, e1, e2]
   · exact List.length_replicate ..
set_option maxRecDepth 100000 in
set_option maxHeartbeats 8000000 in
theorem r13_write_in (x : Im) (p q r : Pl) (w : World) (hI : IsIm w x p q r) (ok : x.Ok) (hbr : x.br = false) (u off : Int) (s : List UInt8) (hu : 0 ≤ u ∧ u < x.g) (ho : 0 ≤ off) (hs : off + s.length ≤ 128) (hs0 : s ≠ []) :
 Calls Tryz.prog 16 #[imval x p q r, .int .i64 u, .int .i64 off, .string (bs s)] w fun e w' => RetIm w.heap.size x p q r (x.write u off s) e w' ∧ Below w.heap.size w w' := by
 have hx : x.write u off s = (x.mark u).writeIn u off s := by rw [Im.write, if_neg (by rw [hbr]; simp), if_neg (by omega), if_neg hs0]
 have Hap := hid (fun g (hg : w.heap.size ≤ g) => hI.apart hg)
 have Hmk := hid (fun (W : World) (hb : Below w.heap.size w W) => r13_mark x u p q r W (hI.below hb) (by have := ok.g; unfold okInt; omega) (by have := ok.maps; omega))
 rw [hx]
 clear hx
 obtain ⟨D, g, h, ⟨seq, pos⟩, maps, br⟩ := x
 obtain ⟨hd, hm⟩ := hI
 have hf := ok.d
 have hg := ok.g
 have hh := ok.h
 have Hok := hid (fun (E : Dk) (hE : E.fit = true) => (ok.mark u).withD hE)
 simp only [Im.mark] at hd hm hf hg hh hbr hu Hap Hmk Hok ⊢
 subst hbr
 generalize Im.markM u maps = ms at Hmk Hok ⊢
 have Hrg := hid (fun (W : World) (hb : Below w.heap.size w W) => r10_get D Pn.none p q ⟨none, 0⟩ ⟨none, 0⟩ W (hd.below hb) (isPn_zero _) hf Pn.none_fit)
 have Hfd := hid (fun (l : Int) (W : World) (hb : Below w.heap.size w W) => t11_find D Pn.none p q ⟨none, 0⟩ ⟨none, 0⟩ W (hd.below hb) (isPn_zero _) hf Pn.none_fit l u)
 have Hcg := hid (fun (a : Int) (W : World) (hb : Below w.heap.size w W) => r8_get D Pn.none p q ⟨none, 0⟩ ⟨none, 0⟩ W (hd.below hb) (isPn_zero _) hf Pn.none_fit a)
 have Htk := hid (fun (W : World) (hb : Below w.heap.size w W) => r9_take D Pn.none p q ⟨none, 0⟩ ⟨none, 0⟩ W (hd.below hb) (isPn_zero _) hf Pn.none_fit g h (by omega))
 have Hrd := hid (fun (l : Int) (W : World) (hb : Below w.heap.size w W) => r13_read D p q W (hd.below hb) hf l u)
 have Hrl := hid (fun (l : Int) => Im.rd_len hf l u)
 have Htl := hid (Pn.alTake_fit hf Pn.none_fit (h : Int))
 have Hts := hid (Pn.alTake_small (D := D) (L := Pn.none) (h := (h : Int)) (by omega))
 have Hfs := hid (fun (l : Int) => (Pn.tabFind_small D Pn.none l u).2.2)
 have HW := hid (show Im.writeIn ⟨D, g, h, ⟨seq, pos⟩, ms, false⟩ u off s = if (Pn.rtGet D Pn.none).2 ≠ 0 then (⟨D, g, h, ⟨seq, pos⟩, ms, false⟩, (Pn.rtGet D Pn.none).2) else if (Pn.tabFind D Pn.none (Pn.rtGet D Pn.none).1.1 u).2 ≠ 0 then (⟨D, g, h, ⟨seq, pos⟩, ms, false⟩, (Pn.tabFind D Pn.none (Pn.rtGet D Pn.none).1.1 u).2)
  else if (Pn.tabFind D Pn.none (Pn.rtGet D Pn.none).1.1 u).1.1 ≠ 1 then Im.writeNew ⟨D, g, h, ⟨seq, pos⟩, ms, false⟩ (Pn.rtGet D Pn.none).1.1 u off s
  else if (Pn.cntGet D Pn.none (Pn.tabFind D Pn.none (Pn.rtGet D Pn.none).1.1 u).1.2).2 ≠ 0 then (⟨D, g, h, ⟨seq, pos⟩, ms, false⟩, (Pn.cntGet D Pn.none (Pn.tabFind D Pn.none (Pn.rtGet D Pn.none).1.1 u).1.2).2)
  else if (Pn.cntGet D Pn.none (Pn.tabFind D Pn.none (Pn.rtGet D Pn.none).1.1 u).1.2).1 ≤ 1 then
   (⟨(Im.place D (Pn.tabFind D Pn.none (Pn.rtGet D Pn.none).1.1 u).1.2 off s).1, g, h, ⟨seq, pos⟩, ms, false⟩, (Im.place D (Pn.tabFind D Pn.none (Pn.rtGet D Pn.none).1.1 u).1.2 off s).2)
  else Im.writeNew ⟨D, g, h, ⟨seq, pos⟩, ms, false⟩ (Pn.rtGet D Pn.none).1.1 u off s from rfl)
 have HNW := hid (fun (l : Int) => show Im.writeNew ⟨D, g, h, ⟨seq, pos⟩, ms, false⟩ l u off s = if (Pn.alTake D Pn.none h).2.2 ≠ 0 then (⟨D, g, h, ⟨seq, pos⟩, ms, false⟩, (Pn.alTake D Pn.none h).2.2) else if (Im.rd D l u).2 ≠ 0 then (⟨D, g, h, ⟨seq, pos⟩, ms, false⟩, (Im.rd D l u).2)
  else if (Im.fill D (Pn.alTake D Pn.none h).2.1 (over (Im.rd D l u).1 off.toNat s)).2 ≠ 0 then (⟨(Im.fill D (Pn.alTake D Pn.none h).2.1 (over (Im.rd D l u).1 off.toNat s)).1, g, h, ⟨seq, pos⟩, ms, false⟩, (Im.fill D (Pn.alTake D Pn.none h).2.1 (over (Im.rd D l u).1 off.toNat s)).2)
  else Im.writeNew.pointed ⟨(Im.fill D (Pn.alTake D Pn.none h).2.1 (over (Im.rd D l u).1 off.toNat s)).1, g, h, ⟨seq, pos⟩, ms, false⟩ (Pn.alTake D Pn.none h).1 u 1 (Pn.alTake D Pn.none h).2.1 from rfl)
 generalize Pn.alTake D Pn.none (h : Int) = TK at *
 obtain ⟨L, k, ea⟩ := TK
 simp only at Htk Htl Hts HNW
 generalize Pn.rtGet D Pn.none = RG at *
 obtain ⟨⟨one, n⟩, er⟩ := RG
 simp only at Hrg HW
 replace Hfd := hid (Hfd.out one)
 replace Hrd := hid (Hrd.out one)
 replace Hrl := hid (Hrl.out one)
 replace Hfs := hid (Hfs.out one)
 replace HNW := hid (HNW.out one)
 generalize Im.rd D (one : Int) u = RD at *
 obtain ⟨b, eb⟩ := RD
 simp only at Hrd Hrl HNW
 generalize Pn.tabFind D Pn.none (one : Int) u = TF at *
 obtain ⟨⟨K, A⟩, et⟩ := TF
 simp only at Hfd HW Hfs
 replace Hcg := hid (Hcg.out A)
 generalize Pn.cntGet D Pn.none A = CG at *
 obtain ⟨c, ec⟩ := CG
 simp only at Hcg HW
 obtain ⟨off, rfl⟩ := Int.eq_ofNat_of_zero_le ho
 have hub : u < 64 := by omega
 clear ok ho
 obtain ⟨A1, a1⟩ := p
 obtain ⟨A2, a2⟩ := q
 obtain ⟨A3, a3⟩ := r
 have f0 : decide (u < 0) = false := decide_eq_false (by omega)
 have f1 : decide (g ≤ u) = false := decide_eq_false (by omega)
 have f2 : decide ((off : Int) < 0) = false := decide_eq_false (by omega)
 have f3 : decide ((128 : Int) < (s.length : Int)) = false := decide_eq_false (by omega)
 have f3' : decide (128 < s.length) = false := decide_eq_false (by omega)
 have f4 : decide ((128 : Int) - (s.length : Int) < (off : Int)) = false := decide_eq_false (by omega)
 have f5 : s.isEmpty = false := by cases s with | nil => exact absurd rfl hs0 | cons _ _ => rfl
 have ox0 := Hap.out w.heap.size (Nat.le_refl _)
 have or0 := Hap.out (w.heap.size + 1) (by omega)
 have hsl : s.length ≤ 128 := by omega
 clear hs0
 have hB := Below.refl w.heap.size w
 have x := Blk.new w 33 #[.string (bs D.data), .slice A1 D.cache.length a1, .int .i64 D.fuse, .bool D.off, .slice A2 D.bad.length a2, .int .i64 g, .int .i64 h, .int .u64 seq, .int .i64 pos, .slice A3 maps.length a3, .bool false]
 have xk := blk11 x
 have xkf := x.frozen
 have hB_1 := hB.alloc hB.size (.cells #[.string (bs D.data), .slice A1 D.cache.length a1, .int .i64 D.fuse, .bool D.off, .slice A2 D.bad.length a2, .int .i64 g, .int .i64 h, .int .u64 seq, .int .i64 pos, .slice A3 maps.length a3, .bool false] 33)
 have hd_2 := hd.below ((Below.refl _ _).alloc (Nat.le_refl _) (.cells #[.string (bs D.data), .slice A1 D.cache.length a1, .int .i64 D.fuse, .bool D.off, .slice A2 D.bad.length a2, .int .i64 g, .int .i64 h, .int .u64 seq, .int .i64 pos, .slice A3 maps.length a3, .bool false] 33))
 have hm_3 := hm.below ((Below.refl _ _).alloc (Nat.le_refl _) (.cells #[.string (bs D.data), .slice A1 D.cache.length a1, .int .i64 D.fuse, .bool D.off, .slice A2 D.bad.length a2, .int .i64 g, .int .i64 h, .int .u64 seq, .int .i64 pos, .slice A3 maps.length a3, .bool false] 33))
 have r := Blk.new (w.alloc (.cells #[.string (bs D.data), .slice A1 D.cache.length a1, .int .i64 D.fuse, .bool D.off, .slice A2 D.bad.length a2, .int .i64 g, .int .i64 h, .int .u64 seq, .int .i64 pos, .slice A3 maps.length a3, .bool false] 33)) 33 #[.string (bs []), .slice none 0 0, .int .i64 0, .bool false, .slice none 0 0, .int .i64 0, .int .i64 0, .int .u64 0, .int .i64 0, .slice none 0 0, .bool false]
 simp only [World.size_alloc] at r
 have rk := blk11 r
 have rkf := r.frozen
 have hB_4 := hB_1.alloc hB_1.size (.cells #[.string (bs []), .slice none 0 0, .int .i64 0, .bool false, .slice none 0 0, .int .i64 0, .int .i64 0, .int .u64 0, .int .i64 0, .slice none 0 0, .bool false] 33)
 have hd_5 := hd_2.below ((Below.refl _ _).alloc (Nat.le_refl _) (.cells #[.string (bs []), .slice none 0 0, .int .i64 0, .bool false, .slice none 0 0, .int .i64 0, .int .i64 0, .int .u64 0, .int .i64 0, .slice none 0 0, .bool false] 33))
 have hm_6 := hm_3.below ((Below.refl _ _).alloc (Nat.le_refl _) (.cells #[.string (bs []), .slice none 0 0, .int .i64 0, .bool false, .slice none 0 0, .int .i64 0, .int .i64 0, .int .u64 0, .int .i64 0, .slice none 0 0, .bool false] 33))
 have x_7 := x.alloc (.cells #[.string (bs []), .slice none 0 0, .int .i64 0, .bool false, .slice none 0 0, .int .i64 0, .int .i64 0, .int .u64 0, .int .i64 0, .slice none 0 0, .bool false] 33)
 have xk_7 := blk11 x_7
 have xkf_7 := x_7.frozen
 go_enter Tryz.func16, Tryz.ntmps16
 go_wp2_with fail
 go_at_call 32
 refine ((Hmk.out _ hB_4)).mono ?_
 rintro e w1 ⟨⟨⟨R3, r3⟩, rfl, im, om⟩, hb1⟩
 replace hB := bt hB_4 hb1
 replace hd := hd_5.below hb1
 replace hm := hm_6.below hb1
 replace x := x_7.below hb1 x_7.lt
 replace xk := blk11 x
 replace xkf := x.frozen
 replace r := r.below hb1 r.lt
 replace rk := blk11 r
 replace rkf := r.frozen
 clear hB_1 hd_2 hm_3 hB_4 hd_5 hm_6 xk_7 xkf_7 x_7
 have ox1 := (om w.heap.size (by simp only [World.size_alloc]; omega) ox0)
 have or1 := (om (w.heap.size + 1) (by simp only [World.size_alloc]; omega) or0)
 have oxd := ox0.1
 have ord := or0.1
 have oxm := ox1.2
 have orm := or1.2
 replace im := im.m
 have OM := hid (fun g' (h1 : g' < w.heap.size) (h2 : ImOff g' ⟨D, g, h, ⟨seq, pos⟩, maps, false⟩ ⟨A1, a1⟩ ⟨A2, a2⟩ ⟨A3, a3⟩) => (om g' (by simp only [World.size_alloc]; omega) h2).2)
 clear Hmk ox0 or0 om ox1 or1 f0 f1 f2 f3 f3' f4 f5
 have hrl := r.lt
 have hB_8 := below11 hB (g := w.heap.size) (by omega) (.string (bs D.data)) (.slice A1 D.cache.length a1) (.int .i64 D.fuse) (.bool D.off) (.slice A2 D.bad.length a2) (.int .i64 g) (.int .i64 h) (.int .u64 seq) (.int .i64 pos) (.slice R3 ms.length r3) (.bool false)
 have hd_9 := hd.off11 (g := w.heap.size) (by first | assumption | omega) (.string (bs D.data)) (.slice A1 D.cache.length a1) (.int .i64 D.fuse) (.bool D.off) (.slice A2 D.bad.length a2) (.int .i64 g) (.int .i64 h) (.int .u64 seq) (.int .i64 pos) (.slice R3 ms.length r3) (.bool false)
 have x_10 := blk_set11 x (.string (bs D.data)) (.slice A1 D.cache.length a1) (.int .i64 D.fuse) (.bool D.off) (.slice A2 D.bad.length a2) (.int .i64 g) (.int .i64 h) (.int .u64 seq) (.int .i64 pos) (.slice R3 ms.length r3) (.bool false)
 have xk_10 := blk11 x_10
 have xkf_10 := x_10.frozen
 have r_11 := blk_off11 r (g := w.heap.size) (by omega) (.string (bs D.data)) (.slice A1 D.cache.length a1) (.int .i64 D.fuse) (.bool D.off) (.slice A2 D.bad.length a2) (.int .i64 g) (.int .i64 h) (.int .u64 seq) (.int .i64 pos) (.slice R3 ms.length r3) (.bool false)
 have rk_11 := blk11 r_11
 have rkf_11 := r_11.frozen
 have im_12 := im.off11 (g := w.heap.size) (by first | assumption | omega) (.string (bs D.data)) (.slice A1 D.cache.length a1) (.int .i64 D.fuse) (.bool D.off) (.slice A2 D.bad.length a2) (.int .i64 g) (.int .i64 h) (.int .u64 seq) (.int .i64 pos) (.slice R3 ms.length r3) (.bool false)
 go_wp2_with fail
 go_at_call 20
 refine ((Hrg.out _ hB_8)).mono ?_
 rintro e w2 ⟨rfl, hb2⟩
 replace hB := bt hB_8 hb2
 replace hd := hd_9.below hb2
 replace x := x_10.below hb2 x_10.lt
 replace xk := blk11 x
 replace xkf := x.frozen
 replace r := r_11.below hb2 r_11.lt
 replace rk := blk11 r
 replace rkf := r.frozen
 replace im := im_12.below hb2
 clear hB_8 hd_9 xk_10 xkf_10 x_10 rk_11 rkf_11 r_11 im_12
 have hrl2 := hid (r.lt)
 have z := Blk.new w2 62 #[.int .i64 one, .int .u32 n]
 have zk := blk2 z
 have hB_13 := hB.alloc hB.size (.cells #[.int .i64 one, .int .u32 n] 62)
 have hd_14 := hd.below ((Below.refl _ _).alloc (Nat.le_refl _) (.cells #[.int .i64 one, .int .u32 n] 62))
 have x_15 := x.alloc (.cells #[.int .i64 one, .int .u32 n] 62)
 have xk_15 := blk11 x_15
 have xkf_15 := x_15.frozen
 have r_16 := r.alloc (.cells #[.int .i64 one, .int .u32 n] 62)
 have rk_16 := blk11 r_16
 have rkf_16 := r_16.frozen
 have im_17 := im.below ((Below.refl _ _).alloc (Nat.le_refl _) (.cells #[.int .i64 one, .int .u32 n] 62))
 by_cases he : er = 0
 · subst he
   go_wp2_with fail
   go_at_call 23
   refine ((Hfd.out _ hB_13)).mono ?_
   rintro e w3 ⟨rfl, hb3⟩
   replace hB := bt hB_13 hb3
   replace hd := hd_14.below hb3
   replace x := x_15.below hb3 x_15.lt
   replace xk := blk11 x
   replace xkf := x.frozen
   replace r := r_16.below hb3 r_16.lt
   replace rk := blk11 r
   replace rkf := r.frozen
   replace im := im_17.below hb3
   replace z := z.below hb3 z.lt
   replace zk := blk2 z
   clear hB_13 hd_14 xk_15 xkf_15 x_15 rk_16 rkf_16 r_16 im_17
   have hrl3 := hid (r.lt)
   have y := Blk.new w3 73 #[.int .i64 K, .int .i64 A]
   have yk := blk2 y
   have hB_18 := hB.alloc hB.size (.cells #[.int .i64 K, .int .i64 A] 73)
   have hd_19 := hd.below ((Below.refl _ _).alloc (Nat.le_refl _) (.cells #[.int .i64 K, .int .i64 A] 73))
   have x_20 := x.alloc (.cells #[.int .i64 K, .int .i64 A] 73)
   have xk_20 := blk11 x_20
   have xkf_20 := x_20.frozen
   have r_21 := r.alloc (.cells #[.int .i64 K, .int .i64 A] 73)
   have rk_21 := blk11 r_21
   have rkf_21 := r_21.frozen
   have im_22 := im.below ((Below.refl _ _).alloc (Nat.le_refl _) (.cells #[.int .i64 K, .int .i64 A] 73))
   have z_23 := z.alloc (.cells #[.int .i64 K, .int .i64 A] 73)
   have zk_23 := blk2 z_23
   by_cases ht : et = 0
   · subst ht
     go_upto_if 83 with fail
     generalize (w3.alloc (.cells #[.int .i64 K, .int .i64 A] 73)) = V at hB_18 hd_19 x_20 xk_20 xkf_20 r_21 rk_21 rkf_21 im_22 z_23 zk_23 y yk ⊢
     clear hB hd x r im z xk rk zk xkf rkf
     have hB := hB_18
     have hd := hd_19
     have x := x_20
     have xk := xk_20
     have xkf := xkf_20
     have r := r_21
     have rk := rk_21
     have rkf := rkf_21
     have im := im_22
     have z := z_23
     have zk := zk_23
     clear hB_18 hd_19 x_20 xk_20 xkf_20 r_21 rk_21 rkf_21 im_22 z_23 zk_23
     have hV := Below.refl V.heap.size V
     have hx7 := x
     have hr7 := r
     have hB7 := hB
     have hd7 := hd
     have im7 := im
     go_cut [] (fun W => Below V.heap.size V W ∧ Hid (Im.writeIn ⟨D, g, h, ⟨seq, pos⟩, ms, false⟩ u off s = Im.writeNew ⟨D, g, h, ⟨seq, pos⟩, ms, false⟩ one u off s))
     case first =>
      clear HNW Htk Hrd Hrl Htl Hts Hok hx7 hr7 hB7 hd7 im7
      by_cases hK : K = 1
      · subst hK
        go_wp2_with fail
        go_at_call 33
        refine ((Hcg.out _ hB)).mono ?_
        rintro e w4 ⟨rfl, hb4⟩
        replace hB := bt hB hb4
        replace hd := hd.below hb4
        replace x := x.below hb4 x.lt
        replace xk := blk11 x
        replace xkf := x.frozen
        replace r := r.below hb4 r.lt
        replace rk := blk11 r
        replace rkf := r.frozen
        replace im := im.below hb4
        replace z := z.below hb4 z.lt
        replace zk := blk2 z
        replace y := y.below hb4 y.lt
        replace yk := blk2 y
        replace hV := bt hV hb4
        by_cases hc : ec = 0
        · subst hc
          by_cases hn : c ≤ 1
          · have n2 : decide (c ≤ 1) = true := decide_eq_true hn
            have Hr := hid (show Im.writeIn ⟨D, g, h, ⟨seq, pos⟩, ms, false⟩ u off s = (⟨(Im.place D A off s).1, g, h, ⟨seq, pos⟩, ms, false⟩, (Im.place D A off s).2) by rw [HW.out]; exact (if_neg (by simp)).trans ((if_neg (by simp)).trans ((if_neg (by simp)).trans ((if_neg (by simp)).trans (if_pos hn)))))
            have Hpl := hid (fun (W : World) (i1 : IsDk W D ⟨A1, a1⟩ ⟨A2, a2⟩) (i2 : IsMs W ms ⟨R3, r3⟩) => r13_place ⟨D, g, h, ⟨seq, pos⟩, ms, false⟩ ⟨A1, a1⟩ ⟨A2, a2⟩ ⟨R3, r3⟩ W ⟨i1, i2⟩ hf A off s (by have := Hfs.out; omega) (by omega) hs)
            generalize Im.place D A off s = PL at Hpl Hr
            obtain ⟨F, ew⟩ := PL
            simp only at Hpl Hr
            clear HW Hcg Hfs hn
            have hrl4 := r.lt
            go_wp2_with fail
            go_at_call 34
            refine ((Hpl.out _ hd im)).mono ?_
            rintro e w5 ⟨⟨⟨P5, e5⟩, ⟨Q5, f5⟩, ⟨R5, g5⟩, rfl, i5, o5⟩, hb5⟩
            replace hB := bt hB hb5
            replace hd := hd.below hb5
            replace x := x.below hb5 x.lt
            replace xk := blk11 x
            replace xkf := x.frozen
            replace r := r.below hb5 r.lt
            replace rk := blk11 r
            replace rkf := r.frozen
            replace im := im.below hb5
            replace z := z.below hb5 z.lt
            replace zk := blk2 z
            replace y := y.below hb5 y.lt
            replace yk := blk2 y
            have or5 := o5 (w.heap.size + 1) (by omega) ⟨ord, orm⟩
            have oF := or5.1
            have oM := or5.2
            have O5 := fun g' (h1 : g' < w.heap.size) h2 => o5 g' (by omega) h2
            have i5d := i5.d
            have i5m := i5.m
            clear Hpl o5 i5 or5
            have q_hrl2 := hrl2.out
            have q_hrl3 := hrl3.out
            have hB_24 := below11 hB (g := w.heap.size + 1) (by omega) (.string (bs F.data)) (.slice P5 F.cache.length e5) (.int .i64 F.fuse) (.bool F.off) (.slice Q5 F.bad.length f5) (.int .i64 g) (.int .i64 h) (.int .u64 seq) (.int .i64 pos) (.slice R5 ms.length g5) (.bool false)
            have hd_25 := hd.off11 (g := w.heap.size + 1) (by first | assumption | omega) (.string (bs F.data)) (.slice P5 F.cache.length e5) (.int .i64 F.fuse) (.bool F.off) (.slice Q5 F.bad.length f5) (.int .i64 g) (.int .i64 h) (.int .u64 seq) (.int .i64 pos) (.slice R5 ms.length g5) (.bool false)
            have x_26 := blk_off11 x (g := w.heap.size + 1) (by omega) (.string (bs F.data)) (.slice P5 F.cache.length e5) (.int .i64 F.fuse) (.bool F.off) (.slice Q5 F.bad.length f5) (.int .i64 g) (.int .i64 h) (.int .u64 seq) (.int .i64 pos) (.slice R5 ms.length g5) (.bool false)
            have xk_26 := blk11 x_26
            have xkf_26 := x_26.frozen
            have r_27 := blk_set11 r (.string (bs F.data)) (.slice P5 F.cache.length e5) (.int .i64 F.fuse) (.bool F.off) (.slice Q5 F.bad.length f5) (.int .i64 g) (.int .i64 h) (.int .u64 seq) (.int .i64 pos) (.slice R5 ms.length g5) (.bool false)
            have rk_27 := blk11 r_27
            have rkf_27 := r_27.frozen
            have im_28 := im.off11 (g := w.heap.size + 1) (by first | assumption | omega) (.string (bs F.data)) (.slice P5 F.cache.length e5) (.int .i64 F.fuse) (.bool F.off) (.slice Q5 F.bad.length f5) (.int .i64 g) (.int .i64 h) (.int .u64 seq) (.int .i64 pos) (.slice R5 ms.length g5) (.bool false)
            have z_29 := blk_off11 z (g := w.heap.size + 1) (by omega) (.string (bs F.data)) (.slice P5 F.cache.length e5) (.int .i64 F.fuse) (.bool F.off) (.slice Q5 F.bad.length f5) (.int .i64 g) (.int .i64 h) (.int .u64 seq) (.int .i64 pos) (.slice R5 ms.length g5) (.bool false)
            have zk_29 := blk2 z_29
            have y_30 := blk_off11 y (g := w.heap.size + 1) (by omega) (.string (bs F.data)) (.slice P5 F.cache.length e5) (.int .i64 F.fuse) (.bool F.off) (.slice Q5 F.bad.length f5) (.int .i64 g) (.int .i64 h) (.int .u64 seq) (.int .i64 pos) (.slice R5 ms.length g5) (.bool false)
            have yk_30 := blk2 y_30
            have i5d_31 := i5d.off11 (g := w.heap.size + 1) (by first | assumption | omega) (.string (bs F.data)) (.slice P5 F.cache.length e5) (.int .i64 F.fuse) (.bool F.off) (.slice Q5 F.bad.length f5) (.int .i64 g) (.int .i64 h) (.int .u64 seq) (.int .i64 pos) (.slice R5 ms.length g5) (.bool false)
            have i5m_32 := i5m.off11 (g := w.heap.size + 1) (by first | assumption | omega) (.string (bs F.data)) (.slice P5 F.cache.length e5) (.int .i64 F.fuse) (.bool F.off) (.slice Q5 F.bad.length f5) (.int .i64 g) (.int .i64 h) (.int .u64 seq) (.int .i64 pos) (.slice R5 ms.length g5) (.bool false)
            clear q_hrl2 q_hrl3
            have yy := blk11 r_27
            have bw := hB_24
            have dw := i5d_31
            have mw := i5m_32
            go_wp2_with fail
            refine bodyPost_ret (v := .tuple #[imval ⟨F, g, h, ⟨seq, pos⟩, ms, false⟩ ⟨P5, e5⟩ ⟨Q5, f5⟩ ⟨R5, g5⟩, .int .i64 ew]) (by simp [results, Tryz.results16, go_sem, yy]) rfl ?_
            rw [Hr.out]
            exact ⟨⟨⟨P5, e5⟩, ⟨Q5, f5⟩, ⟨R5, g5⟩, rfl, ⟨dw, mw⟩, fun g' h1 h2 => O5 g' h1 ⟨h2.1, OM.out g' h1 h2⟩⟩, bw⟩
          · have n2 : decide (c ≤ 1) = false := decide_eq_false hn
            have Hr := hid (show Im.writeIn ⟨D, g, h, ⟨seq, pos⟩, ms, false⟩ u off s = Im.writeNew ⟨D, g, h, ⟨seq, pos⟩, ms, false⟩ one u off s by rw [HW.out]; exact (if_neg (by simp)).trans ((if_neg (by simp)).trans ((if_neg (by simp)).trans ((if_neg (by simp)).trans (if_neg hn)))))
            clear HW Hcg Hfs hn
            go_wp2_with fail
            go_meet
            exact ⟨hV, Hr⟩
        · have n2 : (ec != 0) = true := bne_iff_ne.2 hc
          have Hr := hid (show Im.writeIn ⟨D, g, h, ⟨seq, pos⟩, ms, false⟩ u off s = (⟨D, g, h, ⟨seq, pos⟩, ms, false⟩, ec) by rw [HW.out]; exact (if_neg (by simp)).trans ((if_neg (by simp)).trans ((if_neg (by simp)).trans (if_pos hc))))
          clear HW Hcg Hfs hc
          have q_hrl2 := hrl2.out
          have q_hrl3 := hrl3.out
          have hB_24 := below11 hB (g := w.heap.size + 1) (by omega) (.string (bs D.data)) (.slice A1 D.cache.length a1) (.int .i64 D.fuse) (.bool D.off) (.slice A2 D.bad.length a2) (.int .i64 g) (.int .i64 h) (.int .u64 seq) (.int .i64 pos) (.slice R3 ms.length r3) (.bool false)
          have hd_25 := hd.off11 (g := w.heap.size + 1) (by first | assumption | omega) (.string (bs D.data)) (.slice A1 D.cache.length a1) (.int .i64 D.fuse) (.bool D.off) (.slice A2 D.bad.length a2) (.int .i64 g) (.int .i64 h) (.int .u64 seq) (.int .i64 pos) (.slice R3 ms.length r3) (.bool false)
          have x_26 := blk_off11 x (g := w.heap.size + 1) (by omega) (.string (bs D.data)) (.slice A1 D.cache.length a1) (.int .i64 D.fuse) (.bool D.off) (.slice A2 D.bad.length a2) (.int .i64 g) (.int .i64 h) (.int .u64 seq) (.int .i64 pos) (.slice R3 ms.length r3) (.bool false)
          have xk_26 := blk11 x_26
          have xkf_26 := x_26.frozen
          have r_27 := blk_set11 r (.string (bs D.data)) (.slice A1 D.cache.length a1) (.int .i64 D.fuse) (.bool D.off) (.slice A2 D.bad.length a2) (.int .i64 g) (.int .i64 h) (.int .u64 seq) (.int .i64 pos) (.slice R3 ms.length r3) (.bool false)
          have rk_27 := blk11 r_27
          have rkf_27 := r_27.frozen
          have im_28 := im.off11 (g := w.heap.size + 1) (by first | assumption | omega) (.string (bs D.data)) (.slice A1 D.cache.length a1) (.int .i64 D.fuse) (.bool D.off) (.slice A2 D.bad.length a2) (.int .i64 g) (.int .i64 h) (.int .u64 seq) (.int .i64 pos) (.slice R3 ms.length r3) (.bool false)
          have z_29 := blk_off11 z (g := w.heap.size + 1) (by omega) (.string (bs D.data)) (.slice A1 D.cache.length a1) (.int .i64 D.fuse) (.bool D.off) (.slice A2 D.bad.length a2) (.int .i64 g) (.int .i64 h) (.int .u64 seq) (.int .i64 pos) (.slice R3 ms.length r3) (.bool false)
          have zk_29 := blk2 z_29
          have y_30 := blk_off11 y (g := w.heap.size + 1) (by omega) (.string (bs D.data)) (.slice A1 D.cache.length a1) (.int .i64 D.fuse) (.bool D.off) (.slice A2 D.bad.length a2) (.int .i64 g) (.int .i64 h) (.int .u64 seq) (.int .i64 pos) (.slice R3 ms.length r3) (.bool false)
          have yk_30 := blk2 y_30
          clear q_hrl2 q_hrl3
          have yy := blk11 r_27
          have bw := hB_24
          have dw := hd_25
          have mw := im_28
          go_wp2_with fail
          refine bodyPost_ret (v := .tuple #[imval ⟨D, g, h, ⟨seq, pos⟩, ms, false⟩ ⟨A1, a1⟩ ⟨A2, a2⟩ ⟨R3, r3⟩, .int .i64 ec]) (by simp [results, Tryz.results16, go_sem, yy]) rfl ?_
          rw [Hr.out]
          exact ⟨⟨⟨A1, a1⟩, ⟨A2, a2⟩, ⟨R3, r3⟩, rfl, ⟨dw, mw⟩, fun g' h1 h2 => ⟨h2.1, OM.out g' h1 h2⟩⟩, bw⟩
      · have nK : (K == 1) = false := beq_eq_false_iff_ne.2 hK
        have Hr := hid (show Im.writeIn ⟨D, g, h, ⟨seq, pos⟩, ms, false⟩ u off s = Im.writeNew ⟨D, g, h, ⟨seq, pos⟩, ms, false⟩ one u off s by rw [HW.out]; exact (if_neg (by simp)).trans ((if_neg (by simp)).trans (if_pos hK)))
        clear HW Hcg Hfs hK
        go_wp2_with fail
        go_meet
        exact ⟨hV, Hr⟩
     case rest =>
      obtain ⟨hW, HN⟩ := hcut
      replace x := hx7.below hW hx7.lt
      replace r := hr7.below hW hr7.lt
      replace z := z.below hW z.lt
      replace hB := bt hB7 hW
      replace hd := hd7.below hW
      replace im := im7.below hW
      have HNr := hid (HN.out.trans HNW.out)
      clear xk xkf rk rkf zk y yk hV hx7 hr7 hB7 hd7 im7 hW HN HNW HW Hcg Hfs hrl hrl3
      have xk := blk11 x
      have xkf := x.frozen
      have rk := blk11 r
      have rkf := r.frozen
      have zk := blk2 z
      have hrl9 := hid (r.lt)
      go_wp2_with fail
      go_at_call 35
      refine ((Htk.out _ hB)).mono ?_
      rintro e w6 ⟨⟨PA, pa⟩, ⟨QA, qa⟩, rfl, i6, o6, hb6⟩
      replace hB := bt hB hb6
      replace hd := hd.below hb6
      replace im := im.below hb6
      replace x := x.below hb6 x.lt
      replace xk := blk11 x
      replace xkf := x.frozen
      replace r := r.below hb6 r.lt
      replace rk := blk11 r
      replace rkf := r.frozen
      replace z := z.below hb6 z.lt
      replace zk := blk2 z
      have oxp := o6 w.heap.size (by have := hrl9.out; omega) ⟨.inl rfl, .inl rfl⟩
      have orp := o6 (w.heap.size + 1) (by have := hrl9.out; omega) ⟨.inl rfl, .inl rfl⟩
      have mpl := (im).apart (Nat.le_refl w6.heap.size)
      have ppl := i6.apart (Nat.le_refl w6.heap.size)
      have dpl := (hd).apart (Nat.le_refl w6.heap.size)
      have hrl6 := hid (r.lt)
      clear o6 Htk
      have pl := Blk.new w6 67 #[.slice PA L.targets.length pa, .slice QA L.data.length qa]
      have plk := blk2 pl
      have plkf := pl.frozen
      have hB_1 := hB.alloc hB.size (.cells #[.slice PA L.targets.length pa, .slice QA L.data.length qa] 67)
      have hd_2 := hd.below ((Below.refl _ _).alloc (Nat.le_refl _) (.cells #[.slice PA L.targets.length pa, .slice QA L.data.length qa] 67))
      have im_3 := im.below ((Below.refl _ _).alloc (Nat.le_refl _) (.cells #[.slice PA L.targets.length pa, .slice QA L.data.length qa] 67))
      have x_4 := x.alloc (.cells #[.slice PA L.targets.length pa, .slice QA L.data.length qa] 67)
      have xk_4 := blk11 x_4
      have xkf_4 := x_4.frozen
      have r_5 := r.alloc (.cells #[.slice PA L.targets.length pa, .slice QA L.data.length qa] 67)
      have rk_5 := blk11 r_5
      have rkf_5 := r_5.frozen
      have z_6 := z.alloc (.cells #[.slice PA L.targets.length pa, .slice QA L.data.length qa] 67)
      have zk_6 := blk2 z_6
      have i6_7 := i6.below ((Below.refl _ _).alloc (Nat.le_refl _) (.cells #[.slice PA L.targets.length pa, .slice QA L.data.length qa] 67))
      by_cases ha : ea = 0
      · subst ha
        go_wp2_with fail
        go_at_call 9
        refine ((Hrd.out _ hB_1)).mono ?_
        rintro e w7 ⟨rfl, hb7⟩
        replace hB := bt hB_1 hb7
        replace hd := hd_2.below hb7
        replace im := im_3.below hb7
        replace x := x_4.below hb7 x_4.lt
        replace xk := blk11 x
        replace xkf := x.frozen
        replace r := r_5.below hb7 r_5.lt
        replace rk := blk11 r
        replace rkf := r.frozen
        replace z := z_6.below hb7 z_6.lt
        replace zk := blk2 z
        replace i6 := i6_7.below hb7
        replace pl := pl.below hb7 pl.lt
        replace plk := blk2 pl
        replace plkf := pl.frozen
        clear hB_1 hd_2 im_3 xk_4 xkf_4 x_4 rk_5 rkf_5 r_5 zk_6 z_6 i6_7
        by_cases hbe : eb = 0
        · subst hbe
          have hb128 := Hrl.out rfl
          have hov : Pn.laidOver b (off : Int) s = (over b off s, 0) := by rw [Pn.laidOver, if_neg (by omega), Int.toNat_natCast]
          have how := fun W => r3_over b s (off : Int) W (by omega) (by omega)
          rw [hov] at how
          have hT : (over b off s).length = 128 := by simp only [over, List.length_append, List.length_drop, List.length_take]; omega
          have H1 := hid (HNr.out.trans ((if_neg (by simp)).trans (if_neg (by simp))))
          obtain ⟨at9, h9⟩ : ∃ at9 : Int, 96 + 2 * k = at9 := ⟨_, rfl⟩
          have hkb := Hts.out
          have h9b : 0 ≤ at9 ∧ at9 ≤ 1000 := by omega
          have H2 := H1.out
          rw [Int.toNat_natCast, fill_N h9 hT] at H2
          have hat := fun W => r4_at k (by omega) (by omega) W
          rw [h9] at hat
          generalize over b off s = T at how hT H2
          replace H2 := hid H2
          clear hov h9 HNr H1 Hrl hb128 Hrd
          go_wp2_with fail
          go_at_call 36
          refine ((how _)).mono ?_
          rintro e w8 ⟨rfl, hb8⟩
          replace hB := bt hB hb8
          replace hd := hd.below hb8
          replace im := im.below hb8
          replace x := x.below hb8 x.lt
          replace xk := blk11 x
          replace xkf := x.frozen
          replace r := r.below hb8 r.lt
          replace rk := blk11 r
          replace rkf := r.frozen
          replace z := z.below hb8 z.lt
          replace zk := blk2 z
          replace i6 := i6.below hb8
          replace pl := pl.below hb8 pl.lt
          replace plk := blk2 pl
          replace plkf := pl.frozen
          have Hwr := hid (fun (W : World) (E : Dk) (P Q : Pl) (hD : IsDk W E P Q) (a : Int) (ha : -9223372036854775808 ≤ a ∧ a ≤ 9223372036854775807) (U : List UInt8) (hU : U.length ≤ 9223372036854775807) => r1_write_n E P Q W hD a ha U hU)
          have Hnext := hid (fun i (hi : i < 2) (h : (fillN D at9 T i).2 = 0) => fillN_next D at9 T hi h)
          have Hstop := hid (fun i (hi : i < 2) (h : (fillN D at9 T (i + 1)).2 ≠ 0) => fillN_stop D at9 T hi h)
          have Hfit := hid (fun i => fillN_fit hf at9 T i)
          go_wp2_with fail
          go_loopw [18] (fun v W => ∃ (i : Nat) (E : Dk) (P Q : Pl), i ≤ 2 ∧ v = .int .i64 i ∧ Hid (fillN D at9 T i = (E, 0)) ∧ Blk W w.heap.size 33 #[.string (bs E.data), .slice P.a E.cache.length P.c, .int .i64 E.fuse, .bool E.off, .slice Q.a E.bad.length Q.c, .int .i64 g, .int .i64 h, .int .u64 seq, .int .i64 pos, .slice R3 ms.length r3, .bool false] ∧ Blk W (w.heap.size + 1) 33 #[.string (bs []), .slice none 0 0, .int .i64 0, .bool false, .slice none 0 0, .int .i64 0, .int .i64 0, .int .u64 0, .int .i64 0, .slice none 0 0, .bool false] ∧ Blk W w6.heap.size 67 #[.slice PA L.targets.length pa, .slice QA L.data.length qa] ∧ IsDk W E P Q ∧ IsMs W ms ⟨R3, r3⟩ ∧ IsPn W L ⟨PA, pa⟩ ⟨QA, qa⟩ ∧ (∀ g', g' < w6.heap.size + 1 → DkOff g' D ⟨A1, a1⟩ ⟨A2, a2⟩ → DkOff g' E P Q) ∧ Below w.heap.size w W) (fun v _ => 2 - (intOf v).toNat)
          case atStart => exact ⟨0, D, ⟨A1, a1⟩, ⟨A2, a2⟩, by omega, rfl, hid rfl, x, r, pl, hd, im, i6, fun _ _ h => h, hB⟩
          case round =>
           clear x xk r rk pl plk hd im i6 hB xkf rkf plkf z zk
           obtain ⟨i, E, ⟨P1, c1⟩, ⟨Q1, d1⟩, hi, rfl, HE, x, r, pl, ds, im, i6, HO, hB⟩ := hrel
           simp only at x
           have hro := hrl6.out
           have ox := HO w.heap.size (by omega) oxd
           have or := HO (w.heap.size + 1) (by omega) ord
           have op := HO w6.heap.size (by omega) dpl
           clear hro
           have hrl8 := hid (And.intro r.lt pl.lt)
           have xk := blk11 x
           have xkf := x.frozen
           have rk := blk11 r
           have rkf := r.frozen
           have plk := blk2 pl
           have plkf := pl.frozen
           by_cases hlt : i < 2
           · have hEf : E.fit = true := by have := Hfit.out i; rw [HE.out] at this; exact this
             have hnx := Hnext.out i hlt (by rw [HE.out])
             rw [HE.out] at hnx
             simp only at hnx
             obtain ⟨u64, hu64⟩ : ∃ m : Nat, 64 * i = m := ⟨_, rfl⟩
             obtain ⟨v64, hv64⟩ : ∃ m : Nat, 64 * (i + 1) = m := ⟨_, rfl⟩
             rw [fillAt, hu64, hv64] at hnx
             have e1 : (i : Int) * 64 = (u64 : Int) := by omega
             have e2 : ((i : Int) + 1) * 64 = (v64 : Int) := by omega
             have q1 : u64 ≤ v64 ∧ v64 ≤ 128 := by omega
             have q2 : v64 ≤ T.length := by omega
             have q3 := q1.1
             have q4 := q1.2
             have q5 : ¬ (128 : Int) < (v64 : Int) := by omega
             have q6 : (v64 : Int) ≤ 128 := by omega
             have wA := i64w (x := at9 + (i : Int)) ⟨by omega, by omega⟩
             have wB := i64w (x := (u64 : Int)) ⟨by omega, by omega⟩
             have wC := i64w (x := (v64 : Int)) ⟨by omega, by omega⟩
             have wD := i64w (x := (i : Int) + 1) ⟨by omega, by omega⟩
             have hul : ((T.take v64).drop u64).length ≤ 1000 := by simp only [List.length_drop, List.length_take]; omega
             clear hu64 hv64 Hnext
             go_upto_region 30 with fail
             have wds := ds
             have hwr := fun (W : World) (hW : Below wr.heap.size wr W) => Hwr.out W E ⟨P1, c1⟩ ⟨Q1, d1⟩ (wds.below hW) (at9 + (i : Int)) (by omega) ((T.take v64).drop u64) (by omega)
             have Hgood := hid hnx
             clear hnx hul
             generalize hFE : E.write (at9 + (i : Int)) ((T.take v64).drop u64) = FE at hwr Hgood
             obtain ⟨F, ew⟩ := FE
             obtain ⟨wk, hwk⟩ : ∃ wk : Int, at9 + (i : Int) = wk := ⟨_, rfl⟩
             clear hFE
             simp only [hwk] at hwr wA
             have hap := fun g (hg : wr.heap.size ≤ g) => wds.apart hg
             have xq := x
             have KX := hid (fun (W : World) (hW : Below wr.heap.size wr W) => blk11 (xq.below hW xq.lt))
             clear xk rk xkf rkf plk plkf
             go_cut [19, 20] (fun sa sb W => ∃ (gz : Nat) (p9 q9 : Pl), sa = .pointer (some ⟨gz, 0, none⟩) ∧ sb = .int .i64 ew ∧ wr.heap.size ≤ gz ∧ Blk W gz 25 #[.string (bs F.data), .slice p9.a F.cache.length p9.c, .int .i64 F.fuse, .bool F.off, .slice q9.a F.bad.length q9.c] ∧ IsDk W F p9 q9 ∧ (∀ g', g' < wr.heap.size → DkOff g' E ⟨P1, c1⟩ ⟨Q1, d1⟩ → DkOff g' F p9 q9) ∧ Below wr.heap.size wr W)
             case first =>
              have KX := KX.out
              clear HO Hgood Hstop Hfit Hwr HE r pl im i6 H2 Hok Htl Hts OM
              have s0 : Below wr.heap.size wr wr.drew := (Below.refl _ _).drew
              refine wp_region_late (S := fun W => Below wr.heap.size wr W) (late := fun _ => false) (by kernel_rfl) ?_
              generalize wr.drew = U0 at s0 ⊢
              simp only [List.size_toArray, List.length_cons, List.length_nil, Nat.reduceAdd, Array.replicate_succ, Array.replicate_zero, List.push_toArray, List.nil_append, List.cons_append]
              refine wpLate_take0 (i := 0) (oi := _) (v := .pointer (some ⟨w.heap.size, 0, none⟩)) (d := some 146) rfl rfl (by kernel_rfl) (by kernel_rfl) (by kernel_rfl) (fun _ _ _ h => h) rfl (fun W => by first | rfl | go_simp) ?_
              simp only [Act.put, List.setIfInBounds_toArray, List.set_cons_zero, List.set_cons_succ]
              refine wpLate_take (i := 1) (oi := _) (v := dval E ⟨P1, c1⟩ ⟨Q1, d1⟩) (d := some 147) rfl rfl (by kernel_rfl) (by kernel_rfl) (by kernel_rfl) (by kernel_rfl) (fun _ _ _ h => h) rfl (fun W hW => by have h := KX W hW; go_simp) s0 ?_
              simp only [Act.put, List.setIfInBounds_toArray, List.set_cons_zero, List.set_cons_succ]
              refine wpLate_take0 (i := 2) (oi := _) (v := .int .i64 k) (d := some 148) rfl rfl (by kernel_rfl) (by kernel_rfl) (by kernel_rfl) (fun _ _ _ h => h) rfl (fun W => by first | rfl | go_simp) ?_
              simp only [Act.put, List.setIfInBounds_toArray, List.set_cons_zero, List.set_cons_succ]
              refine wpLate_take0 (i := 4) (oi := _) (v := .int .i64 (i : Int)) (d := some 150) rfl rfl (by kernel_rfl) (by kernel_rfl) (by kernel_rfl) (fun _ _ _ h => h) rfl (fun W => by first | rfl | go_simp) ?_
              simp only [Act.put, List.setIfInBounds_toArray, List.set_cons_zero, List.set_cons_succ]
              refine wpLate_take0 (i := 6) (oi := _) (v := .string (bs T)) (d := some 152) rfl rfl (by kernel_rfl) (by kernel_rfl) (by kernel_rfl) (fun _ _ _ h => h) rfl (fun W => by first | rfl | go_simp) ?_
              simp only [Act.put, List.setIfInBounds_toArray, List.set_cons_zero, List.set_cons_succ]
              refine wpLate_take0 (i := 7) (oi := _) (v := .int .i64 (i : Int)) (d := some 153) rfl rfl (by kernel_rfl) (by kernel_rfl) (by kernel_rfl) (fun _ _ _ h => h) rfl (fun W => by first | rfl | go_simp) ?_
              simp only [Act.put, List.setIfInBounds_toArray, List.set_cons_zero, List.set_cons_succ]
              refine wpLate_take0 (i := 8) (oi := _) (v := .int .i64 (u64 : Int)) (d := some 154) rfl rfl (by kernel_rfl) (by kernel_rfl) (by kernel_rfl) (fun _ _ _ h => h) rfl (fun W => by first | rfl | go_simp) ?_
              simp only [Act.put, List.setIfInBounds_toArray, List.set_cons_zero, List.set_cons_succ]
              refine wpLate_take0 (i := 9) (oi := _) (v := .int .i64 (i : Int)) (d := some 155) rfl rfl (by kernel_rfl) (by kernel_rfl) (by kernel_rfl) (fun _ _ _ h => h) rfl (fun W => by first | rfl | go_simp) ?_
              simp only [Act.put, List.setIfInBounds_toArray, List.set_cons_zero, List.set_cons_succ]
              refine wpLate_take0 (i := 10) (oi := _) (v := .int .i64 ((i : Int) + 1)) (d := some 156) rfl rfl (by kernel_rfl) (by kernel_rfl) (by kernel_rfl) (fun _ _ _ h => h) rfl (fun W => by first | rfl | go_simp) ?_
              simp only [Act.put, List.setIfInBounds_toArray, List.set_cons_zero, List.set_cons_succ]
              refine wpLate_take0 (i := 11) (oi := _) (v := .int .i64 (v64 : Int)) (d := some 157) rfl rfl (by kernel_rfl) (by kernel_rfl) (by kernel_rfl) (fun _ _ _ h => h) rfl (fun W => by first | rfl | go_simp) ?_
              simp only [Act.put, List.setIfInBounds_toArray, List.set_cons_zero, List.set_cons_succ]
              refine wpLate_take0 (i := 12) (oi := _) (v := .string (bs ((T.take v64).drop u64))) (d := some 158) rfl rfl (by kernel_rfl) (by kernel_rfl) (by kernel_rfl) (fun _ _ _ h => h) rfl (fun W => by first | rfl | go_simp) ?_
              simp only [Act.put, List.setIfInBounds_toArray, List.set_cons_zero, List.set_cons_succ]
              refine wpLate_two (i := 3) (k := 17) (by kernel_rfl) rfl rfl rfl rfl (fun K hK => ?_) (fun K hK => ?_)
              · skip
                refine oper_enter' (f := 38) (args := #[.int .i64 k]) (w' := U0) (by go_simp) ((hat U0).mono ?_)
                rintro e U1 ⟨rfl, hb0⟩
                refine ⟨_, rfl, ?_⟩
                show K (Act.put _ (some 149) _) _
                have s1 := bt s0 hb0
                refine hK _ _ (fun _ _ => s1) ?_
                simp only [Act.put, List.setIfInBounds_toArray, List.set_cons_zero, List.set_cons_succ]
                refine wpLate_take0 (i := 5) (oi := _) (v := .int .i64 wk) (d := some 151) rfl rfl (by kernel_rfl) (by kernel_rfl) (by kernel_rfl) (fun _ _ _ h => h) rfl (fun W => by first | rfl | go_simp) ?_
                simp only [Act.put, List.setIfInBounds_toArray, List.set_cons_zero, List.set_cons_succ]
                refine wpLate_two (i := 13) (k := 17) (by kernel_rfl) rfl rfl rfl rfl (fun K hK => ?_) (fun K hK => ?_)
                · skip
                  refine oper_enter' (f := 37) (args := #[dval E ⟨P1, c1⟩ ⟨Q1, d1⟩, .int .i64 wk, .string (bs ((T.take v64).drop u64))]) (w' := U1) (by go_simp) ((hwr U1 s1).mono ?_)
                  rintro e U2 ⟨⟨⟨P9, e9⟩, ⟨Q9, f9⟩, rfl, d9, o9⟩, hb1⟩
                  refine ⟨_, rfl, ?_⟩
                  show K (Act.put _ (some 159) _) _
                  have s2 := bt s1 hb1
                  have O9 : ∀ g', g' < wr.heap.size → DkOff g' E ⟨P1, c1⟩ ⟨Q1, d1⟩ → DkOff g' F ⟨P9, e9⟩ ⟨Q9, f9⟩ := fun g' h1 h2 => o9 g' (Nat.lt_of_lt_of_le h1 s1.size) h2
                  refine hK _ _ (fun _ _ => s2) ?_
                  simp only [Act.put, List.setIfInBounds_toArray, List.set_cons_zero, List.set_cons_succ]
                  refine wpLate_take0 (i := 14) (oi := _) (v := .tuple #[dval F ⟨P9, e9⟩ ⟨Q9, f9⟩, .int .i64 ew]) (d := some 145) rfl rfl (by kernel_rfl) (by kernel_rfl) (by kernel_rfl) (fun _ _ _ h => h) rfl (fun W => by first | rfl | go_simp) ?_
                  simp only [Act.put, List.setIfInBounds_toArray, List.set_cons_zero, List.set_cons_succ]
                  refine wpLate_take0 (i := 15) (oi := _) (v := dval F ⟨P9, e9⟩ ⟨Q9, f9⟩) (d := some 160) rfl rfl (by kernel_rfl) (by kernel_rfl) (by kernel_rfl) (fun _ _ _ h => h) rfl (fun W => by first | rfl | go_simp) ?_
                  simp only [Act.put, List.setIfInBounds_toArray, List.set_cons_zero, List.set_cons_succ]
                  refine wpLate_take0 (i := 16) (oi := _) (v := .int .i64 ew) (d := some 161) rfl rfl (by kernel_rfl) (by kernel_rfl) (by kernel_rfl) (fun _ _ _ h => h) rfl (fun W => by first | rfl | go_simp) ?_
                  simp only [Act.put, List.setIfInBounds_toArray, List.set_cons_zero, List.set_cons_succ]
                  refine wpLate_one (i := 17) (by kernel_rfl) rfl rfl (fun K hK => ?_)
                  refine oper_ran (v := .pointer (some ⟨U2.heap.size, 0, none⟩)) (w' := U2.alloc (.cells #[.string (bs []), .slice none 0 0, .int .i64 0, .bool false, .slice none 0 0] 25)) (by go_simp) ?_
                  show K (Act.put _ (some 19) _) _
                  have s3 := s2.alloc s2.size (.cells #[.string (bs []), .slice none 0 0, .int .i64 0, .bool false, .slice none 0 0] 25)
                  have bz := Blk.new U2 25 #[.string (bs []), .slice none 0 0, .int .i64 0, .bool false, .slice none 0 0]
                  have gz0 : wr.heap.size ≤ U2.heap.size := s2.size
                  have og := d9.apart (Nat.le_refl U2.heap.size)
                  replace d9 := d9.below ((Below.refl _ _).alloc (Nat.le_refl _) (.cells #[.string (bs []), .slice none 0 0, .int .i64 0, .bool false, .slice none 0 0] 25))
                  refine hK _ _ (fun _ _ => s3) ?_
                  generalize U2.alloc (.cells #[.string (bs []), .slice none 0 0, .int .i64 0, .bool false, .slice none 0 0] 25) = U3 at s3 bz d9 ⊢
                  generalize U2.heap.size = gz at bz gz0 og ⊢
                  simp only [Act.put, List.setIfInBounds_toArray, List.set_cons_zero, List.set_cons_succ]
                  refine wpLate_one (i := 18) (by kernel_rfl) rfl rfl (fun K hK => ?_)
                  refine oper_skip (w' := (((((U3.setCell ⟨gz, 0, none⟩ (.string (bs F.data))).setCell ⟨gz, 1, none⟩ (.slice P9 F.cache.length e9)).setCell ⟨gz, 2, none⟩ (.int .i64 F.fuse)).setCell ⟨gz, 3, none⟩ (.bool F.off)).setCell ⟨gz, 4, none⟩ (.slice Q9 F.bad.length f9))) (by have k0 := blk5 bz; have f0 := bz.frozen; have c1 := bz.set 0 (.string (bs F.data)); simp only [List.setIfInBounds_toArray, List.set_cons_zero] at c1; have f1 := c1.frozen; have k1 := blk5 c1; have c2 := c1.set 1 (.slice P9 F.cache.length e9); simp only [List.setIfInBounds_toArray, List.set_cons_zero, List.set_cons_succ] at c2; have f2 := c2.frozen; have k2 := blk5 c2; have c3 := c2.set 2 (.int .i64 F.fuse); simp only [List.setIfInBounds_toArray, List.set_cons_zero, List.set_cons_succ] at c3; have f3 := c3.frozen; have k3 := blk5 c3; have c4 := c3.set 3 (.bool F.off); simp only [List.setIfInBounds_toArray, List.set_cons_zero, List.set_cons_succ] at c4; have f4 := c4.frozen; have k4 := blk5 c4; go_simp) ?_
                  show K (Act.put _ none _) _
                  have bz5 := blk_set5 bz (.string (bs F.data)) (.slice P9 F.cache.length e9) (.int .i64 F.fuse) (.bool F.off) (.slice Q9 F.bad.length f9)
                  have bw := below_set5 s3 gz0 (.string (bs F.data)) (.slice P9 F.cache.length e9) (.int .i64 F.fuse) (.bool F.off) (.slice Q9 F.bad.length f9)
                  have d5 := d9.off5 og (.string (bs F.data)) (.slice P9 F.cache.length e9) (.int .i64 F.fuse) (.bool F.off) (.slice Q9 F.bad.length f9)
                  refine hK _ _ (fun _ _ => bw) ?_
                  try simp only [Act.put, List.setIfInBounds_toArray, List.set_cons_zero, List.set_cons_succ]
                  refine wpLate_take0 (i := 19) (oi := _) (v := .int .i64 ew) (d := some 20) rfl rfl (by kernel_rfl) (by kernel_rfl) (by kernel_rfl) (fun _ _ _ h => h) rfl (fun W => by first | rfl | go_simp) ?_
                  simp only [Act.put, List.setIfInBounds_toArray, List.set_cons_zero, List.set_cons_succ]
                  refine wpLate_done (by kernel_rfl) ?_ _
                  go_wp2_with fail
                  go_meet
                  exact ⟨gz, ⟨P9, e9⟩, ⟨Q9, f9⟩, rfl, rfl, gz0, bz5, d5, O9, bw⟩
                · skip
                  refine oper_ran (v := .pointer (some ⟨U1.heap.size, 0, none⟩)) (w' := U1.alloc (.cells #[.string (bs []), .slice none 0 0, .int .i64 0, .bool false, .slice none 0 0] 25)) (by go_simp) ?_
                  show K (Act.put _ (some 19) _) _
                  have s2 := s1.alloc s1.size (.cells #[.string (bs []), .slice none 0 0, .int .i64 0, .bool false, .slice none 0 0] 25)
                  have bz := Blk.new U1 25 #[.string (bs []), .slice none 0 0, .int .i64 0, .bool false, .slice none 0 0]
                  have gz0 : wr.heap.size ≤ U1.heap.size := s1.size
                  refine hK _ _ (fun _ _ => s2) ?_
                  generalize U1.alloc (.cells #[.string (bs []), .slice none 0 0, .int .i64 0, .bool false, .slice none 0 0] 25) = U2 at s2 bz ⊢
                  generalize U1.heap.size = gz at bz gz0 ⊢
                  simp only [Act.put, List.setIfInBounds_toArray, List.set_cons_zero, List.set_cons_succ]
                  refine wpLate_one (i := 13) (by kernel_rfl) rfl rfl (fun K hK => ?_)
                  refine oper_enter' (f := 37) (args := #[dval E ⟨P1, c1⟩ ⟨Q1, d1⟩, .int .i64 wk, .string (bs ((T.take v64).drop u64))]) (w' := U2) (by go_simp) ((hwr U2 s2).mono ?_)
                  rintro e U3 ⟨⟨⟨P9, e9⟩, ⟨Q9, f9⟩, rfl, d9, o9⟩, hb2⟩
                  refine ⟨_, rfl, ?_⟩
                  show K (Act.put _ (some 159) _) _
                  have s3 := bt s2 hb2
                  have O9 : ∀ g', g' < wr.heap.size → DkOff g' E ⟨P1, c1⟩ ⟨Q1, d1⟩ → DkOff g' F ⟨P9, e9⟩ ⟨Q9, f9⟩ := fun g' h1 h2 => o9 g' (Nat.lt_of_lt_of_le h1 s2.size) h2
                  have og : DkOff gz F ⟨P9, e9⟩ ⟨Q9, f9⟩ := o9 gz bz.lt (hap gz gz0)
                  replace bz := bz.below hb2 bz.lt
                  refine hK _ _ (fun _ _ => s3) ?_
                  simp only [Act.put, List.setIfInBounds_toArray, List.set_cons_zero, List.set_cons_succ]
                  refine wpLate_take0 (i := 14) (oi := _) (v := .tuple #[dval F ⟨P9, e9⟩ ⟨Q9, f9⟩, .int .i64 ew]) (d := some 145) rfl rfl (by kernel_rfl) (by kernel_rfl) (by kernel_rfl) (fun _ _ _ h => h) rfl (fun W => by first | rfl | go_simp) ?_
                  simp only [Act.put, List.setIfInBounds_toArray, List.set_cons_zero, List.set_cons_succ]
                  refine wpLate_take0 (i := 15) (oi := _) (v := dval F ⟨P9, e9⟩ ⟨Q9, f9⟩) (d := some 160) rfl rfl (by kernel_rfl) (by kernel_rfl) (by kernel_rfl) (fun _ _ _ h => h) rfl (fun W => by first | rfl | go_simp) ?_
                  simp only [Act.put, List.setIfInBounds_toArray, List.set_cons_zero, List.set_cons_succ]
                  refine wpLate_take0 (i := 16) (oi := _) (v := .int .i64 ew) (d := some 161) rfl rfl (by kernel_rfl) (by kernel_rfl) (by kernel_rfl) (fun _ _ _ h => h) rfl (fun W => by first | rfl | go_simp) ?_
                  simp only [Act.put, List.setIfInBounds_toArray, List.set_cons_zero, List.set_cons_succ]
                  refine wpLate_one (i := 18) (by kernel_rfl) rfl rfl (fun K hK => ?_)
                  refine oper_skip (w' := (((((U3.setCell ⟨gz, 0, none⟩ (.string (bs F.data))).setCell ⟨gz, 1, none⟩ (.slice P9 F.cache.length e9)).setCell ⟨gz, 2, none⟩ (.int .i64 F.fuse)).setCell ⟨gz, 3, none⟩ (.bool F.off)).setCell ⟨gz, 4, none⟩ (.slice Q9 F.bad.length f9))) (by have k0 := blk5 bz; have f0 := bz.frozen; have c1 := bz.set 0 (.string (bs F.data)); simp only [List.setIfInBounds_toArray, List.set_cons_zero] at c1; have f1 := c1.frozen; have k1 := blk5 c1; have c2 := c1.set 1 (.slice P9 F.cache.length e9); simp only [List.setIfInBounds_toArray, List.set_cons_zero, List.set_cons_succ] at c2; have f2 := c2.frozen; have k2 := blk5 c2; have c3 := c2.set 2 (.int .i64 F.fuse); simp only [List.setIfInBounds_toArray, List.set_cons_zero, List.set_cons_succ] at c3; have f3 := c3.frozen; have k3 := blk5 c3; have c4 := c3.set 3 (.bool F.off); simp only [List.setIfInBounds_toArray, List.set_cons_zero, List.set_cons_succ] at c4; have f4 := c4.frozen; have k4 := blk5 c4; go_simp) ?_
                  show K (Act.put _ none _) _
                  have bz5 := blk_set5 bz (.string (bs F.data)) (.slice P9 F.cache.length e9) (.int .i64 F.fuse) (.bool F.off) (.slice Q9 F.bad.length f9)
                  have bw := below_set5 s3 gz0 (.string (bs F.data)) (.slice P9 F.cache.length e9) (.int .i64 F.fuse) (.bool F.off) (.slice Q9 F.bad.length f9)
                  have d5 := d9.off5 og (.string (bs F.data)) (.slice P9 F.cache.length e9) (.int .i64 F.fuse) (.bool F.off) (.slice Q9 F.bad.length f9)
                  refine hK _ _ (fun _ _ => bw) ?_
                  try simp only [Act.put, List.setIfInBounds_toArray, List.set_cons_zero, List.set_cons_succ]
                  refine wpLate_take0 (i := 19) (oi := _) (v := .int .i64 ew) (d := some 20) rfl rfl (by kernel_rfl) (by kernel_rfl) (by kernel_rfl) (fun _ _ _ h => h) rfl (fun W => by first | rfl | go_simp) ?_
                  simp only [Act.put, List.setIfInBounds_toArray, List.set_cons_zero, List.set_cons_succ]
                  refine wpLate_done (by kernel_rfl) ?_ _
                  go_wp2_with fail
                  go_meet
                  exact ⟨gz, ⟨P9, e9⟩, ⟨Q9, f9⟩, rfl, rfl, gz0, bz5, d5, O9, bw⟩
              · skip
                refine oper_ran (v := .pointer (some ⟨U0.heap.size, 0, none⟩)) (w' := U0.alloc (.cells #[.string (bs []), .slice none 0 0, .int .i64 0, .bool false, .slice none 0 0] 25)) (by go_simp) ?_
                show K (Act.put _ (some 19) _) _
                have s1 := s0.alloc s0.size (.cells #[.string (bs []), .slice none 0 0, .int .i64 0, .bool false, .slice none 0 0] 25)
                have bz := Blk.new U0 25 #[.string (bs []), .slice none 0 0, .int .i64 0, .bool false, .slice none 0 0]
                have gz0 : wr.heap.size ≤ U0.heap.size := s0.size
                refine hK _ _ (fun _ _ => s1) ?_
                generalize U0.alloc (.cells #[.string (bs []), .slice none 0 0, .int .i64 0, .bool false, .slice none 0 0] 25) = U1 at s1 bz ⊢
                generalize U0.heap.size = gz at bz gz0 ⊢
                simp only [Act.put, List.setIfInBounds_toArray, List.set_cons_zero, List.set_cons_succ]
                refine wpLate_one (i := 3) (by kernel_rfl) rfl rfl (fun K hK => ?_)
                refine oper_enter' (f := 38) (args := #[.int .i64 k]) (w' := U1) (by go_simp) ((hat U1).mono ?_)
                rintro e U2 ⟨rfl, hb1⟩
                refine ⟨_, rfl, ?_⟩
                show K (Act.put _ (some 149) _) _
                have s2 := bt s1 hb1
                replace bz := bz.below hb1 bz.lt
                refine hK _ _ (fun _ _ => s2) ?_
                simp only [Act.put, List.setIfInBounds_toArray, List.set_cons_zero, List.set_cons_succ]
                refine wpLate_take0 (i := 5) (oi := _) (v := .int .i64 wk) (d := some 151) rfl rfl (by kernel_rfl) (by kernel_rfl) (by kernel_rfl) (fun _ _ _ h => h) rfl (fun W => by first | rfl | go_simp) ?_
                simp only [Act.put, List.setIfInBounds_toArray, List.set_cons_zero, List.set_cons_succ]
                refine wpLate_one (i := 13) (by kernel_rfl) rfl rfl (fun K hK => ?_)
                refine oper_enter' (f := 37) (args := #[dval E ⟨P1, c1⟩ ⟨Q1, d1⟩, .int .i64 wk, .string (bs ((T.take v64).drop u64))]) (w' := U2) (by go_simp) ((hwr U2 s2).mono ?_)
                rintro e U3 ⟨⟨⟨P9, e9⟩, ⟨Q9, f9⟩, rfl, d9, o9⟩, hb2⟩
                refine ⟨_, rfl, ?_⟩
                show K (Act.put _ (some 159) _) _
                have s3 := bt s2 hb2
                have O9 : ∀ g', g' < wr.heap.size → DkOff g' E ⟨P1, c1⟩ ⟨Q1, d1⟩ → DkOff g' F ⟨P9, e9⟩ ⟨Q9, f9⟩ := fun g' h1 h2 => o9 g' (Nat.lt_of_lt_of_le h1 s2.size) h2
                have og : DkOff gz F ⟨P9, e9⟩ ⟨Q9, f9⟩ := o9 gz bz.lt (hap gz gz0)
                replace bz := bz.below hb2 bz.lt
                refine hK _ _ (fun _ _ => s3) ?_
                simp only [Act.put, List.setIfInBounds_toArray, List.set_cons_zero, List.set_cons_succ]
                refine wpLate_take0 (i := 14) (oi := _) (v := .tuple #[dval F ⟨P9, e9⟩ ⟨Q9, f9⟩, .int .i64 ew]) (d := some 145) rfl rfl (by kernel_rfl) (by kernel_rfl) (by kernel_rfl) (fun _ _ _ h => h) rfl (fun W => by first | rfl | go_simp) ?_
                simp only [Act.put, List.setIfInBounds_toArray, List.set_cons_zero, List.set_cons_succ]
                refine wpLate_take0 (i := 15) (oi := _) (v := dval F ⟨P9, e9⟩ ⟨Q9, f9⟩) (d := some 160) rfl rfl (by kernel_rfl) (by kernel_rfl) (by kernel_rfl) (fun _ _ _ h => h) rfl (fun W => by first | rfl | go_simp) ?_
                simp only [Act.put, List.setIfInBounds_toArray, List.set_cons_zero, List.set_cons_succ]
                refine wpLate_take0 (i := 16) (oi := _) (v := .int .i64 ew) (d := some 161) rfl rfl (by kernel_rfl) (by kernel_rfl) (by kernel_rfl) (fun _ _ _ h => h) rfl (fun W => by first | rfl | go_simp) ?_
                simp only [Act.put, List.setIfInBounds_toArray, List.set_cons_zero, List.set_cons_succ]
                refine wpLate_one (i := 18) (by kernel_rfl) rfl rfl (fun K hK => ?_)
                refine oper_skip (w' := (((((U3.setCell ⟨gz, 0, none⟩ (.string (bs F.data))).setCell ⟨gz, 1, none⟩ (.slice P9 F.cache.length e9)).setCell ⟨gz, 2, none⟩ (.int .i64 F.fuse)).setCell ⟨gz, 3, none⟩ (.bool F.off)).setCell ⟨gz, 4, none⟩ (.slice Q9 F.bad.length f9))) (by have k0 := blk5 bz; have f0 := bz.frozen; have c1 := bz.set 0 (.string (bs F.data)); simp only [List.setIfInBounds_toArray, List.set_cons_zero] at c1; have f1 := c1.frozen; have k1 := blk5 c1; have c2 := c1.set 1 (.slice P9 F.cache.length e9); simp only [List.setIfInBounds_toArray, List.set_cons_zero, List.set_cons_succ] at c2; have f2 := c2.frozen; have k2 := blk5 c2; have c3 := c2.set 2 (.int .i64 F.fuse); simp only [List.setIfInBounds_toArray, List.set_cons_zero, List.set_cons_succ] at c3; have f3 := c3.frozen; have k3 := blk5 c3; have c4 := c3.set 3 (.bool F.off); simp only [List.setIfInBounds_toArray, List.set_cons_zero, List.set_cons_succ] at c4; have f4 := c4.frozen; have k4 := blk5 c4; go_simp) ?_
                show K (Act.put _ none _) _
                have bz5 := blk_set5 bz (.string (bs F.data)) (.slice P9 F.cache.length e9) (.int .i64 F.fuse) (.bool F.off) (.slice Q9 F.bad.length f9)
                have bw := below_set5 s3 gz0 (.string (bs F.data)) (.slice P9 F.cache.length e9) (.int .i64 F.fuse) (.bool F.off) (.slice Q9 F.bad.length f9)
                have d5 := d9.off5 og (.string (bs F.data)) (.slice P9 F.cache.length e9) (.int .i64 F.fuse) (.bool F.off) (.slice Q9 F.bad.length f9)
                refine hK _ _ (fun _ _ => bw) ?_
                try simp only [Act.put, List.setIfInBounds_toArray, List.set_cons_zero, List.set_cons_succ]
                refine wpLate_take0 (i := 19) (oi := _) (v := .int .i64 ew) (d := some 20) rfl rfl (by kernel_rfl) (by kernel_rfl) (by kernel_rfl) (fun _ _ _ h => h) rfl (fun W => by first | rfl | go_simp) ?_
                simp only [Act.put, List.setIfInBounds_toArray, List.set_cons_zero, List.set_cons_succ]
                refine wpLate_done (by kernel_rfl) ?_ _
                go_wp2_with fail
                go_meet
                exact ⟨gz, ⟨P9, e9⟩, ⟨Q9, f9⟩, rfl, rfl, gz0, bz5, d5, O9, bw⟩
             obtain ⟨gz, ⟨P9, e9⟩, ⟨Q9, f9⟩, rfl, rfl, gz0, bz5, d5, O9, bw9⟩ := hcut
             clear Hwr hwr hat hap KX wds wA wB wC wD e1 e2 q1 q2 q3 q4 q5 q6 hwk HE
             replace hB := bt hB bw9
             replace x := x.below bw9 x.lt
             replace r := r.below bw9 r.lt
             replace pl := pl.below bw9 pl.lt
             replace im := im.below bw9
             replace i6 := i6.below bw9
             have gk := blk5 bz5
             have hro := hrl6.out
             have hr8 := hrl8.out
             have ox9 := O9 w.heap.size (by omega) ox
             have or9 := O9 (w.heap.size + 1) (by omega) or
             have op9 := O9 w6.heap.size (by omega) op
             have hgx : ¬ gz = w.heap.size := by omega
             have hgy : ¬ w.heap.size = gz := by omega
             have O8 := hid (fun g' (h1 : g' < w6.heap.size + 1) h2 => O9 g' (by omega) (HO g' h1 h2))
             have b9z := bz5.lt
             clear gz0 O9 HO
             have xk := blk11 x
             have xkf := x.frozen
             have rk := blk11 r
             have rkf := r.frozen
             have plk := blk2 pl
             have plkf := pl.frozen
             have hB_1 := (((((hB).setCell (p := ⟨w.heap.size, 0, none⟩) (by show _ ≤ (w.heap.size : Nat); omega) (.string (bs F.data))).setCell (p := ⟨w.heap.size, 1, none⟩) (by show _ ≤ (w.heap.size : Nat); omega) (.slice P9 F.cache.length e9)).setCell (p := ⟨w.heap.size, 2, none⟩) (by show _ ≤ (w.heap.size : Nat); omega) (.int .i64 F.fuse)).setCell (p := ⟨w.heap.size, 3, none⟩) (by show _ ≤ (w.heap.size : Nat); omega) (.bool F.off)).setCell (p := ⟨w.heap.size, 4, none⟩) (by show _ ≤ (w.heap.size : Nat); omega) (.slice Q9 F.bad.length f9)
             have im_2 := (((((im).off (a := ⟨w.heap.size, 0, none⟩) (by first | assumption | omega) (.string (bs F.data))).off (a := ⟨w.heap.size, 1, none⟩) (by first | assumption | omega) (.slice P9 F.cache.length e9)).off (a := ⟨w.heap.size, 2, none⟩) (by first | assumption | omega) (.int .i64 F.fuse)).off (a := ⟨w.heap.size, 3, none⟩) (by first | assumption | omega) (.bool F.off)).off (a := ⟨w.heap.size, 4, none⟩) (by first | assumption | omega) (.slice Q9 F.bad.length f9)
             have i6_3 := (((((i6).off (a := ⟨w.heap.size, 0, none⟩) (by first | assumption | omega) (.string (bs F.data))).off (a := ⟨w.heap.size, 1, none⟩) (by first | assumption | omega) (.slice P9 F.cache.length e9)).off (a := ⟨w.heap.size, 2, none⟩) (by first | assumption | omega) (.int .i64 F.fuse)).off (a := ⟨w.heap.size, 3, none⟩) (by first | assumption | omega) (.bool F.off)).off (a := ⟨w.heap.size, 4, none⟩) (by first | assumption | omega) (.slice Q9 F.bad.length f9)
             have d5_4 := (((((d5).off (a := ⟨w.heap.size, 0, none⟩) (by first | assumption | omega) (.string (bs F.data))).off (a := ⟨w.heap.size, 1, none⟩) (by first | assumption | omega) (.slice P9 F.cache.length e9)).off (a := ⟨w.heap.size, 2, none⟩) (by first | assumption | omega) (.int .i64 F.fuse)).off (a := ⟨w.heap.size, 3, none⟩) (by first | assumption | omega) (.bool F.off)).off (a := ⟨w.heap.size, 4, none⟩) (by first | assumption | omega) (.slice Q9 F.bad.length f9)
             have x_5 := (((((x).set 0 (.string (bs F.data))).set 1 (.slice P9 F.cache.length e9)).set 2 (.int .i64 F.fuse)).set 3 (.bool F.off)).set 4 (.slice Q9 F.bad.length f9)
             simp only [List.setIfInBounds_toArray, List.set_cons_zero, List.set_cons_succ] at x_5
             have xk_5 := blk11 x_5
             have xkf_5 := x_5.frozen
             have r_6 := (((((r).other (a := ⟨w.heap.size, 0, none⟩) (by show _ ≠ (w.heap.size : Nat); omega) (.string (bs F.data))).other (a := ⟨w.heap.size, 1, none⟩) (by show _ ≠ (w.heap.size : Nat); omega) (.slice P9 F.cache.length e9)).other (a := ⟨w.heap.size, 2, none⟩) (by show _ ≠ (w.heap.size : Nat); omega) (.int .i64 F.fuse)).other (a := ⟨w.heap.size, 3, none⟩) (by show _ ≠ (w.heap.size : Nat); omega) (.bool F.off)).other (a := ⟨w.heap.size, 4, none⟩) (by show _ ≠ (w.heap.size : Nat); omega) (.slice Q9 F.bad.length f9)
             have rk_6 := blk11 r_6
             have rkf_6 := r_6.frozen
             have pl_7 := (((((pl).other (a := ⟨w.heap.size, 0, none⟩) (by show _ ≠ (w.heap.size : Nat); omega) (.string (bs F.data))).other (a := ⟨w.heap.size, 1, none⟩) (by show _ ≠ (w.heap.size : Nat); omega) (.slice P9 F.cache.length e9)).other (a := ⟨w.heap.size, 2, none⟩) (by show _ ≠ (w.heap.size : Nat); omega) (.int .i64 F.fuse)).other (a := ⟨w.heap.size, 3, none⟩) (by show _ ≠ (w.heap.size : Nat); omega) (.bool F.off)).other (a := ⟨w.heap.size, 4, none⟩) (by show _ ≠ (w.heap.size : Nat); omega) (.slice Q9 F.bad.length f9)
             have plk_7 := blk2 pl_7
             have plkf_7 := pl_7.frozen
             clear hro hr8
             by_cases hw0 : ew = 0
             · subst hw0
               clear Hstop
               go_wp2_with fail
               go_roundw
               case rel => exact ⟨i + 1, F, ⟨P9, e9⟩, ⟨Q9, f9⟩, by omega, by go_num, Hgood, x_5, r_6, pl_7, d5_4, im_2, i6_3, O8.out, hB_1⟩
               case measure => simp [intOf]; omega
             · have n1 : (ew != 0) = true := bne_iff_ne.2 hw0
               have HF := hid (show fillN D at9 T 2 = (F, ew) by rw [Hstop.out i hlt (by rw [Hgood.out]; exact hw0), Hgood.out])
               have Hr := hid (H2.out.trans ((if_pos (by rw [HF.out]; exact hw0)).trans (by rw [HF.out])))
               clear Hstop Hgood hw0
               have q_hrl6 := hrl6.out
               have hB_8 := below11 hB_1 (g := w.heap.size + 1) (by omega) (.string (bs F.data)) (.slice P9 F.cache.length e9) (.int .i64 F.fuse) (.bool F.off) (.slice Q9 F.bad.length f9) (.int .i64 g) (.int .i64 h) (.int .u64 seq) (.int .i64 pos) (.slice R3 ms.length r3) (.bool false)
               have im_9 := im_2.off11 (g := w.heap.size + 1) (by first | assumption | omega) (.string (bs F.data)) (.slice P9 F.cache.length e9) (.int .i64 F.fuse) (.bool F.off) (.slice Q9 F.bad.length f9) (.int .i64 g) (.int .i64 h) (.int .u64 seq) (.int .i64 pos) (.slice R3 ms.length r3) (.bool false)
               have i6_10 := i6_3.off11 (g := w.heap.size + 1) (by first | assumption | omega) (.string (bs F.data)) (.slice P9 F.cache.length e9) (.int .i64 F.fuse) (.bool F.off) (.slice Q9 F.bad.length f9) (.int .i64 g) (.int .i64 h) (.int .u64 seq) (.int .i64 pos) (.slice R3 ms.length r3) (.bool false)
               have d5_11 := d5_4.off11 (g := w.heap.size + 1) (by first | assumption | omega) (.string (bs F.data)) (.slice P9 F.cache.length e9) (.int .i64 F.fuse) (.bool F.off) (.slice Q9 F.bad.length f9) (.int .i64 g) (.int .i64 h) (.int .u64 seq) (.int .i64 pos) (.slice R3 ms.length r3) (.bool false)
               have x_12 := blk_off11 x_5 (g := w.heap.size + 1) (by omega) (.string (bs F.data)) (.slice P9 F.cache.length e9) (.int .i64 F.fuse) (.bool F.off) (.slice Q9 F.bad.length f9) (.int .i64 g) (.int .i64 h) (.int .u64 seq) (.int .i64 pos) (.slice R3 ms.length r3) (.bool false)
               have xk_12 := blk11 x_12
               have xkf_12 := x_12.frozen
               have r_13 := blk_set11 r_6 (.string (bs F.data)) (.slice P9 F.cache.length e9) (.int .i64 F.fuse) (.bool F.off) (.slice Q9 F.bad.length f9) (.int .i64 g) (.int .i64 h) (.int .u64 seq) (.int .i64 pos) (.slice R3 ms.length r3) (.bool false)
               have rk_13 := blk11 r_13
               have rkf_13 := r_13.frozen
               have pl_14 := blk_off11 pl_7 (g := w.heap.size + 1) (by omega) (.string (bs F.data)) (.slice P9 F.cache.length e9) (.int .i64 F.fuse) (.bool F.off) (.slice Q9 F.bad.length f9) (.int .i64 g) (.int .i64 h) (.int .u64 seq) (.int .i64 pos) (.slice R3 ms.length r3) (.bool false)
               have plk_14 := blk2 pl_14
               have plkf_14 := pl_14.frozen
               clear q_hrl6
               have yy := blk11 r_13
               have bw := hB_8
               have dw := d5_11
               have mw := im_9
               go_wp2_with fail
               refine bodyPost_ret (v := .tuple #[imval ⟨F, g, h, ⟨seq, pos⟩, ms, false⟩ ⟨P9, e9⟩ ⟨Q9, f9⟩ ⟨R3, r3⟩, .int .i64 ew]) (by simp [results, Tryz.results16, go_sem, yy]) rfl ?_
               rw [Hr.out]
               exact ⟨⟨⟨P9, e9⟩, ⟨Q9, f9⟩, ⟨R3, r3⟩, rfl, ⟨dw, mw⟩, fun g' h1 h2 => ⟨O8.out g' (by have := hrl6.out; omega) h2.1, OM.out g' h1 h2⟩⟩, bw⟩
           · obtain rfl : i = 2 := by omega
             have hEf : E.fit = true := by have := Hfit.out 2; rw [HE.out] at this; exact this
             have H4 := H2.out
             rw [HE.out] at H4
             replace H4 := hid (H4.trans (if_neg (by simp)))
             have HP := hid (show Im.writeNew.pointed ⟨E, g, h, ⟨seq, pos⟩, ms, false⟩ L u 1 k = if (Pn.ptPoint E L g h u 1 k).2 ≠ 0 then (⟨E, g, h, ⟨seq, pos⟩, ms, false⟩, (Pn.ptPoint E L g h u 1 k).2) else Im.done ⟨E, g, h, ⟨seq, pos⟩, ms, false⟩ (Pn.ptPoint E L g h u 1 k).1 from rfl)
             have Hpt := hid (fun (W : World) (i1 : IsDk W E ⟨P1, c1⟩ ⟨Q1, d1⟩) (i2 : IsPn W L ⟨PA, pa⟩ ⟨QA, qa⟩) => r12_point E L ⟨P1, c1⟩ ⟨Q1, d1⟩ ⟨PA, pa⟩ ⟨QA, qa⟩ W i1 i2 hEf Htl.out g h (by omega) (by omega) u 1 k ⟨by omega, by omega⟩)
             have Hpf := hid (Pn.ptPoint_fit hEf Htl.out g h u 1 k)
             have Hof := hid (Hok.out E hEf)
             generalize Pn.ptPoint E L g h u 1 k = PT at Hpt Hpf HP
             obtain ⟨L2, ep⟩ := PT
             have O8 := hid HO
             clear Hstop Hnext Hfit Hwr hat H2 HE HO Hok Htl Hts hEf
             go_wp2_with fail
             go_at_call 39
             refine ((Hpt.out _ ds i6)).mono ?_
             rintro e w9 ⟨⟨⟨PB, pb⟩, ⟨QB, qb⟩, rfl, i9, o9⟩, hb9⟩
             replace hB := bt hB hb9
             replace ds := ds.below hb9
             replace im := im.below hb9
             replace i6 := i6.below hb9
             replace x := x.below hb9 x.lt
             replace xk := blk11 x
             replace xkf := x.frozen
             replace r := r.below hb9 r.lt
             replace rk := blk11 r
             replace rkf := r.frozen
             replace pl := pl.below hb9 pl.lt
             replace plk := blk2 pl
             replace plkf := pl.frozen
             have ol9 := o9 w6.heap.size (by have := hrl8.out.2; omega) ppl
             have oq9 := o9 (w.heap.size + 1) (by have := hrl8.out.1; omega) orp
             have hrla := hid (r.lt)
             clear o9 Hpt
             have hro := hrl6.out
             have hB_1 := ((hB).setCell (p := ⟨w6.heap.size, 0, none⟩) (by show _ ≤ (w6.heap.size : Nat); omega) (.slice PB L2.targets.length pb)).setCell (p := ⟨w6.heap.size, 1, none⟩) (by show _ ≤ (w6.heap.size : Nat); omega) (.slice QB L2.data.length qb)
             have ds_2 := ((ds).off (a := ⟨w6.heap.size, 0, none⟩) (by first | assumption | omega) (.slice PB L2.targets.length pb)).off (a := ⟨w6.heap.size, 1, none⟩) (by first | assumption | omega) (.slice QB L2.data.length qb)
             have im_3 := ((im).off (a := ⟨w6.heap.size, 0, none⟩) (by first | assumption | omega) (.slice PB L2.targets.length pb)).off (a := ⟨w6.heap.size, 1, none⟩) (by first | assumption | omega) (.slice QB L2.data.length qb)
             have i6_4 := ((i6).off (a := ⟨w6.heap.size, 0, none⟩) (by first | assumption | omega) (.slice PB L2.targets.length pb)).off (a := ⟨w6.heap.size, 1, none⟩) (by first | assumption | omega) (.slice QB L2.data.length qb)
             have x_5 := ((x).other (a := ⟨w6.heap.size, 0, none⟩) (by show _ ≠ (w6.heap.size : Nat); omega) (.slice PB L2.targets.length pb)).other (a := ⟨w6.heap.size, 1, none⟩) (by show _ ≠ (w6.heap.size : Nat); omega) (.slice QB L2.data.length qb)
             have xk_5 := blk11 x_5
             have xkf_5 := x_5.frozen
             have r_6 := ((r).other (a := ⟨w6.heap.size, 0, none⟩) (by show _ ≠ (w6.heap.size : Nat); omega) (.slice PB L2.targets.length pb)).other (a := ⟨w6.heap.size, 1, none⟩) (by show _ ≠ (w6.heap.size : Nat); omega) (.slice QB L2.data.length qb)
             have rk_6 := blk11 r_6
             have rkf_6 := r_6.frozen
             have pl_7 := ((pl).set 0 (.slice PB L2.targets.length pb)).set 1 (.slice QB L2.data.length qb)
             simp only [List.setIfInBounds_toArray, List.set_cons_zero, List.set_cons_succ] at pl_7
             have plk_7 := blk2 pl_7
             have plkf_7 := pl_7.frozen
             have i9_8 := ((i9).off (a := ⟨w6.heap.size, 0, none⟩) (by first | assumption | omega) (.slice PB L2.targets.length pb)).off (a := ⟨w6.heap.size, 1, none⟩) (by first | assumption | omega) (.slice QB L2.data.length qb)
             clear hro
             by_cases hp : ep = 0
             · subst hp
               have Hr := hid (show Im.writeIn ⟨D, g, h, ⟨seq, pos⟩, ms, false⟩ u off s = Im.done ⟨E, g, h, ⟨seq, pos⟩, ms, false⟩ L2 from H4.out.trans (HP.out.trans (if_neg (by simp))))
               have Hdn := hid (fun (W : World) (i1 : IsDk W E ⟨P1, c1⟩ ⟨Q1, d1⟩) (i2 : IsMs W ms ⟨R3, r3⟩) (i3 : IsPn W L2 ⟨PB, pb⟩ ⟨QB, qb⟩) => r13_done ⟨E, g, h, ⟨seq, pos⟩, ms, false⟩ L2 ⟨P1, c1⟩ ⟨Q1, d1⟩ ⟨R3, r3⟩ ⟨PB, pb⟩ ⟨QB, qb⟩ W ⟨i1, i2⟩ i3 Hof.out Hpf.out)
               generalize Im.done ⟨E, g, h, ⟨seq, pos⟩, ms, false⟩ L2 = DN at Hdn Hr
               obtain ⟨⟨F, g9, h9, ⟨s9, p9⟩, m9, b9⟩, ed⟩ := DN
               clear H4 HP Hpf Hof
               go_wp2_with fail
               go_at_call 40
               refine ((Hdn.out _ ds_2 im_3 i9_8)).mono ?_
               rintro e wd ⟨⟨⟨PC, pc⟩, ⟨QC, qc⟩, ⟨RC, rc⟩, rfl, ic, oc⟩, hbd⟩
               replace hB := bt hB_1 hbd
               replace ds := ds_2.below hbd
               replace im := im_3.below hbd
               replace i6 := i6_4.below hbd
               replace x := x_5.below hbd x_5.lt
               replace xk := blk11 x
               replace xkf := x.frozen
               replace r := r_6.below hbd r_6.lt
               replace rk := blk11 r
               replace rkf := r.frozen
               replace pl := pl_7.below hbd pl_7.lt
               replace plk := blk2 pl
               replace plkf := pl.frozen
               replace i9 := i9_8.below hbd
               clear hB_1 ds_2 im_3 i6_4 xk_5 xkf_5 x_5 rk_6 rkf_6 r_6 plk_7 plkf_7 pl_7 i9_8
               have hrz := hrla.out
               have oc9 := oc (w.heap.size + 1) (by simp only [World.size_setCell]; omega) ⟨or, orm⟩
               have OC := hid (fun g' (h1 : g' < w.heap.size) h2 => oc g' (by simp only [World.size_setCell]; omega) h2)
               have oF := oc9.1
               have oM := oc9.2
               have icd := ic.d
               have icm := ic.m
               clear Hdn oc oc9 ic hrz
               have hro := hrl6.out
               have hB_9 := below11 hB (g := w.heap.size + 1) (by omega) (.string (bs F.data)) (.slice PC F.cache.length pc) (.int .i64 F.fuse) (.bool F.off) (.slice QC F.bad.length qc) (.int .i64 g9) (.int .i64 h9) (.int .u64 s9) (.int .i64 p9) (.slice RC m9.length rc) (.bool b9)
               have ds_10 := ds.off11 (g := w.heap.size + 1) (by first | assumption | omega) (.string (bs F.data)) (.slice PC F.cache.length pc) (.int .i64 F.fuse) (.bool F.off) (.slice QC F.bad.length qc) (.int .i64 g9) (.int .i64 h9) (.int .u64 s9) (.int .i64 p9) (.slice RC m9.length rc) (.bool b9)
               have im_11 := im.off11 (g := w.heap.size + 1) (by first | assumption | omega) (.string (bs F.data)) (.slice PC F.cache.length pc) (.int .i64 F.fuse) (.bool F.off) (.slice QC F.bad.length qc) (.int .i64 g9) (.int .i64 h9) (.int .u64 s9) (.int .i64 p9) (.slice RC m9.length rc) (.bool b9)
               have i6_12 := i6.off11 (g := w.heap.size + 1) (by first | assumption | omega) (.string (bs F.data)) (.slice PC F.cache.length pc) (.int .i64 F.fuse) (.bool F.off) (.slice QC F.bad.length qc) (.int .i64 g9) (.int .i64 h9) (.int .u64 s9) (.int .i64 p9) (.slice RC m9.length rc) (.bool b9)
               have x_13 := blk_off11 x (g := w.heap.size + 1) (by omega) (.string (bs F.data)) (.slice PC F.cache.length pc) (.int .i64 F.fuse) (.bool F.off) (.slice QC F.bad.length qc) (.int .i64 g9) (.int .i64 h9) (.int .u64 s9) (.int .i64 p9) (.slice RC m9.length rc) (.bool b9)
               have xk_13 := blk11 x_13
               have xkf_13 := x_13.frozen
               have r_14 := blk_set11 r (.string (bs F.data)) (.slice PC F.cache.length pc) (.int .i64 F.fuse) (.bool F.off) (.slice QC F.bad.length qc) (.int .i64 g9) (.int .i64 h9) (.int .u64 s9) (.int .i64 p9) (.slice RC m9.length rc) (.bool b9)
               have rk_14 := blk11 r_14
               have rkf_14 := r_14.frozen
               have pl_15 := blk_off11 pl (g := w.heap.size + 1) (by omega) (.string (bs F.data)) (.slice PC F.cache.length pc) (.int .i64 F.fuse) (.bool F.off) (.slice QC F.bad.length qc) (.int .i64 g9) (.int .i64 h9) (.int .u64 s9) (.int .i64 p9) (.slice RC m9.length rc) (.bool b9)
               have plk_15 := blk2 pl_15
               have plkf_15 := pl_15.frozen
               have i9_16 := i9.off11 (g := w.heap.size + 1) (by first | assumption | omega) (.string (bs F.data)) (.slice PC F.cache.length pc) (.int .i64 F.fuse) (.bool F.off) (.slice QC F.bad.length qc) (.int .i64 g9) (.int .i64 h9) (.int .u64 s9) (.int .i64 p9) (.slice RC m9.length rc) (.bool b9)
               have icd_17 := icd.off11 (g := w.heap.size + 1) (by first | assumption | omega) (.string (bs F.data)) (.slice PC F.cache.length pc) (.int .i64 F.fuse) (.bool F.off) (.slice QC F.bad.length qc) (.int .i64 g9) (.int .i64 h9) (.int .u64 s9) (.int .i64 p9) (.slice RC m9.length rc) (.bool b9)
               have icm_18 := icm.off11 (g := w.heap.size + 1) (by first | assumption | omega) (.string (bs F.data)) (.slice PC F.cache.length pc) (.int .i64 F.fuse) (.bool F.off) (.slice QC F.bad.length qc) (.int .i64 g9) (.int .i64 h9) (.int .u64 s9) (.int .i64 p9) (.slice RC m9.length rc) (.bool b9)
               clear hro
               have yy := blk11 r_14
               have bw := hB_9
               have dw := icd_17
               have mw := icm_18
               go_wp2_with fail
               refine bodyPost_ret (v := .tuple #[imval ⟨F, g9, h9, ⟨s9, p9⟩, m9, b9⟩ ⟨PC, pc⟩ ⟨QC, qc⟩ ⟨RC, rc⟩, .int .i64 ed]) (by simp [results, Tryz.results16, go_sem, yy]) rfl ?_
               rw [Hr.out]
               exact ⟨⟨⟨PC, pc⟩, ⟨QC, qc⟩, ⟨RC, rc⟩, rfl, ⟨dw, mw⟩, fun g' h1 h2 => OC.out g' h1 ⟨O8.out g' (by have := hrl6.out; omega) h2.1, OM.out g' h1 h2⟩⟩, bw⟩
             · have n1 : (ep != 0) = true := bne_iff_ne.2 hp
               have Hr := hid (H4.out.trans (HP.out.trans (if_pos hp)))
               clear H4 HP Hpf Hof hp
               have q_hrl6 := hrl6.out
               have hB_9 := below11 hB_1 (g := w.heap.size + 1) (by omega) (.string (bs E.data)) (.slice P1 E.cache.length c1) (.int .i64 E.fuse) (.bool E.off) (.slice Q1 E.bad.length d1) (.int .i64 g) (.int .i64 h) (.int .u64 seq) (.int .i64 pos) (.slice R3 ms.length r3) (.bool false)
               have ds_10 := ds_2.off11 (g := w.heap.size + 1) (by first | assumption | omega) (.string (bs E.data)) (.slice P1 E.cache.length c1) (.int .i64 E.fuse) (.bool E.off) (.slice Q1 E.bad.length d1) (.int .i64 g) (.int .i64 h) (.int .u64 seq) (.int .i64 pos) (.slice R3 ms.length r3) (.bool false)
               have im_11 := im_3.off11 (g := w.heap.size + 1) (by first | assumption | omega) (.string (bs E.data)) (.slice P1 E.cache.length c1) (.int .i64 E.fuse) (.bool E.off) (.slice Q1 E.bad.length d1) (.int .i64 g) (.int .i64 h) (.int .u64 seq) (.int .i64 pos) (.slice R3 ms.length r3) (.bool false)
               have i6_12 := i6_4.off11 (g := w.heap.size + 1) (by first | assumption | omega) (.string (bs E.data)) (.slice P1 E.cache.length c1) (.int .i64 E.fuse) (.bool E.off) (.slice Q1 E.bad.length d1) (.int .i64 g) (.int .i64 h) (.int .u64 seq) (.int .i64 pos) (.slice R3 ms.length r3) (.bool false)
               have x_13 := blk_off11 x_5 (g := w.heap.size + 1) (by omega) (.string (bs E.data)) (.slice P1 E.cache.length c1) (.int .i64 E.fuse) (.bool E.off) (.slice Q1 E.bad.length d1) (.int .i64 g) (.int .i64 h) (.int .u64 seq) (.int .i64 pos) (.slice R3 ms.length r3) (.bool false)
               have xk_13 := blk11 x_13
               have xkf_13 := x_13.frozen
               have r_14 := blk_set11 r_6 (.string (bs E.data)) (.slice P1 E.cache.length c1) (.int .i64 E.fuse) (.bool E.off) (.slice Q1 E.bad.length d1) (.int .i64 g) (.int .i64 h) (.int .u64 seq) (.int .i64 pos) (.slice R3 ms.length r3) (.bool false)
               have rk_14 := blk11 r_14
               have rkf_14 := r_14.frozen
               have pl_15 := blk_off11 pl_7 (g := w.heap.size + 1) (by omega) (.string (bs E.data)) (.slice P1 E.cache.length c1) (.int .i64 E.fuse) (.bool E.off) (.slice Q1 E.bad.length d1) (.int .i64 g) (.int .i64 h) (.int .u64 seq) (.int .i64 pos) (.slice R3 ms.length r3) (.bool false)
               have plk_15 := blk2 pl_15
               have plkf_15 := pl_15.frozen
               have i9_16 := i9_8.off11 (g := w.heap.size + 1) (by first | assumption | omega) (.string (bs E.data)) (.slice P1 E.cache.length c1) (.int .i64 E.fuse) (.bool E.off) (.slice Q1 E.bad.length d1) (.int .i64 g) (.int .i64 h) (.int .u64 seq) (.int .i64 pos) (.slice R3 ms.length r3) (.bool false)
               clear q_hrl6
               have yy := blk11 r_14
               have bw := hB_9
               have dw := ds_10
               have mw := im_11
               go_wp2_with fail
               refine bodyPost_ret (v := .tuple #[imval ⟨E, g, h, ⟨seq, pos⟩, ms, false⟩ ⟨P1, c1⟩ ⟨Q1, d1⟩ ⟨R3, r3⟩, .int .i64 ep]) (by simp [results, Tryz.results16, go_sem, yy]) rfl ?_
               rw [Hr.out]
               exact ⟨⟨⟨P1, c1⟩, ⟨Q1, d1⟩, ⟨R3, r3⟩, rfl, ⟨dw, mw⟩, fun g' h1 h2 => ⟨O8.out g' (by have := hrl6.out; omega) h2.1, OM.out g' h1 h2⟩⟩, bw⟩
        · have n1 : (eb != 0) = true := bne_iff_ne.2 hbe
          have Hr := hid (HNr.out.trans ((if_neg (by simp)).trans (if_pos hbe)))
          clear HNr Hrd Hrl Htl Hts Hok hbe
          have q_hrl2 := hrl2.out
          have q_hrl6 := hrl6.out
          have hB_8 := below11 hB (g := w.heap.size + 1) (by omega) (.string (bs D.data)) (.slice A1 D.cache.length a1) (.int .i64 D.fuse) (.bool D.off) (.slice A2 D.bad.length a2) (.int .i64 g) (.int .i64 h) (.int .u64 seq) (.int .i64 pos) (.slice R3 ms.length r3) (.bool false)
          have hd_9 := hd.off11 (g := w.heap.size + 1) (by first | assumption | omega) (.string (bs D.data)) (.slice A1 D.cache.length a1) (.int .i64 D.fuse) (.bool D.off) (.slice A2 D.bad.length a2) (.int .i64 g) (.int .i64 h) (.int .u64 seq) (.int .i64 pos) (.slice R3 ms.length r3) (.bool false)
          have im_10 := im.off11 (g := w.heap.size + 1) (by first | assumption | omega) (.string (bs D.data)) (.slice A1 D.cache.length a1) (.int .i64 D.fuse) (.bool D.off) (.slice A2 D.bad.length a2) (.int .i64 g) (.int .i64 h) (.int .u64 seq) (.int .i64 pos) (.slice R3 ms.length r3) (.bool false)
          have x_11 := blk_off11 x (g := w.heap.size + 1) (by omega) (.string (bs D.data)) (.slice A1 D.cache.length a1) (.int .i64 D.fuse) (.bool D.off) (.slice A2 D.bad.length a2) (.int .i64 g) (.int .i64 h) (.int .u64 seq) (.int .i64 pos) (.slice R3 ms.length r3) (.bool false)
          have xk_11 := blk11 x_11
          have xkf_11 := x_11.frozen
          have r_12 := blk_set11 r (.string (bs D.data)) (.slice A1 D.cache.length a1) (.int .i64 D.fuse) (.bool D.off) (.slice A2 D.bad.length a2) (.int .i64 g) (.int .i64 h) (.int .u64 seq) (.int .i64 pos) (.slice R3 ms.length r3) (.bool false)
          have rk_12 := blk11 r_12
          have rkf_12 := r_12.frozen
          have z_13 := blk_off11 z (g := w.heap.size + 1) (by omega) (.string (bs D.data)) (.slice A1 D.cache.length a1) (.int .i64 D.fuse) (.bool D.off) (.slice A2 D.bad.length a2) (.int .i64 g) (.int .i64 h) (.int .u64 seq) (.int .i64 pos) (.slice R3 ms.length r3) (.bool false)
          have zk_13 := blk2 z_13
          have i6_14 := i6.off11 (g := w.heap.size + 1) (by first | assumption | omega) (.string (bs D.data)) (.slice A1 D.cache.length a1) (.int .i64 D.fuse) (.bool D.off) (.slice A2 D.bad.length a2) (.int .i64 g) (.int .i64 h) (.int .u64 seq) (.int .i64 pos) (.slice R3 ms.length r3) (.bool false)
          have pl_15 := blk_off11 pl (g := w.heap.size + 1) (by omega) (.string (bs D.data)) (.slice A1 D.cache.length a1) (.int .i64 D.fuse) (.bool D.off) (.slice A2 D.bad.length a2) (.int .i64 g) (.int .i64 h) (.int .u64 seq) (.int .i64 pos) (.slice R3 ms.length r3) (.bool false)
          have plk_15 := blk2 pl_15
          have plkf_15 := pl_15.frozen
          clear q_hrl2 q_hrl6
          have yy := blk11 r_12
          have bw := hB_8
          have dw := hd_9
          have mw := im_10
          go_wp2_with fail
          refine bodyPost_ret (v := .tuple #[imval ⟨D, g, h, ⟨seq, pos⟩, ms, false⟩ ⟨A1, a1⟩ ⟨A2, a2⟩ ⟨R3, r3⟩, .int .i64 eb]) (by simp [results, Tryz.results16, go_sem, yy]) rfl ?_
          rw [Hr.out]
          exact ⟨⟨⟨A1, a1⟩, ⟨A2, a2⟩, ⟨R3, r3⟩, rfl, ⟨dw, mw⟩, fun g' h1 h2 => ⟨h2.1, OM.out g' h1 h2⟩⟩, bw⟩
      · have n1 : (ea != 0) = true := bne_iff_ne.2 ha
        have Hr := hid (HNr.out.trans (if_pos ha))
        clear HNr Hrd Hrl Htl Hts Hok ha
        have q_hrl2 := hrl2.out
        have q_hrl6 := hrl6.out
        have hB_8 := below11 hB_1 (g := w.heap.size + 1) (by omega) (.string (bs D.data)) (.slice A1 D.cache.length a1) (.int .i64 D.fuse) (.bool D.off) (.slice A2 D.bad.length a2) (.int .i64 g) (.int .i64 h) (.int .u64 seq) (.int .i64 pos) (.slice R3 ms.length r3) (.bool false)
        have hd_9 := hd_2.off11 (g := w.heap.size + 1) (by first | assumption | omega) (.string (bs D.data)) (.slice A1 D.cache.length a1) (.int .i64 D.fuse) (.bool D.off) (.slice A2 D.bad.length a2) (.int .i64 g) (.int .i64 h) (.int .u64 seq) (.int .i64 pos) (.slice R3 ms.length r3) (.bool false)
        have im_10 := im_3.off11 (g := w.heap.size + 1) (by first | assumption | omega) (.string (bs D.data)) (.slice A1 D.cache.length a1) (.int .i64 D.fuse) (.bool D.off) (.slice A2 D.bad.length a2) (.int .i64 g) (.int .i64 h) (.int .u64 seq) (.int .i64 pos) (.slice R3 ms.length r3) (.bool false)
        have x_11 := blk_off11 x_4 (g := w.heap.size + 1) (by omega) (.string (bs D.data)) (.slice A1 D.cache.length a1) (.int .i64 D.fuse) (.bool D.off) (.slice A2 D.bad.length a2) (.int .i64 g) (.int .i64 h) (.int .u64 seq) (.int .i64 pos) (.slice R3 ms.length r3) (.bool false)
        have xk_11 := blk11 x_11
        have xkf_11 := x_11.frozen
        have r_12 := blk_set11 r_5 (.string (bs D.data)) (.slice A1 D.cache.length a1) (.int .i64 D.fuse) (.bool D.off) (.slice A2 D.bad.length a2) (.int .i64 g) (.int .i64 h) (.int .u64 seq) (.int .i64 pos) (.slice R3 ms.length r3) (.bool false)
        have rk_12 := blk11 r_12
        have rkf_12 := r_12.frozen
        have z_13 := blk_off11 z_6 (g := w.heap.size + 1) (by omega) (.string (bs D.data)) (.slice A1 D.cache.length a1) (.int .i64 D.fuse) (.bool D.off) (.slice A2 D.bad.length a2) (.int .i64 g) (.int .i64 h) (.int .u64 seq) (.int .i64 pos) (.slice R3 ms.length r3) (.bool false)
        have zk_13 := blk2 z_13
        have i6_14 := i6_7.off11 (g := w.heap.size + 1) (by first | assumption | omega) (.string (bs D.data)) (.slice A1 D.cache.length a1) (.int .i64 D.fuse) (.bool D.off) (.slice A2 D.bad.length a2) (.int .i64 g) (.int .i64 h) (.int .u64 seq) (.int .i64 pos) (.slice R3 ms.length r3) (.bool false)
        have pl_15 := blk_off11 pl (g := w.heap.size + 1) (by omega) (.string (bs D.data)) (.slice A1 D.cache.length a1) (.int .i64 D.fuse) (.bool D.off) (.slice A2 D.bad.length a2) (.int .i64 g) (.int .i64 h) (.int .u64 seq) (.int .i64 pos) (.slice R3 ms.length r3) (.bool false)
        have plk_15 := blk2 pl_15
        have plkf_15 := pl_15.frozen
        clear q_hrl2 q_hrl6
        have yy := blk11 r_12
        have bw := hB_8
        have dw := hd_9
        have mw := im_10
        go_wp2_with fail
        refine bodyPost_ret (v := .tuple #[imval ⟨D, g, h, ⟨seq, pos⟩, ms, false⟩ ⟨A1, a1⟩ ⟨A2, a2⟩ ⟨R3, r3⟩, .int .i64 ea]) (by simp [results, Tryz.results16, go_sem, yy]) rfl ?_
        rw [Hr.out]
        exact ⟨⟨⟨A1, a1⟩, ⟨A2, a2⟩, ⟨R3, r3⟩, rfl, ⟨dw, mw⟩, fun g' h1 h2 => ⟨h2.1, OM.out g' h1 h2⟩⟩, bw⟩
   · have n1 : (et != 0) = true := bne_iff_ne.2 ht
     have Hr := hid (show Im.writeIn ⟨D, g, h, ⟨seq, pos⟩, ms, false⟩ u off s = (⟨D, g, h, ⟨seq, pos⟩, ms, false⟩, et) by rw [HW.out]; exact (if_neg (by simp)).trans (if_pos ht))
     clear HW HNW Htk Hrd Hrl Htl Hts Hok Hcg Hfs ht
     have q_hrl2 := hrl2.out
     have q_hrl3 := hrl3.out
     have hB_24 := below11 hB_18 (g := w.heap.size + 1) (by omega) (.string (bs D.data)) (.slice A1 D.cache.length a1) (.int .i64 D.fuse) (.bool D.off) (.slice A2 D.bad.length a2) (.int .i64 g) (.int .i64 h) (.int .u64 seq) (.int .i64 pos) (.slice R3 ms.length r3) (.bool false)
     have hd_25 := hd_19.off11 (g := w.heap.size + 1) (by first | assumption | omega) (.string (bs D.data)) (.slice A1 D.cache.length a1) (.int .i64 D.fuse) (.bool D.off) (.slice A2 D.bad.length a2) (.int .i64 g) (.int .i64 h) (.int .u64 seq) (.int .i64 pos) (.slice R3 ms.length r3) (.bool false)
     have x_26 := blk_off11 x_20 (g := w.heap.size + 1) (by omega) (.string (bs D.data)) (.slice A1 D.cache.length a1) (.int .i64 D.fuse) (.bool D.off) (.slice A2 D.bad.length a2) (.int .i64 g) (.int .i64 h) (.int .u64 seq) (.int .i64 pos) (.slice R3 ms.length r3) (.bool false)
     have xk_26 := blk11 x_26
     have xkf_26 := x_26.frozen
     have r_27 := blk_set11 r_21 (.string (bs D.data)) (.slice A1 D.cache.length a1) (.int .i64 D.fuse) (.bool D.off) (.slice A2 D.bad.length a2) (.int .i64 g) (.int .i64 h) (.int .u64 seq) (.int .i64 pos) (.slice R3 ms.length r3) (.bool false)
     have rk_27 := blk11 r_27
     have rkf_27 := r_27.frozen
     have im_28 := im_22.off11 (g := w.heap.size + 1) (by first | assumption | omega) (.string (bs D.data)) (.slice A1 D.cache.length a1) (.int .i64 D.fuse) (.bool D.off) (.slice A2 D.bad.length a2) (.int .i64 g) (.int .i64 h) (.int .u64 seq) (.int .i64 pos) (.slice R3 ms.length r3) (.bool false)
     have z_29 := blk_off11 z_23 (g := w.heap.size + 1) (by omega) (.string (bs D.data)) (.slice A1 D.cache.length a1) (.int .i64 D.fuse) (.bool D.off) (.slice A2 D.bad.length a2) (.int .i64 g) (.int .i64 h) (.int .u64 seq) (.int .i64 pos) (.slice R3 ms.length r3) (.bool false)
     have zk_29 := blk2 z_29
     have y_30 := blk_off11 y (g := w.heap.size + 1) (by omega) (.string (bs D.data)) (.slice A1 D.cache.length a1) (.int .i64 D.fuse) (.bool D.off) (.slice A2 D.bad.length a2) (.int .i64 g) (.int .i64 h) (.int .u64 seq) (.int .i64 pos) (.slice R3 ms.length r3) (.bool false)
     have yk_30 := blk2 y_30
     clear q_hrl2 q_hrl3
     have yy := blk11 r_27
     have bw := hB_24
     have dw := hd_25
     have mw := im_28
     go_wp2_with fail
     refine bodyPost_ret (v := .tuple #[imval ⟨D, g, h, ⟨seq, pos⟩, ms, false⟩ ⟨A1, a1⟩ ⟨A2, a2⟩ ⟨R3, r3⟩, .int .i64 et]) (by simp [results, Tryz.results16, go_sem, yy]) rfl ?_
     rw [Hr.out]
     exact ⟨⟨⟨A1, a1⟩, ⟨A2, a2⟩, ⟨R3, r3⟩, rfl, ⟨dw, mw⟩, fun g' h1 h2 => ⟨h2.1, OM.out g' h1 h2⟩⟩, bw⟩
 · have n1 : (er != 0) = true := bne_iff_ne.2 he
   have Hr := hid (show Im.writeIn ⟨D, g, h, ⟨seq, pos⟩, ms, false⟩ u off s = (⟨D, g, h, ⟨seq, pos⟩, ms, false⟩, er) by rw [HW.out]; exact if_pos he)
   clear HW HNW Htk Hrd Hrl Htl Hts Hok Hcg Hfs Hfd he
   have q_hrl2 := hrl2.out
   have hB_18 := below11 hB_13 (g := w.heap.size + 1) (by omega) (.string (bs D.data)) (.slice A1 D.cache.length a1) (.int .i64 D.fuse) (.bool D.off) (.slice A2 D.bad.length a2) (.int .i64 g) (.int .i64 h) (.int .u64 seq) (.int .i64 pos) (.slice R3 ms.length r3) (.bool false)
   have hd_19 := hd_14.off11 (g := w.heap.size + 1) (by first | assumption | omega) (.string (bs D.data)) (.slice A1 D.cache.length a1) (.int .i64 D.fuse) (.bool D.off) (.slice A2 D.bad.length a2) (.int .i64 g) (.int .i64 h) (.int .u64 seq) (.int .i64 pos) (.slice R3 ms.length r3) (.bool false)
   have x_20 := blk_off11 x_15 (g := w.heap.size + 1) (by omega) (.string (bs D.data)) (.slice A1 D.cache.length a1) (.int .i64 D.fuse) (.bool D.off) (.slice A2 D.bad.length a2) (.int .i64 g) (.int .i64 h) (.int .u64 seq) (.int .i64 pos) (.slice R3 ms.length r3) (.bool false)
   have xk_20 := blk11 x_20
   have xkf_20 := x_20.frozen
   have r_21 := blk_set11 r_16 (.string (bs D.data)) (.slice A1 D.cache.length a1) (.int .i64 D.fuse) (.bool D.off) (.slice A2 D.bad.length a2) (.int .i64 g) (.int .i64 h) (.int .u64 seq) (.int .i64 pos) (.slice R3 ms.length r3) (.bool false)
   have rk_21 := blk11 r_21
   have rkf_21 := r_21.frozen
   have im_22 := im_17.off11 (g := w.heap.size + 1) (by first | assumption | omega) (.string (bs D.data)) (.slice A1 D.cache.length a1) (.int .i64 D.fuse) (.bool D.off) (.slice A2 D.bad.length a2) (.int .i64 g) (.int .i64 h) (.int .u64 seq) (.int .i64 pos) (.slice R3 ms.length r3) (.bool false)
   have z_23 := blk_off11 z (g := w.heap.size + 1) (by omega) (.string (bs D.data)) (.slice A1 D.cache.length a1) (.int .i64 D.fuse) (.bool D.off) (.slice A2 D.bad.length a2) (.int .i64 g) (.int .i64 h) (.int .u64 seq) (.int .i64 pos) (.slice R3 ms.length r3) (.bool false)
   have zk_23 := blk2 z_23
   clear q_hrl2
   have yy := blk11 r_21
   have bw := hB_18
   have dw := hd_19
   have mw := im_22
   go_wp2_with fail
   refine bodyPost_ret (v := .tuple #[imval ⟨D, g, h, ⟨seq, pos⟩, ms, false⟩ ⟨A1, a1⟩ ⟨A2, a2⟩ ⟨R3, r3⟩, .int .i64 er]) (by simp [results, Tryz.results16, go_sem, yy]) rfl ?_
   rw [Hr.out]
   exact ⟨⟨⟨A1, a1⟩, ⟨A2, a2⟩, ⟨R3, r3⟩, rfl, ⟨dw, mw⟩, fun g' h1 h2 => ⟨h2.1, OM.out g' h1 h2⟩⟩, bw⟩
end Go.Proofs.YtlapjkbefkmohaaGreat
