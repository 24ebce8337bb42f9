/- Package ref14: ranges, cut at clusters. -/
import Derived.Test.YtlapjkbefkmohaaGreatSdSpan3
import Derived.Test.YtlapjkbefkmohaaGreatSdImg9
import Derived.Test.YtlapjkbefkmohaaGreatSdRegs
set_option linter.unusedVariables false
namespace Go.Proofs.YtlapjkbefkmohaaGreat
open Go.RowKit Go.Shelf
attribute [local go_sem] bs_mk bs_append bs_extract bs_size bs_toList bs_get
set_option maxRecDepth 100000 in
theorem r14_within (g : Int) (h : Int) (hg : 0 < g ∧ g ≤ 64) (a n : Int) (ha : -9223372036854775808 ≤ a ∧ a ≤ 9223372036854775807) (hn : -9223372036854775808 ≤ n ∧ n ≤ 9223372036854775807) (w : World) :
 Calls Tryz.prog 25 #[.agg #[.int .i64 g, .int .i64 h], .int .i64 a, .int .i64 n] w fun e w' => e = .returned (.bool (Im.within g a n)) ∧ Below w.heap.size w w' := by
 have w1 := i64w (x := g * 128) (by omega)
 have Hd := hid (show Im.within g a n = decide (0 ≤ a ∧ 0 ≤ n ∧ n ≤ g * 128 ∧ a ≤ g * 128 - n) by
  cases hw : Im.within g a n with
  | true => have := within_iff.1 hw; exact (decide_eq_true (by omega)).symm
  | false =>
   refine (decide_eq_false fun hc => ?_).symm
   rw [within_iff.2 (by omega)] at hw
   cases hw)
 have hb := (Below.refl w.heap.size w).alloc (Nat.le_refl _) (.cells #[.int .i64 g, .int .i64 h] 27)
 have x0 := blk2 (Blk.new w 27 #[.int .i64 g, .int .i64 h])
 obtain ⟨b, hbe⟩ : ∃ b, Im.within g a n = b := ⟨_, rfl⟩
 rw [hbe]
 replace hbe := hid hbe
 go_enter Tryz.func25, Tryz.ntmps25
 by_cases c1 : 0 ≤ a
 rotate_left
 · have Hr := hid (show decide (0 ≤ a ∧ 0 ≤ n ∧ n ≤ g * 128 ∧ a ≤ g * 128 - n) = false by simp only [decide_eq_false_iff_not]; omega)
   go_wp2_with fail
   go_ret
   rw [show b = false from hbe.out.symm.trans (Hd.out.trans Hr.out)]
   exact ⟨rfl, hb⟩
 by_cases c2 : 0 ≤ n
 rotate_left
 · have Hr := hid (show decide (0 ≤ a ∧ 0 ≤ n ∧ n ≤ g * 128 ∧ a ≤ g * 128 - n) = false by simp only [decide_eq_false_iff_not]; omega)
   go_wp2_with fail
   go_ret
   rw [show b = false from hbe.out.symm.trans (Hd.out.trans Hr.out)]
   exact ⟨rfl, hb⟩
 by_cases c3 : n ≤ g * 128
 rotate_left
 · have Hr := hid (show decide (0 ≤ a ∧ 0 ≤ n ∧ n ≤ g * 128 ∧ a ≤ g * 128 - n) = false by simp only [decide_eq_false_iff_not]; omega)
   go_wp2_with fail
   go_ret
   rw [show b = false from hbe.out.symm.trans (Hd.out.trans Hr.out)]
   exact ⟨rfl, hb⟩
 have w2 := i64w (x := g * 128 - n) (by omega)
 by_cases c4 : a ≤ g * 128 - n
 rotate_left
 · have Hr := hid (show decide (0 ≤ a ∧ 0 ≤ n ∧ n ≤ g * 128 ∧ a ≤ g * 128 - n) = false by simp only [decide_eq_false_iff_not]; omega)
   go_wp2_with fail
   go_ret
   rw [show b = false from hbe.out.symm.trans (Hd.out.trans Hr.out)]
   exact ⟨rfl, hb⟩
 · have Hr := hid (show decide (0 ≤ a ∧ 0 ≤ n ∧ n ≤ g * 128 ∧ a ≤ g * 128 - n) = true by simp only [decide_eq_true_eq]; omega)
   go_wp2_with fail
   go_ret
   rw [show b = true from hbe.out.symm.trans (Hd.out.trans Hr.out)]
   exact ⟨rfl, hb⟩
set_option maxRecDepth 100000 in
set_option maxHeartbeats 1000000 in
theorem r14_cut (a k : Int) (w : World) :
 Calls Tryz.prog 26 #[.int .i64 a, .int .i64 k] w fun e w' => (∃ v, e = .returned v ∧ w'.ownsRow w.heap.size 80 3 v (Im.cuts a k).length (cutCells (Im.cuts a k))) ∧ Below w.heap.size w w' := by
 obtain ⟨i0, hi, hz0, hz1, hz2⟩ := info_parts Tryz.infoCut
 by_cases hak : a < 0 ∨ k < 0 ∨ 1073741824 < a ∨ 65536 < k
 · have Hc := hid (show Im.cuts a k = [] by simp [Im.cuts, hak])
   go_enter Tryz.func26, Tryz.ntmps26
   by_cases c1 : a < 0
   · go_wp2_with fail
     go_ret
     rw [Hc.out]
     exact ⟨⟨_, rfl, World.ownsRow_nil _ _ _ _⟩, Below.refl _ _⟩
   by_cases c2 : k < 0
   · go_wp2_with fail
     go_ret
     rw [Hc.out]
     exact ⟨⟨_, rfl, World.ownsRow_nil _ _ _ _⟩, Below.refl _ _⟩
   by_cases c3 : 1073741824 < a
   · go_wp2_with fail
     go_ret
     rw [Hc.out]
     exact ⟨⟨_, rfl, World.ownsRow_nil _ _ _ _⟩, Below.refl _ _⟩
   have c4 : 65536 < k := by omega
   go_wp2_with fail
   go_ret
   rw [Hc.out]
   exact ⟨⟨_, rfl, World.ownsRow_nil _ _ _ _⟩, Below.refl _ _⟩
 · have c1 : ¬ a < 0 := by omega
   have c2 : ¬ k < 0 := by omega
   have c3 : ¬ 1073741824 < a := by omega
   have c4 : ¬ 65536 < k := by omega
   have Hc := hid (show Im.cuts a k = [] ++ Im.cuts a k ∧ Tiles a k (Im.cuts a k) from ⟨rfl, cuts_tiles hak⟩)
   have Hl := hid (cuts_length a k)
   generalize Im.cuts a k = C at *
   clear hak
   go_enter Tryz.func26, Tryz.ntmps26
   go_wp2_with fail
   go_loopw [0, 1, 5] (fun f nn l W => ∃ (u q : Nat) (pre rest : List Cut), f = .int .i64 u ∧ nn = .int .i64 q ∧ Hid (C = pre ++ rest ∧ Tiles u q rest) ∧ u + q ≤ 1073807360 ∧ W.ownsRow w.heap.size 80 3 l pre.length (cutCells pre) ∧ Below w.heap.size w W) (fun _ nn _ _ => (intOf nn).toNat)
   case atStart => exact ⟨a.toNat, k.toNat, [], _, by rw [show ((a.toNat : Nat) : Int) = a by omega], by rw [show ((k.toNat : Nat) : Int) = k by omega], hid (by rw [show ((a.toNat : Nat) : Int) = a by omega, show ((k.toNat : Nat) : Int) = k by omega]; exact Hc.out), by omega, World.ownsRow_nil _ _ _ _, Below.refl _ _⟩
   case round =>
    obtain ⟨u, q, pre, rest, rfl, rfl, ht, huq, hrow, hb⟩ := hrel
    clear c1 c2 c3 c4
    by_cases hq : 0 < q
    · obtain ⟨hc1, hc2⟩ := ht.out
      obtain ⟨rest', hr, hT⟩ := hc2.next (by omega)
      obtain ⟨Aq, hA⟩ : ∃ m, u / 128 = m := ⟨_, rfl⟩
      obtain ⟨R, hR⟩ : ∃ m, u % 128 = m := ⟨_, rfl⟩
      obtain ⟨s, hs⟩ : ∃ s : Nat, min q (128 - R) = s := ⟨_, rfl⟩
      have hR2 : R < 128 := by omega
      have hsz : 0 < s ∧ s ≤ q ∧ s ≤ 128 := by omega
      have tA : (u : Int).tdiv 128 = (Aq : Int) := by rw [Int.tdiv_eq_ediv_of_nonneg (by omega), ← hA]; rfl
      have tR : (u : Int).tmod 128 = (R : Int) := by rw [Int.tmod_eq_emod_of_nonneg (by omega), ← hR]; rfl
      have tS : min (q : Int) (128 - (R : Int)) = (s : Int) := by omega
      have Hcut := hid (show C = (pre ++ [((Aq : Int), (R : Int), (s : Int))]) ++ rest' ∧ Tiles ((u + s : Nat) : Int) ((q - s : Nat) : Int) rest' by
       have e1 : (u : Int) / 128 = (Aq : Int) := by rw [← hA]; rfl
       have e2 : (u : Int) % 128 = (R : Int) := by rw [← hR]; rfl
       rw [e1, e2, tS] at hr
       rw [e2, tS] at hT
       rw [hc1, hr]
       exact ⟨by simp, by rw [show ((u + s : Nat) : Int) = (u : Int) + s by omega, show ((q - s : Nat) : Int) = (q : Int) - s by omega]; exact hT⟩)
      have hlen : pre.length ≤ 514 := by
       have := Hl.out
       rw [hc1, List.length_append] at this
       omega
      have wA := i64w (x := (Aq : Int)) (by omega)
      have wR := i64w (x := (R : Int)) (by omega)
      have wS := i64w (x := 128 - (R : Int)) (by omega)
      have wU := i64w (x := (u : Int) + s) (by omega)
      have wQ := i64w (x := (q : Int) - s) (by omega)
      have Hmap := hid (cutCells_snoc pre ((Aq : Int), (R : Int), (s : Int)))
      have eu : (u : Int) + (s : Int) = ((u + s : Nat) : Int) := by omega
      have eq9 : (q : Int) - (s : Int) = ((q - s : Nat) : Int) := by omega
      have Heu := hid eu
      have Heq := hid eq9
      have hbs := hb.size
      clear hc1 hc2 hr hT hA hR hs ht eu eq9
      go_wp2_with (at_builtin; refine wpList_append_own _ rfl _ _ 78 rfl w.heap.size 80 i0 (.agg #[.int .i64 0, .int .i64 0, .int .i64 0]) 3 24 Tryz.underlying78 hi hz0 hz1 hz2 rfl (by decide) _ _ _ rfl (hrow.alloc _) ⟨wr.heap.size, 0, none⟩ 1 1 [.int .i64 Aq, .int .i64 R, .int .i64 s] rfl rfl (World.news_of_block (Blk.new wr 80 #[.int .i64 Aq, .int .i64 R, .int .i64 s])) (by simp [Value.oneCell']) (by unfold maxLen; omega) (by omega) (by simp; omega) ?_; intro v5 w5 h5 gr5 _)
      have b5 := (hb.alloc hb.size (.cells #[.int .i64 Aq, .int .i64 R, .int .i64 s] 80)).trans (grown_below (hrow.alloc (.cells #[.int .i64 Aq, .int .i64 R, .int .i64 s] 80)) gr5 (by simp; omega))
      go_roundw
      case rel => exact ⟨u + s, q - s, _, _, by rw [Heu.out], by rw [Heq.out], Hcut, by omega, by rw [← Hmap.out, List.length_append]; exact h5, b5⟩
      case measure => simp [intOf]; omega
    · obtain rfl : q = 0 := by omega
      obtain ⟨hc1, hc2⟩ := ht.out
      have e9 := hid (show pre = C by rw [hc1, hc2.done (by omega), List.append_nil])
      clear hc1 hc2 ht
      go_wp2_with fail
      go_ret
      rw [← e9.out]
      exact ⟨⟨_, rfl, hrow⟩, hb⟩
end Go.Proofs.YtlapjkbefkmohaaGreat
