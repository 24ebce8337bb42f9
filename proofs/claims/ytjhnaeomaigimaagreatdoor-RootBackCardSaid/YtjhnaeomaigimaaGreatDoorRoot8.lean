/- Package ref10: all snapshots of an image. -/
import Derived.Test.YtjhnaeomaigimaaGreatDoorRoot7
set_option linter.unusedVariables false
namespace Go.Proofs.YtjhnaeomaigimaaGreatDoor
open Go.RowKit Go.Shelf
attribute [local go_sem] bs_mk bs_append bs_extract bs_size bs_toList bs_get
set_option maxRecDepth 100000 in
set_option maxHeartbeats 2000000 in
theorem r10_snaps (D : Dk) (L : Pn) (p q p' q' : Pl) (w : World) (hD : IsDk w D p q) (hL : IsPn w L p' q') (hf : D.fit = true) (hfl : L.Fit) :
    Calls Tryz.prog 21 #[dval D p q, pval L p' q'] w fun e w' => (∃ v, e = .returned (.tuple #[v, .int .i64 (Pn.snaps D L).2]) ∧ w'.ownsRow w.heap.size 33 3 v (Pn.snaps D L).1.length (snCells (Pn.snaps D L).1)) ∧ Below w.heap.size w w' := by
  have Hall := hid (show Pn.snaps D L = allN (Pn.snGet D L) 8 from rfl)
  have hg := fun (W : World) (hb : Below w.heap.size w W) (k : Int) => r5_look D L p q p' q' W (hD.below hb) (hL.below hb) k ((Dk.fit_parts hf).2.2.1) (by have := hfl.2.1; omega) hfl.1
  have Hfull := hid (fun k => Pn.look_full (k := k) hf hfl)
  obtain ⟨i0, hi, hz0, hz1, hz2⟩ := info_parts Tryz.infoSnap
  clear hD hL hf hfl
  obtain ⟨A1, a1⟩ := p
  obtain ⟨A2, a2⟩ := q
  obtain ⟨B1, b1⟩ := p'
  obtain ⟨B2, b2⟩ := q'
  go_enter Tryz.func21, Tryz.ntmps21
  go_wp2_with fail
  have hB := Below.refl w.heap.size w
  have x := Blk.new w 25 #[.string (bs D.data), .slice A1 D.cache.length a1, .int .i64 D.fuse, .bool D.off, .slice A2 D.bad.length a2]
  have xk := blk5 x
  have hB_1 := hB.alloc hB.size (.cells #[.string (bs D.data), .slice A1 D.cache.length a1, .int .i64 D.fuse, .bool D.off, .slice A2 D.bad.length a2] 25)
  have z := Blk.new (w.alloc (.cells #[.string (bs D.data), .slice A1 D.cache.length a1, .int .i64 D.fuse, .bool D.off, .slice A2 D.bad.length a2] 25)) 28 #[.slice B1 L.targets.length b1, .slice B2 L.data.length b2]
  simp only [World.size_alloc] at z
  have zk := blk2 z
  have hB_2 := hB_1.alloc hB_1.size (.cells #[.slice B1 L.targets.length b1, .slice B2 L.data.length b2] 28)
  have x_3 := x.alloc (.cells #[.slice B1 L.targets.length b1, .slice B2 L.data.length b2] 28)
  have xk_3 := blk5 x_3
  generalize ((w.alloc (.cells #[.string (bs D.data), .slice A1 D.cache.length a1, .int .i64 D.fuse, .bool D.off, .slice A2 D.bad.length a2] 25)).alloc (.cells #[.slice B1 L.targets.length b1, .slice B2 L.data.length b2] 28)) = V at hB_2 x_3 xk_3 z zk ⊢
  clear hB_1 hB x xk
  have hB := hB_2
  have x := x_3
  have xk := xk_3
  clear hB_2 x_3 xk_3
  have vl : w.heap.size + 1 < V.heap.size := z.lt
  go_loopw [6, 7] (fun l x W => ∃ m : Nat, m ≤ 8 ∧ x = .int .i64 m ∧ Hid (∀ i, i < m → (Pn.snGet D L i).2 = 0) ∧ W.ownsRow V.heap.size 33 3 l m (snCells ((List.range m).map fun i : Nat => (Pn.snGet D L i).1)) ∧ Below V.heap.size V W) (fun _ x _ => 8 - (intOf x).toNat)
  case atStart => exact ⟨0, Nat.zero_le _, rfl, hid (fun i hi => by omega), World.ownsRow_nil _ _ _ _, Below.refl _ _⟩
  case round =>
    obtain ⟨m, hm, rfl, hok, hown, hb⟩ := hrel
    have hbw := hB.trans (hb.mono hB.size)
    by_cases hlt : m < 8
    · have hgm := hg wr hbw (Pn.snSec m)
      have hfull := Hfull.out (Pn.snSec m)
      have e1 : (2 : Int) + (m : Int) / 4 = Pn.snSec m := rfl
      obtain ⟨o, ho⟩ : ∃ o : Nat, Pn.snOff m = o := ⟨(Pn.snOff m).toNat, by unfold Pn.snOff; omega⟩
      have ho64 : o + 16 ≤ 64 := by unfold Pn.snOff at ho; omega
      have e2 : (m : Int) % 4 * 16 = o := by unfold Pn.snOff at ho; omega
      have e3 : ((m : Int) % 4 + 1) * 16 = (o : Int) + 16 := by unfold Pn.snOff at ho; omega
      have hG : Pn.snGet D L m = if (Pn.look D L (Pn.snSec m)).2 ≠ 0 then (Sn.zero, (Pn.look D L (Pn.snSec m)).2) else if Sn.good (cut (Pn.look D L (Pn.snSec m)).1 o 16) = true then (Sn.of (cut (Pn.look D L (Pn.snSec m)).1 o 16), 0) else (Sn.zero, 14) := by
        rw [Pn.snGet, ho, Int.toNat_natCast]
      obtain ⟨S, hS⟩ : ∃ S, Pn.look D L (Pn.snSec m) = S := ⟨_, rfl⟩
      obtain ⟨s, er⟩ := S
      rw [hS] at hgm hfull hG
      simp only at hgm hfull hG
      have HG := hid hG
      have Hst := hid (fun S er2 (hg : Pn.snGet D L m = (S, er2)) (he : er2 ≠ 0) => show Pn.snaps D L = ([], er2) by
        rw [Hall.out, allN_stop (f := Pn.snGet D L) (n := m) (allN_all (fun i hi => hok.out i hi)) (by rw [hg]; exact he) 8 hlt, hg])
      have Hok2 := hid (fun S (hg : Pn.snGet D L m = (S, 0)) => And.intro (show ∀ i, i < m + 1 → (Pn.snGet D L i).2 = 0 from fun i hi => by
          rcases Nat.lt_or_eq_of_le (Nat.le_of_lt_succ hi) with h | h
          · exact hok.out i h
          · rw [h, hg]) (show snCells ((List.range m).map fun i : Nat => (Pn.snGet D L i).1) ++ [.int .u32 S.id, .int .i64 S.l1, .string (bs S.name)] = snCells ((List.range (m + 1)).map fun i : Nat => (Pn.snGet D L i).1) by rw [snCells_snoc, List.range_succ, List.map_append]; simp [hg]))
      generalize Pn.snSec m = sec at *
      clear hS ho hG hok hg Hfull
      have x1 := x.below hb x.lt
      have z1 := z.below hb z.lt
      clear xk zk
      have hB := hbw
      have hR := Below.refl wr.heap.size wr
      have x1k := blk5 x1
      have z1k := blk2 z1
      go_wp2_with fail
      go_at_call 58
      refine ((hgm)).mono ?_
      rintro e w1 ⟨rfl, hb1⟩
      replace hB := bt hB hb1
      replace hR := bt hR hb1
      replace x1 := x1.below hb1 x1.lt
      replace x1k := blk5 x1
      replace z1 := z1.below hb1 z1.lt
      replace z1k := blk2 z1
      have sw1 : wr.heap.size ≤ w1.heap.size := hb1.size
      have swr : w.heap.size + 2 ≤ wr.heap.size := by have := hb.size; omega
      by_cases he : er = 0
      · subst he
        have hs := hfull rfl
        have c1 : ¬ s.length < o + 16 := by omega
        have c2 : ¬ o + 16 < o := by omega
        have h16 : (cut s o 16).length = 16 := cut_length (by omega)
        obtain ⟨t, ht⟩ : ∃ t, cut s o 16 = t := ⟨_, rfl⟩
        have e4 : List.drop o (List.take (o + 16) s) = t := (cut_take s o 16).trans ht
        rw [ht] at h16 HG
        have HG2 := hid (show Pn.snGet D L m = if Sn.good t = true then (Sn.of t, 0) else (Sn.zero, 14) by rw [HG.out]; rfl)
        have hzs := fun W => r10_zeros 16 (by decide) W
        rw [show ((16 : Nat) : Int) = 16 from rfl] at hzs
        clear ht HG hfull
        by_cases hz : t = List.replicate 16 0
        · have Hg := hid (show Pn.snGet D L m = (Sn.zero, 0) by
            have h1 : Sn.of t = Sn.zero := by rw [Sn.of, if_pos hz]
            have h2 : Sn.good t = true := by rw [Sn.good, h1, hz]; decide
            rw [HG2.out, if_pos h2, h1])
          have hws := fun W => r10_snap_zero W
          rw [← hz] at hws hzs
          have d1 : (t == t) = true := beq_self_eq_true t
          have d2 : (t != t) = false := bne_self_eq_false t
          clear hz HG2
          have v := Blk.new w1 33 #[.int .u32 0, .int .i64 0, .string (bs [])]
          have vk := blk3 v
          have hB_1 := hB.alloc hB.size (.cells #[.int .u32 0, .int .i64 0, .string (bs [])] 33)
          have hR_2 := hR.alloc hR.size (.cells #[.int .u32 0, .int .i64 0, .string (bs [])] 33)
          have x1_3 := x1.alloc (.cells #[.int .u32 0, .int .i64 0, .string (bs [])] 33)
          have x1k_3 := blk5 x1_3
          have z1_4 := z1.alloc (.cells #[.int .u32 0, .int .i64 0, .string (bs [])] 33)
          have z1k_4 := blk2 z1_4
          go_wp2_with fail
          go_at_call 62
          refine ((hzs _)).mono ?_
          rintro e w2 ⟨rfl, hb2⟩
          replace hB := bt hB_1 hb2
          replace hR := bt hR_2 hb2
          replace x1 := x1_3.below hb2 x1_3.lt
          replace x1k := blk5 x1
          replace z1 := z1_4.below hb2 z1_4.lt
          replace z1k := blk2 z1
          replace v := v.below hb2 v.lt
          replace vk := blk3 v
          clear hB_1 hR_2 x1k_3 x1_3 z1k_4 z1_4
          go_wp2_with fail
          go_at_call 52
          refine ((hws _)).mono ?_
          rintro e w3 ⟨rfl, hb3⟩
          replace hB := bt hB hb3
          replace hR := bt hR hb3
          replace x1 := x1.below hb3 x1.lt
          replace x1k := blk5 x1
          replace z1 := z1.below hb3 z1.lt
          replace z1k := blk2 z1
          replace v := v.below hb3 v.lt
          replace vk := blk3 v
          have o2 := own_below hown hR
          have b3 := hb.trans (hR.mono hb.size)
          have l2 := b3.size
          go_wp2_with (at_builtin; refine wpList_append_own _ rfl _ _ 56 rfl V.heap.size 33 i0 (.agg #[.int .u32 0, .int .i64 0, .string (bs [])]) 3 32 Tryz.underlying56 hi hz0 hz1 hz2 rfl (by decide) _ _ _ rfl (o2.alloc _) ⟨w3.heap.size, 0, none⟩ 1 1 [.int .u32 0, .int .i64 0, .string (bs [])] rfl rfl (World.news_of_block (Blk.new w3 33 #[.int .u32 0, .int .i64 0, .string (bs [])])) (by simp [Value.oneCell']) (by unfold maxLen; omega) (by omega) (by simp; omega) ?_; intro v5 w5 h5 gr5 _)
          have b5 := (b3.alloc b3.size (.cells #[.int .u32 0, .int .i64 0, .string (bs [])] 33)).trans (grown_below (o2.alloc (.cells #[.int .u32 0, .int .i64 0, .string (bs [])] 33)) gr5 (by simp; omega))
          go_roundw
          case rel => exact ⟨m + 1, by omega, by go_num, hid (Hok2.out _ Hg.out).1, by rw [← (Hok2.out _ Hg.out).2]; exact h5, b5⟩
          case measure => simp [intOf]; omega
        · obtain ⟨y, hy⟩ : ∃ y : Sn, Sn.of t = y := ⟨_, rfl⟩
          have dz1 : (t == List.replicate 16 0) = false := beq_eq_false_iff_ne.2 hz
          have dz2 : (t != List.replicate 16 0) = true := bne_iff_ne.2 hz
          have hof : Sn.of t = ⟨un (t.take 4), un (cut t 4 2), (toNameR (t.drop 8)).1⟩ := by rw [Sn.of, if_neg hz]
          have hk1 := fun W => rtake_any t (by unfold maxLen; omega) ((4 : Nat) : Int) W
          rw [takeR_in t 4 (by decide) (by decide) (by omega), show ((4 : Nat) : Int) = 4 from rfl] at hk1
          have hk2 := fun W => rtake_any (t.drop 4) (by rw [List.length_drop]; unfold maxLen; omega) ((2 : Nat) : Int) W
          rw [takeR_in (t.drop 4) 2 (by decide) (by decide) (by rw [List.length_drop]; omega), show ((2 : Nat) : Int) = 2 from rfl] at hk2
          have hk3 := fun W => (r3_toName (t.drop 8) (by rw [List.length_drop]; unfold maxLen; omega) W).mono (fun e w' h => (⟨h.1, by rw [← h.2]; exact Below.refl _ _⟩ : _ ∧ Below W.heap.size W w'))
          have hb1 : un (t.take 4) < 4294967296 := by
            have h1 := un_lt (t.take 4)
            rw [List.length_take, show min 4 t.length = 4 by omega] at h1
            exact h1
          have hb2 : un (cut t 4 2) < 65536 := by
            have h1 := un_lt (cut t 4 2)
            rw [show (cut t 4 2).length = 2 from cut_length (by omega)] at h1
            exact h1
          have hb3 : (toNameR (t.drop 8)).1.length ≤ maxLen := by
            have : (toNameR (t.drop 8)).1.length ≤ 8 := by
              unfold toNameR
              split
              · simp
              split
              · rename_i h; exact nameOk_len h
              · simp
            unfold maxLen; omega
          have hws := fun W => r10_snap y (by rw [← hy, hof]; exact hb1) (by rw [← hy, hof]; show okInt ((un (cut t 4 2) : Nat) : Int); unfold okInt; omega) (by rw [← hy, hof]; exact hb3) W
          have HG3 := hid (show Pn.snGet D L m = if y.ok = true ∧ y.bytes = t then (y, 0) else (Sn.zero, 14) by
            rw [HG2.out, Sn.good, hy]
            by_cases h1 : y.ok = true
            · by_cases h2 : y.bytes = t
              · rw [if_pos (by rw [h1, decide_eq_true h2]; rfl), if_pos ⟨h1, h2⟩]
              · rw [if_neg (by rw [decide_eq_false h2]; simp), if_neg (fun h => h2 h.2)]
            · rw [if_neg (by simp [h1]), if_neg (fun h => h1 h.1)])
          have g1 : ¬ t.length < 4 := by omega
          have g2 : ¬ t.length < 8 := by omega
          rw [hof] at hy
          change _ = _ at hy
          simp only [show List.take 2 (List.drop 4 t) = cut t 4 2 from rfl] at hk2
          have e5 : List.drop 4 (List.take 16 t) = t.drop 4 := by rw [List.take_of_length_le (by omega)]
          have e6 : List.drop 8 (List.take 16 t) = t.drop 8 := by rw [List.take_of_length_le (by omega)]
          obtain ⟨id, l1, name⟩ := y
          injection hy with q1 q2 q3
          rw [q3] at hk3
          subst q2
          rw [q1] at hk1 hb1
          have u1 := u32w (x := (id : Int)) ⟨by omega, by omega⟩
          have u2 := i64w (x := ((un (cut t 4 2) : Nat) : Int)) ⟨by omega, by omega⟩
          obtain ⟨l1, hl1⟩ : ∃ l1, un (cut t 4 2) = l1 := ⟨_, rfl⟩
          rw [hl1] at hk2 hws HG3 u2
          generalize toNameR (t.drop 8) = N at *
          generalize t.drop 8 = T8 at *
          generalize t.drop 4 = T4 at *
          clear q1 q3 hl1 hof hz hb1 hb2 hb3 HG2
          generalize List.replicate 16 (0 : UInt8) = Z at hzs dz1 dz2
          cases hk : Sn.ok ⟨id, (l1 : Nat), name⟩ with
          | false =>
            have Hg := hid (show Pn.snGet D L m = (Sn.zero, 14) by rw [HG3.out, if_neg (by rw [hk]; simp)])
            rw [hk] at hws
            clear HG3 hk
            have v := Blk.new w1 33 #[.int .u32 0, .int .i64 0, .string (bs [])]
            have vk := blk3 v
            have vkf := v.frozen
            have hB_1 := hB.alloc hB.size (.cells #[.int .u32 0, .int .i64 0, .string (bs [])] 33)
            have hR_2 := hR.alloc hR.size (.cells #[.int .u32 0, .int .i64 0, .string (bs [])] 33)
            have x1_3 := x1.alloc (.cells #[.int .u32 0, .int .i64 0, .string (bs [])] 33)
            have x1k_3 := blk5 x1_3
            have z1_4 := z1.alloc (.cells #[.int .u32 0, .int .i64 0, .string (bs [])] 33)
            have z1k_4 := blk2 z1_4
            go_wp2_with fail
            go_at_call 62
            refine ((hzs _)).mono ?_
            rintro e w2 ⟨rfl, hb2⟩
            replace hB := bt hB_1 hb2
            replace hR := bt hR_2 hb2
            replace x1 := x1_3.below hb2 x1_3.lt
            replace x1k := blk5 x1
            replace z1 := z1_4.below hb2 z1_4.lt
            replace z1k := blk2 z1
            replace v := v.below hb2 v.lt
            replace vk := blk3 v
            replace vkf := v.frozen
            clear hB_1 hR_2 x1k_3 x1_3 z1k_4 z1_4
            go_wp2_with fail
            go_at_call 61
            refine ((hk1 _)).mono ?_
            rintro e w3 ⟨rfl, hb3⟩
            replace hB := bt hB hb3
            replace hR := bt hR hb3
            replace x1 := x1.below hb3 x1.lt
            replace x1k := blk5 x1
            replace z1 := z1.below hb3 z1.lt
            replace z1k := blk2 z1
            replace v := v.below hb3 v.lt
            replace vk := blk3 v
            replace vkf := v.frozen
            go_wp2_with fail
            go_at_call 61
            refine ((hk2 _)).mono ?_
            rintro e w4 ⟨rfl, hb4⟩
            replace hB := bt hB hb4
            replace hR := bt hR hb4
            replace x1 := x1.below hb4 x1.lt
            replace x1k := blk5 x1
            replace z1 := z1.below hb4 z1.lt
            replace z1k := blk2 z1
            replace v := v.below hb4 v.lt
            replace vk := blk3 v
            replace vkf := v.frozen
            go_wp2_with fail
            go_at_call 63
            refine ((hk3 _)).mono ?_
            rintro e w5 ⟨rfl, hb5⟩
            replace hB := bt hB hb5
            replace hR := bt hR hb5
            replace x1 := x1.below hb5 x1.lt
            replace x1k := blk5 x1
            replace z1 := z1.below hb5 z1.lt
            replace z1k := blk2 z1
            replace v := v.below hb5 v.lt
            replace vk := blk3 v
            replace vkf := v.frozen
            have hB_5 := below_set3 hB (g := w1.heap.size) (by omega) (.int .u32 id) (.int .i64 l1) (.string (bs name))
            have hR_6 := below_set3 hR (g := w1.heap.size) (by omega) (.int .u32 id) (.int .i64 l1) (.string (bs name))
            have x1_7 := blk_off3 x1 (g := w1.heap.size) (by omega) (.int .u32 id) (.int .i64 l1) (.string (bs name))
            have x1k_7 := blk5 x1_7
            have z1_8 := blk_off3 z1 (g := w1.heap.size) (by omega) (.int .u32 id) (.int .i64 l1) (.string (bs name))
            have z1k_8 := blk2 z1_8
            have v_9 := blk_set3 v (.int .u32 id) (.int .i64 l1) (.string (bs name))
            have vk_9 := blk3 v_9
            have vkf_9 := v_9.frozen
            go_wp2_with fail
            go_at_call 52
            refine ((hws _)).mono ?_
            rintro e w6 ⟨⟨b, rfl, hbt⟩, hb6⟩
            replace hB := bt hB_5 hb6
            replace hR := bt hR_6 hb6
            replace x1 := x1_7.below hb6 x1_7.lt
            replace x1k := blk5 x1
            replace z1 := z1_8.below hb6 z1_8.lt
            replace z1k := blk2 z1
            replace v := v_9.below hb6 v_9.lt
            replace vk := blk3 v
            replace vkf := v.frozen
            clear hB_5 hR_6 x1k_7 x1_7 z1k_8 z1_8 vk_9 vkf_9 v_9
            clear hbt
            go_wp2_with fail
            go_ret2
            rw [Hst.out _ _ Hg.out (by decide)]
            have bw := hB
            exact ⟨⟨_, rfl, World.ownsRow_nil _ _ _ _⟩, bw⟩
          | true =>
            rw [hk] at hws
            obtain ⟨T9, hT9⟩ : ∃ T, Sn.bytes ⟨id, (l1 : Nat), name⟩ = T := ⟨_, rfl⟩
            by_cases hq : T9 = t
            · have Hg := hid (show Pn.snGet D L m = (⟨id, (l1 : Nat), name⟩, 0) by rw [HG3.out, if_pos ⟨hk, hT9.trans hq⟩])
              subst hq
              have d2 : (T9 != T9) = false := bne_self_eq_false T9
              have d1 : (T9 == T9) = true := beq_self_eq_true T9
              rw [hT9] at hws
              clear HG3 hk hT9
              have v := Blk.new w1 33 #[.int .u32 0, .int .i64 0, .string (bs [])]
              have vk := blk3 v
              have vkf := v.frozen
              have hB_1 := hB.alloc hB.size (.cells #[.int .u32 0, .int .i64 0, .string (bs [])] 33)
              have hR_2 := hR.alloc hR.size (.cells #[.int .u32 0, .int .i64 0, .string (bs [])] 33)
              have x1_3 := x1.alloc (.cells #[.int .u32 0, .int .i64 0, .string (bs [])] 33)
              have x1k_3 := blk5 x1_3
              have z1_4 := z1.alloc (.cells #[.int .u32 0, .int .i64 0, .string (bs [])] 33)
              have z1k_4 := blk2 z1_4
              go_wp2_with fail
              go_at_call 62
              refine ((hzs _)).mono ?_
              rintro e w2 ⟨rfl, hb2⟩
              replace hB := bt hB_1 hb2
              replace hR := bt hR_2 hb2
              replace x1 := x1_3.below hb2 x1_3.lt
              replace x1k := blk5 x1
              replace z1 := z1_4.below hb2 z1_4.lt
              replace z1k := blk2 z1
              replace v := v.below hb2 v.lt
              replace vk := blk3 v
              replace vkf := v.frozen
              clear hB_1 hR_2 x1k_3 x1_3 z1k_4 z1_4
              go_wp2_with fail
              go_at_call 61
              refine ((hk1 _)).mono ?_
              rintro e w3 ⟨rfl, hb3⟩
              replace hB := bt hB hb3
              replace hR := bt hR hb3
              replace x1 := x1.below hb3 x1.lt
              replace x1k := blk5 x1
              replace z1 := z1.below hb3 z1.lt
              replace z1k := blk2 z1
              replace v := v.below hb3 v.lt
              replace vk := blk3 v
              replace vkf := v.frozen
              go_wp2_with fail
              go_at_call 61
              refine ((hk2 _)).mono ?_
              rintro e w4 ⟨rfl, hb4⟩
              replace hB := bt hB hb4
              replace hR := bt hR hb4
              replace x1 := x1.below hb4 x1.lt
              replace x1k := blk5 x1
              replace z1 := z1.below hb4 z1.lt
              replace z1k := blk2 z1
              replace v := v.below hb4 v.lt
              replace vk := blk3 v
              replace vkf := v.frozen
              go_wp2_with fail
              go_at_call 63
              refine ((hk3 _)).mono ?_
              rintro e w5 ⟨rfl, hb5⟩
              replace hB := bt hB hb5
              replace hR := bt hR hb5
              replace x1 := x1.below hb5 x1.lt
              replace x1k := blk5 x1
              replace z1 := z1.below hb5 z1.lt
              replace z1k := blk2 z1
              replace v := v.below hb5 v.lt
              replace vk := blk3 v
              replace vkf := v.frozen
              have hB_5 := below_set3 hB (g := w1.heap.size) (by omega) (.int .u32 id) (.int .i64 l1) (.string (bs name))
              have hR_6 := below_set3 hR (g := w1.heap.size) (by omega) (.int .u32 id) (.int .i64 l1) (.string (bs name))
              have x1_7 := blk_off3 x1 (g := w1.heap.size) (by omega) (.int .u32 id) (.int .i64 l1) (.string (bs name))
              have x1k_7 := blk5 x1_7
              have z1_8 := blk_off3 z1 (g := w1.heap.size) (by omega) (.int .u32 id) (.int .i64 l1) (.string (bs name))
              have z1k_8 := blk2 z1_8
              have v_9 := blk_set3 v (.int .u32 id) (.int .i64 l1) (.string (bs name))
              have vk_9 := blk3 v_9
              have vkf_9 := v_9.frozen
              go_wp2_with fail
              go_at_call 52
              refine ((hws _)).mono ?_
              rintro e w6 ⟨⟨b, rfl, hbt⟩, hb6⟩
              replace hB := bt hB_5 hb6
              replace hR := bt hR_6 hb6
              replace x1 := x1_7.below hb6 x1_7.lt
              replace x1k := blk5 x1
              replace z1 := z1_8.below hb6 z1_8.lt
              replace z1k := blk2 z1
              replace v := v_9.below hb6 v_9.lt
              replace vk := blk3 v
              replace vkf := v.frozen
              clear hB_5 hR_6 x1k_7 x1_7 z1k_8 z1_8 vk_9 vkf_9 v_9
              obtain rfl : b = T9 := hbt (by first | rfl | trivial)
              clear hbt
              have o2 := own_below hown hR
              have b3 := hb.trans (hR.mono hb.size)
              have l2 := b3.size
              go_wp2_with (at_builtin; refine wpList_append_own _ rfl _ _ 56 rfl V.heap.size 33 i0 (.agg #[.int .u32 0, .int .i64 0, .string (bs [])]) 3 32 Tryz.underlying56 hi hz0 hz1 hz2 rfl (by decide) _ _ _ rfl (o2.alloc _) ⟨w6.heap.size, 0, none⟩ 1 1 [.int .u32 id, .int .i64 l1, .string (bs name)] rfl rfl (World.news_of_block (Blk.new w6 33 #[.int .u32 id, .int .i64 l1, .string (bs name)])) (by simp [Value.oneCell']) (by unfold maxLen; omega) (by omega) (by simp; omega) ?_; intro v5 w5 h5 gr5 _)
              have b5 := (b3.alloc b3.size (.cells #[.int .u32 id, .int .i64 l1, .string (bs name)] 33)).trans (grown_below (o2.alloc (.cells #[.int .u32 id, .int .i64 l1, .string (bs name)] 33)) gr5 (by simp; omega))
              go_roundw
              case rel => exact ⟨m + 1, by omega, by go_num, hid (Hok2.out _ Hg.out).1, by rw [← (Hok2.out _ Hg.out).2]; exact h5, b5⟩
              case measure => simp [intOf]; omega
            · have Hg := hid (show Pn.snGet D L m = (Sn.zero, 14) by rw [HG3.out, if_neg (fun h => hq (hT9.symm.trans h.2))])
              have d2 : (T9 != t) = true := bne_iff_ne.2 hq
              have d1 : (T9 == t) = false := beq_eq_false_iff_ne.2 hq
              rw [hT9] at hws
              clear HG3 hk hT9 hq
              have v := Blk.new w1 33 #[.int .u32 0, .int .i64 0, .string (bs [])]
              have vk := blk3 v
              have vkf := v.frozen
              have hB_1 := hB.alloc hB.size (.cells #[.int .u32 0, .int .i64 0, .string (bs [])] 33)
              have hR_2 := hR.alloc hR.size (.cells #[.int .u32 0, .int .i64 0, .string (bs [])] 33)
              have x1_3 := x1.alloc (.cells #[.int .u32 0, .int .i64 0, .string (bs [])] 33)
              have x1k_3 := blk5 x1_3
              have z1_4 := z1.alloc (.cells #[.int .u32 0, .int .i64 0, .string (bs [])] 33)
              have z1k_4 := blk2 z1_4
              go_wp2_with fail
              go_at_call 62
              refine ((hzs _)).mono ?_
              rintro e w2 ⟨rfl, hb2⟩
              replace hB := bt hB_1 hb2
              replace hR := bt hR_2 hb2
              replace x1 := x1_3.below hb2 x1_3.lt
              replace x1k := blk5 x1
              replace z1 := z1_4.below hb2 z1_4.lt
              replace z1k := blk2 z1
              replace v := v.below hb2 v.lt
              replace vk := blk3 v
              replace vkf := v.frozen
              clear hB_1 hR_2 x1k_3 x1_3 z1k_4 z1_4
              go_wp2_with fail
              go_at_call 61
              refine ((hk1 _)).mono ?_
              rintro e w3 ⟨rfl, hb3⟩
              replace hB := bt hB hb3
              replace hR := bt hR hb3
              replace x1 := x1.below hb3 x1.lt
              replace x1k := blk5 x1
              replace z1 := z1.below hb3 z1.lt
              replace z1k := blk2 z1
              replace v := v.below hb3 v.lt
              replace vk := blk3 v
              replace vkf := v.frozen
              go_wp2_with fail
              go_at_call 61
              refine ((hk2 _)).mono ?_
              rintro e w4 ⟨rfl, hb4⟩
              replace hB := bt hB hb4
              replace hR := bt hR hb4
              replace x1 := x1.below hb4 x1.lt
              replace x1k := blk5 x1
              replace z1 := z1.below hb4 z1.lt
              replace z1k := blk2 z1
              replace v := v.below hb4 v.lt
              replace vk := blk3 v
              replace vkf := v.frozen
              go_wp2_with fail
              go_at_call 63
              refine ((hk3 _)).mono ?_
              rintro e w5 ⟨rfl, hb5⟩
              replace hB := bt hB hb5
              replace hR := bt hR hb5
              replace x1 := x1.below hb5 x1.lt
              replace x1k := blk5 x1
              replace z1 := z1.below hb5 z1.lt
              replace z1k := blk2 z1
              replace v := v.below hb5 v.lt
              replace vk := blk3 v
              replace vkf := v.frozen
              have hB_5 := below_set3 hB (g := w1.heap.size) (by omega) (.int .u32 id) (.int .i64 l1) (.string (bs name))
              have hR_6 := below_set3 hR (g := w1.heap.size) (by omega) (.int .u32 id) (.int .i64 l1) (.string (bs name))
              have x1_7 := blk_off3 x1 (g := w1.heap.size) (by omega) (.int .u32 id) (.int .i64 l1) (.string (bs name))
              have x1k_7 := blk5 x1_7
              have z1_8 := blk_off3 z1 (g := w1.heap.size) (by omega) (.int .u32 id) (.int .i64 l1) (.string (bs name))
              have z1k_8 := blk2 z1_8
              have v_9 := blk_set3 v (.int .u32 id) (.int .i64 l1) (.string (bs name))
              have vk_9 := blk3 v_9
              have vkf_9 := v_9.frozen
              go_wp2_with fail
              go_at_call 52
              refine ((hws _)).mono ?_
              rintro e w6 ⟨⟨b, rfl, hbt⟩, hb6⟩
              replace hB := bt hB_5 hb6
              replace hR := bt hR_6 hb6
              replace x1 := x1_7.below hb6 x1_7.lt
              replace x1k := blk5 x1
              replace z1 := z1_8.below hb6 z1_8.lt
              replace z1k := blk2 z1
              replace v := v_9.below hb6 v_9.lt
              replace vk := blk3 v
              replace vkf := v.frozen
              clear hB_5 hR_6 x1k_7 x1_7 z1k_8 z1_8 vk_9 vkf_9 v_9
              obtain rfl : b = T9 := hbt (by first | rfl | trivial)
              clear hbt
              go_wp2_with fail
              go_ret2
              rw [Hst.out _ _ Hg.out (by decide)]
              have bw := hB
              exact ⟨⟨_, rfl, World.ownsRow_nil _ _ _ _⟩, bw⟩
      · have n1 : (er != 0) = true := bne_iff_ne.2 he
        have Hg := hid (show Pn.snGet D L m = (Sn.zero, er) by rw [HG.out, if_pos he])
        have Hst2 := hid (Hst.out _ _ Hg.out he)
        clear he hfull
        go_wp2_with fail
        go_ret2
        rw [Hst2.out]
        have bw := hB
        exact ⟨⟨_, rfl, World.ownsRow_nil _ _ _ _⟩, bw⟩
    · obtain rfl : m = 8 := by omega
      have Hr := hid (allN_list hok.out)
      clear hok
      go_wp2_with fail
      go_ret2
      rw [Hall.out, Hr.out]
      refine ⟨⟨_, rfl, ?_⟩, hbw⟩
      simp only [List.length_map, List.length_range]
      exact own_base hown hB.size
end Go.Proofs.YtjhnaeomaigimaaGreatDoor
