/- Package ref10: all dirty bitmaps of an image. -/
import Derived.Test.YtjhnaeomaigimaaGreatDoorRoot16
set_option linter.unusedVariables false
namespace Go.Proofs.YtjhnaeomaigimaaGreatDoor
open Go.RowKit Go.Shelf
attribute [local go_sem] bs_mk bs_append bs_extract bs_size bs_toList bs_get
theorem bit_shr (v : UInt8) {s : Nat} (hs : s < 8) : (Go.bits .and .u8 ((v.toNat / 2 ^ s : Nat) : Int) 1 == 1) = v.toNat.testBit s := by
  have hv := v.toNat_lt
  have hq : v.toNat / 2 ^ s ≤ v.toNat := Nat.div_le_self _ _
  rw [show (1 : Int) = ((1 : Nat) : Int) from rfl, u8_and_nat _ _ (by omega) (by omega), nat_mask1, Nat.testBit_eq_decide_div_mod_eq]
  have h2 : v.toNat / 2 ^ s % 2 = 0 ∨ v.toNat / 2 ^ s % 2 = 1 := by omega
  rcases h2 with h | h <;> rw [h] <;> rfl
set_option maxRecDepth 100000 in
set_option maxHeartbeats 2000000 in
theorem r10_maps (D : Dk) (L : Pn) (p q p' q' : Pl) (w : World) (hD : IsDk w D p q) (hL : IsPn w L p' q') (hf : D.fit = true) (hfl : L.Fit) :
    Calls Tryz.prog 20 #[dval D p q, pval L p' q'] w fun e w' => (∃ v, e = .returned (.tuple #[v, .int .i64 (Pn.maps D L).2]) ∧ w'.ownsRow w.heap.size 36 66 v (Pn.maps D L).1.length (dmRows (Pn.maps D L).1)) ∧ Below w.heap.size w w' := by
  have Hall := hid (show Pn.maps D L = allN (Pn.dmGet D L) 2 from rfl)
  have hg := fun (W : World) (hb : Below w.heap.size w W) (k : Int) => r5_look D L p q p' q' W (hD.below hb) (hL.below hb) k ((Dk.fit_parts hf).2.2.1) (by have := hfl.2.1; omega) hfl.1
  have Hfull := hid (fun k => Pn.look_full (k := k) hf hfl)
  obtain ⟨i0, hi, hz0, hz1, hz2⟩ := info_parts Tryz.infoDmap3
  have a36 := Tryz.dm_agg
  have z36 := Tryz.dm_siz
  have zc := Tryz.dm_zeros
  have lz := dm_len (m := Dm.zero) rfl
  clear hD hL hf hfl
  obtain ⟨A1, a1⟩ := p
  obtain ⟨A2, a2⟩ := q
  obtain ⟨B1, b1⟩ := p'
  obtain ⟨B2, b2⟩ := q'
  go_enter Tryz.func20, Tryz.ntmps20
  go_wp2_with fail
  have hB := Below.refl w.heap.size w
  have x := Blk.new w 25 #[.string (bs D.data), .slice A1 D.cache.length a1, .int .i64 D.fuse, .bool D.off, .slice A2 D.bad.length a2]
  have xk := blk5 x
  have hB_1 := hB.alloc hB.size (.cells #[.string (bs D.data), .slice A1 D.cache.length a1, .int .i64 D.fuse, .bool D.off, .slice A2 D.bad.length a2] 25)
  have z := Blk.new (w.alloc (.cells #[.string (bs D.data), .slice A1 D.cache.length a1, .int .i64 D.fuse, .bool D.off, .slice A2 D.bad.length a2] 25)) 28 #[.slice B1 L.targets.length b1, .slice B2 L.data.length b2]
  simp only [World.size_alloc] at z
  have zk := blk2 z
  have hB_2 := hB_1.alloc hB_1.size (.cells #[.slice B1 L.targets.length b1, .slice B2 L.data.length b2] 28)
  have x_3 := x.alloc (.cells #[.slice B1 L.targets.length b1, .slice B2 L.data.length b2] 28)
  have xk_3 := blk5 x_3
  generalize ((w.alloc (.cells #[.string (bs D.data), .slice A1 D.cache.length a1, .int .i64 D.fuse, .bool D.off, .slice A2 D.bad.length a2] 25)).alloc (.cells #[.slice B1 L.targets.length b1, .slice B2 L.data.length b2] 28)) = V at hB_2 x_3 xk_3 z zk ⊢
  clear hB_1 hB x xk
  have hB := hB_2
  have x := x_3
  have xk := xk_3
  clear hB_2 x_3 xk_3
  have vl : w.heap.size + 1 < V.heap.size := z.lt
  go_loopw [6, 7] (fun l x W => ∃ m : Nat, m ≤ 2 ∧ x = .int .i64 m ∧ Hid (∀ i, i < m → (Pn.dmGet D L i).2 = 0) ∧ W.ownsRow V.heap.size 36 66 l m (dmRows ((List.range m).map fun i : Nat => (Pn.dmGet D L i).1)) ∧ Below V.heap.size V W) (fun _ x _ => 2 - (intOf x).toNat)
  case atStart => exact ⟨0, Nat.zero_le _, rfl, hid (fun i hi => by omega), World.ownsRow_nil _ _ _ _, Below.refl _ _⟩
  case round =>
    obtain ⟨m, hm, rfl, hok, hown, hb⟩ := hrel
    have hbw := hB.trans (hb.mono hB.size)
    by_cases hlt : m < 2
    · have hgm := hg wr hbw (4 + m)
      have hfull := Hfull.out (4 + m)
      have hG : Pn.dmGet D L m = if (Pn.look D L (4 + m)).2 ≠ 0 then (Dm.zero, (Pn.look D L (4 + m)).2) else if Dm.good (Pn.look D L (4 + m)).1 = true then (Dm.of (Pn.look D L (4 + m)).1, 0) else (Dm.zero, 14) := rfl
      obtain ⟨S, hS⟩ : ∃ S, Pn.look D L (4 + m) = S := ⟨_, rfl⟩
      obtain ⟨s, er⟩ := S
      rw [hS] at hgm hfull hG
      simp only at hgm hfull hG
      have HG := hid hG
      have Hst := hid (fun S er2 (hg : Pn.dmGet D L m = (S, er2)) (he : er2 ≠ 0) => show Pn.maps D L = ([], er2) by
        rw [Hall.out, allN_stop (f := Pn.dmGet D L) (n := m) (allN_all (fun i hi => hok.out i hi)) (by rw [hg]; exact he) 2 hlt, hg])
      have Hok2 := hid (fun S (hg : Pn.dmGet D L m = (S, 0)) => And.intro (show ∀ i, i < m + 1 → (Pn.dmGet D L i).2 = 0 from fun i hi => by
          rcases Nat.lt_or_eq_of_le (Nat.le_of_lt_succ hi) with h | h
          · exact hok.out i h
          · rw [h, hg]) (show dmRows ((List.range m).map fun i : Nat => (Pn.dmGet D L i).1) ++ dmCells S = dmRows ((List.range (m + 1)).map fun i : Nat => (Pn.dmGet D L i).1) by rw [dmRows_snoc, List.range_succ, List.map_append]; simp [hg]))
      have HB64 := hid (show (Pn.dmGet D L m).1.bits.length = 64 from dmGet_bits D L m)
      obtain ⟨sec, hsec⟩ : ∃ k : Int, (4 : Int) + (m : Int) = k := ⟨_, rfl⟩
      rw [hsec] at hgm
      have hsecb : -1000 ≤ sec ∧ sec ≤ 1000 := by omega
      clear hS hok hg Hfull hG
      have x1 := x.below hb x.lt
      have z1 := z.below hb z.lt
      clear xk zk
      have hB := hbw
      have hR := Below.refl wr.heap.size wr
      have x1k := blk5 x1
      have z1k := blk2 z1
      go_wp2_with fail
      go_at_call 58
      refine ((hgm)).mono ?_
      rintro e w1 ⟨rfl, hb1⟩
      replace hB := bt hB hb1
      replace hR := bt hR hb1
      replace x1 := x1.below hb1 x1.lt
      replace x1k := blk5 x1
      replace z1 := z1.below hb1 z1.lt
      replace z1k := blk2 z1
      have sw1 : wr.heap.size ≤ w1.heap.size := hb1.size
      have swr : w.heap.size + 2 ≤ wr.heap.size := by have := hb.size; omega
      by_cases he : er = 0
      · subst he
        have hs := hfull rfl
        have c1 : ¬ s.length < 8 := by omega
        have HG2 := hid (show Pn.dmGet D L m = if Dm.good s = true then (Dm.of s, 0) else (Dm.zero, 14) by rw [HG.out]; rfl)
        have hzs := fun W => r10_zeros 64 (by decide) W
        rw [show ((64 : Nat) : Int) = 64 from rfl] at hzs
        clear HG hfull
        have v := Blk.new w1 36 (dmCells Dm.zero).toArray
        have vk := Tryz.dm_all Dm.zero rfl v
        have vkf := v.frozen
        have hB_1 := hB.alloc hB.size (.cells (dmCells Dm.zero).toArray 36)
        have hR_2 := hR.alloc hR.size (.cells (dmCells Dm.zero).toArray 36)
        have x1_3 := x1.alloc (.cells (dmCells Dm.zero).toArray 36)
        have x1k_3 := blk5 x1_3
        have z1_4 := z1.alloc (.cells (dmCells Dm.zero).toArray 36)
        have z1k_4 := blk2 z1_4
        have s0 := Tryz.dm_put (a := Dm.zero) Dm.zero rfl rfl v
        have hB_5 := below_setD hB_1 (g := w1.heap.size) (by omega) Dm.zero
        have hR_6 := below_setD hR_2 (g := w1.heap.size) (by omega) Dm.zero
        have x1_7 := blk_offD x1_3 (g := w1.heap.size) (by omega) Dm.zero
        have x1k_7 := blk5 x1_7
        have z1_8 := blk_offD z1_4 (g := w1.heap.size) (by omega) Dm.zero
        have z1k_8 := blk2 z1_8
        have v_9 := blk_setD v Dm.zero rfl rfl
        have vk_9 := Tryz.dm_all Dm.zero rfl v_9
        have vkf_9 := v_9.frozen
        by_cases hz : s = List.replicate 64 0
        · have Hg := hid (show Pn.dmGet D L m = (Dm.zero, 0) by
            have h1 : Dm.of s = Dm.zero := by rw [Dm.of, if_pos hz]
            have h2 : Dm.good s = true := by rw [Dm.good, h1, hz]; decide
            rw [HG2.out, if_pos h2, h1])
          have hws := fun W => r10_dmap_zero W
          rw [← hz] at hws hzs
          have d1 : (s == s) = true := beq_self_eq_true s
          have d2 : (s != s) = false := bne_self_eq_false s
          clear hz HG2
          go_wp2_with (refine wpList_run rfl (dmval Dm.zero) (Tryz.run_dmz rfl _) ?_)
          go_at_call 62
          refine ((hzs _)).mono ?_
          rintro e w2 ⟨rfl, hb2⟩
          replace hB := bt hB_5 hb2
          replace hR := bt hR_6 hb2
          replace x1 := x1_7.below hb2 x1_7.lt
          replace x1k := blk5 x1
          replace z1 := z1_8.below hb2 z1_8.lt
          replace z1k := blk2 z1
          replace v := v_9.below hb2 v_9.lt
          replace vk := Tryz.dm_all Dm.zero rfl v
          replace vkf := v.frozen
          clear hB_1 hR_2 x1k_3 x1_3 z1k_4 z1_4 hB_5 hR_6 x1k_7 x1_7 z1k_8 z1_8 vk_9 vkf_9 v_9
          go_wp2_with fail
          go_at_call 55
          refine ((hws _)).mono ?_
          rintro e w3 ⟨rfl, hb3⟩
          replace hB := bt hB hb3
          replace hR := bt hR hb3
          replace x1 := x1.below hb3 x1.lt
          replace x1k := blk5 x1
          replace z1 := z1.below hb3 z1.lt
          replace z1k := blk2 z1
          replace v := v.below hb3 v.lt
          replace vk := Tryz.dm_all Dm.zero rfl v
          replace vkf := v.frozen
          have o2 := own_below hown hR
          have b3 := hb.trans (hR.mono hb.size)
          have l2 := b3.size
          go_wp2_with (first | (refine wpList_runW rfl _ (Tryz.run_bsd _ rfl Dm.zero rfl rfl _) ?_) | (at_builtin; refine wpList_append_own _ rfl _ _ 53 rfl V.heap.size 36 i0 (dmval Dm.zero) 66 88 Tryz.underlying53 hi hz0 hz1 hz2 rfl (by decide) _ _ _ rfl (o2.alloc _) ⟨w3.heap.size, 0, none⟩ 1 1 (dmCells Dm.zero) rfl (dmCells_length rfl) (World.news_of_block (Blk.new w3 36 (dmCells Dm.zero).toArray)) (one_dm Dm.zero) (by unfold maxLen; omega) (by omega) (by simp; omega) ?_; intro v5 w5 h5 gr5 _))
          have b5 := (b3.alloc b3.size (.cells (dmCells Dm.zero).toArray 36)).trans (grown_below (o2.alloc (.cells (dmCells Dm.zero).toArray 36)) gr5 (by simp; omega))
          go_roundw
          case rel => exact ⟨m + 1, by omega, by go_num, hid (Hok2.out _ Hg.out).1, by rw [← (Hok2.out _ Hg.out).2]; exact h5, b5⟩
          case measure => simp [intOf]; omega
        · have dz1 : (s == List.replicate 64 0) = false := beq_eq_false_iff_ne.2 hz
          have dz2 : (s != List.replicate 64 0) = true := bne_iff_ne.2 hz
          have hof := Dm.of_read hz
          have hM := Dm.read_bits s
          have hMn : (Dm.read s).name.length ≤ maxLen := by have := Dm.read_name s; unfold maxLen; omega
          have cn := fun W => (r3_toName (s.take 8) (by rw [List.length_take]; unfold maxLen; omega) W).mono (fun e w' h => (⟨h.1, by rw [← h.2]; exact Below.refl _ _⟩ : _ ∧ Below W.heap.size W w'))
          have hrd : Dm.read s = ⟨(toNameR (s.take 8)).1, decide (s.getD 8 0 = 1), bitsTo s 64⟩ := by rw [Dm.read, bitsTo_all]
          generalize toNameR (s.take 8) = NE at *
          obtain ⟨nm, en⟩ := NE
          simp only at cn hrd
          have h8 : ((((s[8]'(by omega)).toNat : Nat) : Int) == 1) = decide (s.getD 8 0 = 1) := by
            rw [List.getD_eq_getElem?_getD, List.getElem?_eq_getElem (by omega), Option.getD_some]
            generalize s[8]'(by omega) = c
            by_cases h : c = 1
            · subst h; rfl
            · rw [decide_eq_false h, beq_eq_false_iff_ne]
              intro h2; apply h; apply UInt8.toNat_inj.1; show c.toNat = 1; omega
          generalize decide (s.getD 8 0 = 1) = us at *
          obtain ⟨M, hMe⟩ : ∃ M, Dm.read s = M := ⟨_, rfl⟩
          rw [hMe] at hM hMn hof hrd
          have lM := dm_len hM
          have hws := fun W => r10_dmap M hM hMn W
          have HG3 := hid (show Pn.dmGet D L m = if M.ok = true ∧ M.bytes = s then (M, 0) else (Dm.zero, 14) by
            rw [HG2.out, Dm.good, hof]
            by_cases h1 : M.ok = true
            · by_cases h2 : M.bytes = s
              · rw [if_pos (by rw [h1, decide_eq_true h2]; rfl), if_pos ⟨h1, h2⟩]
              · rw [if_neg (by rw [decide_eq_false h2]; simp), if_neg (fun h => h2 h.2)]
            · rw [if_neg (by simp [h1]), if_neg (fun h => h1 h.1)])
          have Hrd := hid hrd
          have Hbit := hid (fun (n : Nat) (h : n < 64) => show Dm.bitAt s n = ((s[16 + n / 8]'(by omega)).toNat).testBit (n % 8) by rw [Dm.bitAt, List.getD_eq_getElem?_getD, List.getElem?_eq_getElem (by omega)]; rfl)
          generalize List.replicate 64 (0 : UInt8) = Z at hzs dz1 dz2
          clear hof hMe hz HG2 hrd HB64
          go_wp2_with (refine wpList_run rfl (dmval Dm.zero) (Tryz.run_dmz rfl _) ?_)
          go_at_call 62
          refine ((hzs _)).mono ?_
          rintro e w2 ⟨rfl, hb2⟩
          replace hB := bt hB_5 hb2
          replace hR := bt hR_6 hb2
          replace x1 := x1_7.below hb2 x1_7.lt
          replace x1k := blk5 x1
          replace z1 := z1_8.below hb2 z1_8.lt
          replace z1k := blk2 z1
          replace v := v_9.below hb2 v_9.lt
          replace vk := Tryz.dm_all Dm.zero rfl v
          replace vkf := v.frozen
          clear hB_1 hR_2 x1k_3 x1_3 z1k_4 z1_4 hB_5 hR_6 x1k_7 x1_7 z1k_8 z1_8 vk_9 vkf_9 v_9
          go_wp2_with fail
          go_at_call 63
          refine ((cn _)).mono ?_
          rintro e w3 ⟨rfl, hb3⟩
          replace hB := bt hB hb3
          replace hR := bt hR hb3
          replace x1 := x1.below hb3 x1.lt
          replace x1k := blk5 x1
          replace z1 := z1.below hb3 z1.lt
          replace z1k := blk2 z1
          replace v := v.below hb3 v.lt
          replace vk := Tryz.dm_all Dm.zero rfl v
          replace vkf := v.frozen
          have hlb : w1.heap.size < w3.heap.size := v.lt
          go_wp2_with fail
          obtain ⟨wo, hwo⟩ : ∃ x, x = wr := ⟨_, rfl⟩
          subst hwo
          obtain ⟨g, hg⟩ : ∃ x, w1.heap.size = x := ⟨_, rfl⟩
          have v1 := blk_duse (blk_dname v nm) us
          have hR1 := ((hR).setCell (p := ⟨w1.heap.size, 0, none⟩) sw1 (.string (bs nm))).setCell (p := ⟨w1.heap.size, 1, none⟩) sw1 (.bool us)
          simp only [hg] at v1 hR1 sw1 ⊢
          clear v vk hB hR x1 z1 x1k z1k
          go_loopw [11] (fun k W => ∃ n : Nat, n ≤ 64 ∧ k = .int .i64 n ∧ Blk W g 36 (dmCells ⟨nm, us, bitsTo s n⟩).toArray ∧ Below wo.heap.size wo W) (fun k _ => 64 - (intOf k).toNat)
          case atStart => exact ⟨0, Nat.zero_le _, rfl, v1, hR1⟩
          case round =>
            clear v1 hR1
            obtain ⟨n, hn, rfl, v, hR⟩ := hrel
            by_cases hn64 : n < 64
            · obtain ⟨j, hj⟩ : ∃ j : Nat, 16 + n / 8 = j := ⟨_, rfl⟩
              obtain ⟨q, hq⟩ : ∃ q : Nat, n % 8 = q := ⟨_, rfl⟩
              have hb9 := Hbit.out n hn64
              have hj64 : j < s.length := by omega
              have hj65 : ((j : Nat) : Int) < 64 := by omega
              have hq8 : q < 8 := by omega
              have hq8' : ((q : Nat) : Int) ≤ 8 := by omega
              have e1 : (16 : Int) + (n : Int) / 8 = (j : Int) := by omega
              have e2 : (n : Int) % 8 = (q : Int) := by omega
              have hlen := bitsTo_length s (n := n) (by omega)
              obtain ⟨o, c0⟩ : ∃ o, wr.cell? ⟨g, 2 + n, none⟩ = some (.bool o) := ⟨_, v.bit n (by show n < (bitsTo s n).length; omega)⟩
              have f0 := v.frozen (2 + n)
              have v1 := blk_bit v n (Dm.bitAt s n)
              rw [bitsTo_set s hn64] at v1
              have hR1 := hR.setCell (p := ⟨g, 2 + n, none⟩) sw1 (.bool (Dm.bitAt s n))
              have e4 := bit_shr (s[j]'hj64) hq8
              have e3 : ((s[j]'hj64).toNat : Int) / (2 : Int) ^ q = (((s[j]'hj64).toNat / 2 ^ q : Nat) : Int) := by simp
              rw [show (s[j]'hj64).toNat.testBit q = Dm.bitAt s n by rw [hb9]; subst hj hq; rfl] at e4
              generalize (s[j]'hj64).toNat / 2 ^ q = p9 at *
              generalize Dm.bitAt s n = b at *
              have V1 := hid v1
              clear hj hq hb9 v v1 Hbit hlen hn
              go_wp2_with fail
              go_roundw
              case rel => exact ⟨n + 1, by omega, by go_num, V1.out, hR1⟩
              case measure => simp [intOf]; omega
            · obtain rfl : n = 64 := by omega
              rw [← Hrd.out] at v
              clear Hrd Hbit
              cases hk : M.ok with
              | false =>
                have Hg := hid (show Pn.dmGet D L m = (Dm.zero, 14) by rw [HG3.out, if_neg (by rw [hk]; simp)])
                rw [hk] at hws
                clear HG3 hk
                have vk := Tryz.dm_all M hM v
                go_wp2_with fail
                go_at_call 55
                refine ((hws _)).mono ?_
                rintro e w6 ⟨⟨b, rfl, hbt⟩, hb6⟩
                replace hR := bt hR hb6
                replace v := v.below hb6 v.lt
                replace vk := Tryz.dm_all M hM v
                clear hbt
                go_wp2_with fail
                go_ret2
                rw [Hst.out _ _ Hg.out (by decide)]
                exact ⟨⟨_, rfl, World.ownsRow_nil _ _ _ _⟩, bt hbw hR⟩
              | true =>
                rw [hk] at hws
                obtain ⟨T9, hT9⟩ : ∃ T, M.bytes = T := ⟨_, rfl⟩
                by_cases hq : T9 = s
                · have Hg := hid (show Pn.dmGet D L m = (M, 0) by rw [HG3.out, if_pos ⟨hk, hT9.trans hq⟩])
                  subst hq
                  have d2 : (T9 != T9) = false := bne_self_eq_false T9
                  have d1 : (T9 == T9) = true := beq_self_eq_true T9
                  rw [hT9] at hws
                  clear HG3 hk hT9
                  have vk := Tryz.dm_all M hM v
                  go_wp2_with fail
                  go_at_call 55
                  refine ((hws _)).mono ?_
                  rintro e w6 ⟨⟨b, rfl, hbt⟩, hb6⟩
                  replace hR := bt hR hb6
                  replace v := v.below hb6 v.lt
                  replace vk := Tryz.dm_all M hM v
                  obtain rfl : b = T9 := hbt (by first | rfl | trivial)
                  clear hbt
                  have o2 := own_below hown hR
                  have b3 := hb.trans (hR.mono hb.size)
                  have l2 := b3.size
                  go_wp2_with (first | (refine wpList_runW rfl _ (Tryz.run_bsd _ rfl M hM rfl _) ?_) | (at_builtin; refine wpList_append_own _ rfl _ _ 53 rfl V.heap.size 36 i0 (dmval Dm.zero) 66 88 Tryz.underlying53 hi hz0 hz1 hz2 rfl (by decide) _ _ _ rfl (o2.alloc _) ⟨w6.heap.size, 0, none⟩ 1 1 (dmCells M) rfl (dmCells_length hM) (World.news_of_block (Blk.new w6 36 (dmCells M).toArray)) (one_dm M) (by unfold maxLen; omega) (by omega) (by simp; omega) ?_; intro v5 w5 h5 gr5 _))
                  have b5 := (b3.alloc b3.size (.cells (dmCells M).toArray 36)).trans (grown_below (o2.alloc (.cells (dmCells M).toArray 36)) gr5 (by simp; omega))
                  go_roundw
                  case rel => exact ⟨m + 1, by omega, by go_num, hid (Hok2.out _ Hg.out).1, by rw [← (Hok2.out _ Hg.out).2]; exact h5, b5⟩
                  case measure => simp [intOf]; omega
                · have Hg := hid (show Pn.dmGet D L m = (Dm.zero, 14) by rw [HG3.out, if_neg (fun h => hq (hT9.symm.trans h.2))])
                  have d2 : (T9 != s) = true := bne_iff_ne.2 hq
                  have d1 : (T9 == s) = false := beq_eq_false_iff_ne.2 hq
                  rw [hT9] at hws
                  clear HG3 hk hT9 hq
                  have vk := Tryz.dm_all M hM v
                  go_wp2_with fail
                  go_at_call 55
                  refine ((hws _)).mono ?_
                  rintro e w6 ⟨⟨b, rfl, hbt⟩, hb6⟩
                  replace hR := bt hR hb6
                  replace v := v.below hb6 v.lt
                  replace vk := Tryz.dm_all M hM v
                  obtain rfl : b = T9 := hbt (by first | rfl | trivial)
                  clear hbt
                  go_wp2_with fail
                  go_ret2
                  rw [Hst.out _ _ Hg.out (by decide)]
                  exact ⟨⟨_, rfl, World.ownsRow_nil _ _ _ _⟩, bt hbw hR⟩
      · have n1 : (er != 0) = true := bne_iff_ne.2 he
        have Hg := hid (show Pn.dmGet D L m = (Dm.zero, er) by rw [HG.out, if_pos he])
        have Hst2 := hid (Hst.out _ _ Hg.out he)
        clear he hfull
        go_wp2_with fail
        go_ret2
        rw [Hst2.out]
        have bw := hB
        exact ⟨⟨_, rfl, World.ownsRow_nil _ _ _ _⟩, bw⟩
    · obtain rfl : m = 2 := by omega
      have Hr := hid (allN_list hok.out)
      clear hok
      go_wp2_with fail
      go_ret2
      rw [Hall.out, Hr.out]
      refine ⟨⟨_, rfl, ?_⟩, hbw⟩
      simp only [List.length_map, List.length_range]
      exact own_base hown hB.size
end Go.Proofs.YtjhnaeomaigimaaGreatDoor
