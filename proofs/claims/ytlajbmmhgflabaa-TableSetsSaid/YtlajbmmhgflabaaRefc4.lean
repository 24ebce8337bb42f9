/- The document's ref08: all counts. -/
import Derived.Test.YtlajbmmhgflabaaRefc3
set_option linter.unusedVariables false
namespace Go.Proofs.Ytlajbmmhgflabaa
open Go.RowKit Go.Shelf
attribute [local go_sem] bs_mk bs_append bs_extract bs_size bs_toList bs_get

theorem r8_all_out (D : Dk) (L : Pn) (p q p' q' : Pl) (w : World) (n : Int) (h : n < 0 ∨ 256 < n) :
    Calls Try.prog 21 #[dval D p q, pval L p' q', .int .i64 n] w fun e w' => (∃ v, e = .returned (.tuple #[v, .int .i64 (Pn.cntAll D L n).2]) ∧ w'.ownsRow w.heap.size 3 1 v (Pn.cntAll D L n).1.length (intCells (Pn.cntAll D L n).1)) ∧ Below w.heap.size w w' := by
  have Hw := hid (show Pn.cntAll D L n = ([], 10) by rw [Pn.cntAll, if_pos h])
  obtain ⟨A1, a1⟩ := p
  obtain ⟨A2, a2⟩ := q
  obtain ⟨B1, b1⟩ := p'
  obtain ⟨B2, b2⟩ := q'
  have hB := Below.refl w.heap.size w
  have x := Blk.new w 25 #[.string (bs D.data), .slice A1 D.cache.length a1, .int .i64 D.fuse, .bool D.off, .slice A2 D.bad.length a2]
  have xk := blk5 x
  have hB_1 := hB.alloc hB.size (.cells #[.string (bs D.data), .slice A1 D.cache.length a1, .int .i64 D.fuse, .bool D.off, .slice A2 D.bad.length a2] 25)
  have z := Blk.new (w.alloc (.cells #[.string (bs D.data), .slice A1 D.cache.length a1, .int .i64 D.fuse, .bool D.off, .slice A2 D.bad.length a2] 25)) 28 #[.slice B1 L.targets.length b1, .slice B2 L.data.length b2]
  simp only [World.size_alloc] at z
  have zk := blk2 z
  have hB_2 := hB_1.alloc hB_1.size (.cells #[.slice B1 L.targets.length b1, .slice B2 L.data.length b2] 28)
  have x_3 := x.alloc (.cells #[.slice B1 L.targets.length b1, .slice B2 L.data.length b2] 28)
  have xk_3 := blk5 x_3
  by_cases h0 : n < 0
  · go_enter Try.func21, Try.ntmps21
    go_wp2_with fail
    go_ret2
    rw [Hw.out]
    exact ⟨⟨_, rfl, World.ownsRow_nil _ _ _ _⟩, hB_2⟩
  · have h1 : 256 < n := by omega
    clear h
    go_enter Try.func21, Try.ntmps21
    go_wp2_with fail
    go_ret2
    rw [Hw.out]
    exact ⟨⟨_, rfl, World.ownsRow_nil _ _ _ _⟩, hB_2⟩
set_option maxRecDepth 100000 in
set_option maxHeartbeats 1000000 in
theorem r8_all_in (D : Dk) (L : Pn) (p q p' q' : Pl) (w : World) (hD : IsDk w D p q) (hL : IsPn w L p' q') (hf : D.fit = true) (hfl : L.Fit) (N : Nat) (hN : N ≤ 256) :
    Calls Try.prog 21 #[dval D p q, pval L p' q', .int .i64 N] w fun e w' => (∃ v, e = .returned (.tuple #[v, .int .i64 (Pn.cntAll D L N).2]) ∧ w'.ownsRow w.heap.size 3 1 v (Pn.cntAll D L N).1.length (intCells (Pn.cntAll D L N).1)) ∧ Below w.heap.size w w' := by
  have Hall := hid (show Pn.cntAll D L N = allN (fun i : Nat => Pn.cntGet D L i) N by rw [Pn.cntAll, if_neg (by omega), Int.toNat_natCast])
  have hg := fun (W : World) (hb : Below w.heap.size w W) (k : Nat) => r8_get D L p q p' q' W (hD.below hb) (hL.below hb) hf hfl k
  obtain ⟨i0, hi, hz0, hz1, hz2⟩ := info_parts Try.infoIntP
  clear hD hL
  obtain ⟨A1, a1⟩ := p
  obtain ⟨A2, a2⟩ := q
  obtain ⟨B1, b1⟩ := p'
  obtain ⟨B2, b2⟩ := q'
  go_enter Try.func21, Try.ntmps21
  go_wp2_with fail
  have hB := Below.refl w.heap.size w
  have x := Blk.new w 25 #[.string (bs D.data), .slice A1 D.cache.length a1, .int .i64 D.fuse, .bool D.off, .slice A2 D.bad.length a2]
  have xk := blk5 x
  have hB_1 := hB.alloc hB.size (.cells #[.string (bs D.data), .slice A1 D.cache.length a1, .int .i64 D.fuse, .bool D.off, .slice A2 D.bad.length a2] 25)
  have z := Blk.new (w.alloc (.cells #[.string (bs D.data), .slice A1 D.cache.length a1, .int .i64 D.fuse, .bool D.off, .slice A2 D.bad.length a2] 25)) 28 #[.slice B1 L.targets.length b1, .slice B2 L.data.length b2]
  simp only [World.size_alloc] at z
  have zk := blk2 z
  have hB_2 := hB_1.alloc hB_1.size (.cells #[.slice B1 L.targets.length b1, .slice B2 L.data.length b2] 28)
  have x_3 := x.alloc (.cells #[.slice B1 L.targets.length b1, .slice B2 L.data.length b2] 28)
  have xk_3 := blk5 x_3
  generalize ((w.alloc (.cells #[.string (bs D.data), .slice A1 D.cache.length a1, .int .i64 D.fuse, .bool D.off, .slice A2 D.bad.length a2] 25)).alloc (.cells #[.slice B1 L.targets.length b1, .slice B2 L.data.length b2] 28)) = V at hB_2 x_3 xk_3 z zk ⊢
  clear hB_1 hB x xk
  have hB := hB_2
  have x := x_3
  have xk := xk_3
  clear hB_2 x_3 xk_3
  have vl : w.heap.size + 1 < V.heap.size := z.lt
  go_loopw [8, 9] (fun l x W => ∃ m : Nat, m ≤ N ∧ x = .int .i64 m ∧ Hid (∀ i, i < m → (Pn.cntGet D L (i : Nat)).2 = 0) ∧ W.ownsRow V.heap.size 3 1 l m (intCells ((List.range m).map fun i : Nat => (Pn.cntGet D L i).1)) ∧ Below V.heap.size V W) (fun _ x _ => N - (intOf x).toNat)
  case atStart => exact ⟨0, Nat.zero_le _, rfl, hid (fun i hi => by omega), World.ownsRow_nil _ _ _ _, Below.refl _ _⟩
  case round =>
    obtain ⟨m, hm, rfl, hok, hown, hb⟩ := hrel
    have hbw := hB.trans (hb.mono hB.size)
    by_cases hlt : m < N
    · have hgm := hg wr hbw m
      have xk := blk5 (x.below hb x.lt)
      have zk := blk2 (z.below hb z.lt)
      obtain ⟨⟨c, er⟩, hx⟩ : ∃ x, Pn.cntGet D L (m : Nat) = x := ⟨_, rfl⟩
      rw [hx] at hgm
      have Hmap := hid (show intCells ((List.range m).map fun i : Nat => (Pn.cntGet D L i).1) ++ [Value.int .i64 c] = intCells ((List.range (m + 1)).map fun i : Nat => (Pn.cntGet D L i).1) by simp [intCells, hx, List.range_succ])
      have Hst := hid (fun (he : er ≠ 0) => show Pn.cntAll D L N = ([], er) by
        rw [Hall.out, allN_stop (f := fun i : Nat => Pn.cntGet D L i) (n := m) (allN_all (fun i hi => hok.out i hi)) (by rw [hx]; exact he) N hlt, hx])
      have Hok := hid (fun (he : er = 0) (i : Nat) (hi : i < m + 1) => show (Pn.cntGet D L (i : Nat)).2 = 0 by
        rcases Nat.lt_or_eq_of_le (Nat.le_of_lt_succ hi) with h | h
        · exact hok.out i h
        · rw [h, hx]; exact he)
      clear hx hok hg
      by_cases he : er = 0
      · subst he
        go_wp2_with (first | (go_at_call 18; refine hgm.mono ?_; rintro e w2 ⟨rfl, hb2⟩; have o2 := own_below hown hb2; have b2 := hb.trans (hb2.mono hb.size); have l2 := b2.size) | (at_builtin; refine wpList_append_own _ rfl _ _ 23 rfl V.heap.size 3 i0 (.int .i64 0) 1 8 Try.underlying23 hi hz0 hz1 hz2 rfl (by decide) _ _ _ rfl (o2.alloc _) ⟨w2.heap.size, 0, none⟩ 1 1 [.int .i64 c] rfl rfl (World.news_of_block (Blk.new w2 3 #[.int .i64 c])) (by simp [Value.oneCell']) (by unfold maxLen; omega) (by omega) (by simp; omega) ?_; intro v5 w5 h5 gr5 _))
        have b5 := (b2.alloc l2 (.cells #[.int .i64 c] 3)).trans (grown_below (o2.alloc (.cells #[.int .i64 c] 3)) gr5 (by simp; omega))
        go_roundw
        case rel => exact ⟨m + 1, by omega, by go_num, hid (by first | exact Hok.out rfl | exact Hok.out trivial), by rw [← Hmap.out]; exact h5, b5⟩
        case measure => simp [intOf]; omega
      · have n1 : (er != 0) = true := by simpa using he
        have Hst2 := hid (Hst.out he)
        clear he
        go_wp2_with (go_at_call 18; refine hgm.mono ?_; rintro e w2 ⟨rfl, hb2⟩)
        go_ret2
        rw [Hst2.out]
        exact ⟨⟨_, rfl, World.ownsRow_nil _ _ _ _⟩, bt hbw hb2⟩
    · obtain rfl : m = N := by omega
      have Hr := hid (allN_list hok.out)
      clear hok
      go_wp2_with fail
      go_ret2
      rw [Hall.out, Hr.out]
      refine ⟨⟨_, rfl, ?_⟩, hbw⟩
      simp only [List.length_map, List.length_range]
      exact own_base hown hB.size
theorem r8_all (D : Dk) (L : Pn) (p q p' q' : Pl) (w : World) (hD : IsDk w D p q) (hL : IsPn w L p' q') (hf : D.fit = true) (hfl : L.Fit) (n : Int) :
    Calls Try.prog 21 #[dval D p q, pval L p' q', .int .i64 n] w fun e w' => (∃ v, e = .returned (.tuple #[v, .int .i64 (Pn.cntAll D L n).2]) ∧ w'.ownsRow w.heap.size 3 1 v (Pn.cntAll D L n).1.length (intCells (Pn.cntAll D L n).1)) ∧ Below w.heap.size w w' := by
  by_cases h : n < 0 ∨ 256 < n
  · exact r8_all_out D L p q p' q' w n h
  · obtain ⟨n, rfl⟩ := Int.eq_ofNat_of_zero_le (show 0 ≤ n by omega)
    exact r8_all_in D L p q p' q' w hD hL hf hfl n (by omega)
end Go.Proofs.Ytlajbmmhgflabaa
