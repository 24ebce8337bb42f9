/- Package plan: plans with a sector more; a sector's bytes laid over. -/
import Derived.Test.YtjhnaeomaigimaaGreatDoorPlan7
import Derived.Test.YtjhnaeomaigimaaGreatDoorPlan4
import Derived.Test.YtjhnaeomaigimaaGreatDoorPackOver
import Derived.Test.YtjhnaeomaigimaaGreatDoorRegs
set_option linter.unusedVariables false
namespace Go.Proofs.YtjhnaeomaigimaaGreatDoor
open Go.RowKit Go.Shelf
attribute [local go_sem] bs_mk bs_append bs_extract bs_size bs_toList bs_get
theorem pl_set (L : Pn) (p q : Pl) (w : World) (hL : IsPn w L p q) (k : Int) (hk : -9223372036854775808 ≤ k ∧ k ≤ 9223372036854775807) (s : List UInt8) (hs : s.length ≤ 9223372036854775807) (ht : L.targets.length ≤ 1000000) (he : L.targets.length = L.data.length) :
    Calls Tryz.prog 44 #[pval L p q, .int .i64 k, .string (bs s)] w fun e w' => RetPn w.heap.size L p q (L.set k s) e w' ∧ Below w.heap.size w w' := by
  cases h1 : sectorOk k with
  | false => exact pl_set_outside L p q w hL k s h1
  | true =>
    by_cases h2 : s.length = 64
    · by_cases hm : k ∈ L.targets
      · exact pl_set_old L p q w hL k s h1 h2 ht (by omega) he (.inl hm)
      · by_cases hf : 24 ≤ L.targets.length
        · exact pl_set_old L p q w hL k s h1 h2 ht (by omega) he (.inr hf)
        · exact pl_set_new L p q w hL k s h1 h2 ht (by omega) he hk hm hf
    · exact pl_set_size L p q w hL k s hs h1 h2
/-! ### What is known of a sector as it will be -/
theorem Dk.seesIn_len {l : List (Int × List UInt8)} (h : ∀ i (h : i < l.length), l[i].2.length = 64) (k : Int) {s : List UInt8} (hs : Dk.seesIn l k = some s) : s.length = 64 := by
  induction l with
  | nil => simp [Dk.seesIn] at hs
  | cons x l ih =>
    have h0 := h 0 (by simp)
    have ih' := ih (fun i hi => by have := h (i + 1) (by simpa using hi); simpa using this)
    rw [Dk.seesIn] at hs
    split at hs
    · rename_i s' e
      injection hs with hs
      subst hs
      exact ih' e
    · split at hs
      · injection hs with hs
        subst hs
        exact h0
      · cases hs
theorem Dk.read_len {D : Dk} (hD : D.fit = true) (k : Int) : (D.read k).1.length ≤ 64 := by
  have hc := (Dk.fit_parts hD).2.2.2.2.1
  rw [Dk.read]
  split
  · simp
  · split
    · simp
    · split
      · simp
      · show (D.sees k).length ≤ 64
        rw [Dk.sees]
        cases h : Dk.seesIn D.cache k with
        | some s => rw [Option.getD_some, Dk.seesIn_len (fun i hi => (hc i hi).2.2) k h]; omega
        | none =>
          rw [Option.getD_none, Dk.sector, List.length_drop, List.length_take]
          omega
theorem look_len {D : Dk} {L : Pn} (hD : D.fit = true) (hL : L.Fit) (k : Int) : (Pn.look D L k).1.length ≤ 64 := by
  rw [Pn.look]
  split
  · rename_i hm
    obtain ⟨i, hi, _, _, h⟩ := Pn.find_in hm
    have h0 : i < L.data.length := by rw [← hL.1]; exact hi
    rw [h, List.getD_eq_getElem?_getD, List.getElem?_eq_getElem h0]
    simp [hL.2.2.2 i h0]
  · exact Dk.read_len hD k
set_option maxRecDepth 100000 in
theorem pl_patch (D : Dk) (L : Pn) (p q p' q' : Pl) (w : World) (hD : IsDk w D p q) (hL : IsPn w L p' q') (hf : D.fit = true) (hfl : L.Fit) (k o : Int) (hk : -9223372036854775808 ≤ k ∧ k ≤ 9223372036854775807) (s : List UInt8) (hs : s.length ≤ 9223372036854775807) :
    Calls Tryz.prog 51 #[dval D p q, pval L p' q', .int .i64 k, .int .i64 o, .string (bs s)] w fun e w' => RetPn w.heap.size L p' q' (Pn.patch D L k o s) e w' ∧ Below w.heap.size w w' := by
  have hlk := fun (W : World) (hb : Below w.heap.size w W) => pl_look D L p q p' q' W (hD.below hb) (hL.below hb) k ((Dk.fit_parts hf).2.2.1) (by have := hfl.2.1; omega) hfl.1
  have hst := fun (W : World) (hb : Below w.heap.size w W) (s : List UInt8) (hs : s.length ≤ 9223372036854775807) => pl_set L p' q' W (hL.below hb) k hk s hs (by have := hfl.2.1; omega) hfl.1
  have Hap := hid (fun g (hg : w.heap.size ≤ g) => hL.apart hg)
  obtain ⟨b, er, hb⟩ : ∃ b er, Pn.look D L k = (b, er) := ⟨_, _, rfl⟩
  have hbl : b.length ≤ 64 := by have := look_len hf hfl k; rw [hb] at this; exact this
  obtain ⟨c, f, hc⟩ : ∃ c f, Pn.laidOver b o s = (c, f) := ⟨_, _, rfl⟩
  have hcl : f = 0 → c.length ≤ 9223372036854775807 := by
    intro h0
    rw [Pn.laidOver] at hc
    split at hc
    · injection hc with h1 h2; omega
    · injection hc with h1 h2
      rw [← h1, over_length _ _ _ (by omega)]
      omega
  have hov := fun (W : World) => pk_over b s o W (by omega) hs
  rw [hc] at hov
  simp only [hb] at hlk
  have Hp := hid (show Pn.patch D L k o s = if er ≠ 0 then (L, er) else if f ≠ 0 then (L, f) else L.set k c by rw [Pn.patch, hb, hc])
  have Hz := hid (fun (W : World) (hb : Below w.heap.size w W) => hL.below hb)
  clear hb hc hD hL hf hfl
  obtain ⟨A1, c1⟩ := p
  obtain ⟨A2, c2⟩ := q
  obtain ⟨B1, d1⟩ := p'
  obtain ⟨B2, d2⟩ := q'
  have b0 := Below.refl w.heap.size w
  have x := Blk.new w 25 #[.string (bs D.data), .slice A1 D.cache.length c1, .int .i64 D.fuse, .bool D.off, .slice A2 D.bad.length c2]
  have xk := blk5 x
  have b0_1 := b0.alloc b0.size (.cells #[.string (bs D.data), .slice A1 D.cache.length c1, .int .i64 D.fuse, .bool D.off, .slice A2 D.bad.length c2] 25)
  have z := Blk.new (w.alloc (.cells #[.string (bs D.data), .slice A1 D.cache.length c1, .int .i64 D.fuse, .bool D.off, .slice A2 D.bad.length c2] 25)) 28 #[.slice B1 L.targets.length d1, .slice B2 L.data.length d2]
  simp only [World.size_alloc] at z
  have zk := blk2 z
  have b0_2 := b0_1.alloc b0_1.size (.cells #[.slice B1 L.targets.length d1, .slice B2 L.data.length d2] 28)
  have x_3 := x.alloc (.cells #[.slice B1 L.targets.length d1, .slice B2 L.data.length d2] 28)
  have xk_3 := blk5 x_3
  have r := Blk.new ((w.alloc (.cells #[.string (bs D.data), .slice A1 D.cache.length c1, .int .i64 D.fuse, .bool D.off, .slice A2 D.bad.length c2] 25)).alloc (.cells #[.slice B1 L.targets.length d1, .slice B2 L.data.length d2] 28)) 28 #[.slice none 0 0, .slice none 0 0]
  simp only [World.size_alloc] at r
  have rk := blk2 r
  have rkf := r.frozen
  have b0_4 := b0_2.alloc b0_2.size (.cells #[.slice none 0 0, .slice none 0 0] 28)
  have x_5 := x_3.alloc (.cells #[.slice none 0 0, .slice none 0 0] 28)
  have xk_5 := blk5 x_5
  have z_6 := z.alloc (.cells #[.slice none 0 0, .slice none 0 0] 28)
  have zk_6 := blk2 z_6
  go_enter Tryz.func51, Tryz.ntmps51
  go_wp2_with fail
  go_at_call 64
  refine ((hlk _ b0_4)).mono ?_
  rintro e w1 ⟨rfl, hb1⟩
  replace b0 := bt b0_4 hb1
  replace x := x_5.below hb1 x_5.lt
  replace xk := blk5 x
  replace z := z_6.below hb1 z_6.lt
  replace zk := blk2 z
  replace r := r.below hb1 r.lt
  replace rk := blk2 r
  replace rkf := r.frozen
  clear b0_1 b0_2 xk_3 x_3 b0_4 xk_5 x_5 zk_6 z_6
  have w1l := b0.size
  have lt2 := r.lt
  by_cases h1 : er = 0
  case neg =>
    have n1 : (er != 0) = true := by simpa using h1
    have Hr := hid (show Pn.patch D L k o s = (L, er) by rw [Hp.out, if_pos h1])
    clear h1
    go_wp2_with fail
    rw [Hr.out]
    have yy := blk2 (blk_set2 r (.slice B1 L.targets.length d1) (.slice B2 L.data.length d2))
    have b9 := below_set2 b0 (g := w.heap.size + 1 + 1) (by omega) (.slice B1 L.targets.length d1) (.slice B2 L.data.length d2)
    refine bodyPost_ret (v := .tuple #[pval L ⟨B1, d1⟩ ⟨B2, d2⟩, .int .i64 er]) (by simp [results, Tryz.results51, go_sem, yy]) rfl ?_
    exact ⟨⟨_, _, rfl, Hz.out _ b9, fun _ _ h => h⟩, b9⟩
  subst h1
  go_wp2_with fail
  go_at_call 104
  refine ((hov _)).mono ?_
  rintro e w2 ⟨rfl, hb2⟩
  replace b0 := bt b0 hb2
  replace x := x.below hb2 x.lt
  replace xk := blk5 x
  replace z := z.below hb2 z.lt
  replace zk := blk2 z
  replace r := r.below hb2 r.lt
  replace rk := blk2 r
  replace rkf := r.frozen
  have w2l := b0.size
  have lt3 := r.lt
  by_cases h2 : f = 0
  case neg =>
    have n1 : (f != 0) = true := by simpa using h2
    have Hr := hid (show Pn.patch D L k o s = (L, f) by rw [Hp.out, if_neg (by simp), if_pos h2])
    clear h2
    go_wp2_with fail
    rw [Hr.out]
    have yy := blk2 (blk_set2 r (.slice B1 L.targets.length d1) (.slice B2 L.data.length d2))
    have b9 := below_set2 b0 (g := w.heap.size + 1 + 1) (by omega) (.slice B1 L.targets.length d1) (.slice B2 L.data.length d2)
    refine bodyPost_ret (v := .tuple #[pval L ⟨B1, d1⟩ ⟨B2, d2⟩, .int .i64 f]) (by simp [results, Tryz.results51, go_sem, yy]) rfl ?_
    exact ⟨⟨_, _, rfl, Hz.out _ b9, fun _ _ h => h⟩, b9⟩
  subst h2
  have hcl' := hcl rfl
  have Hr := hid (show Pn.patch D L k o s = L.set k c by rw [Hp.out, if_neg (by simp), if_neg (by simp)])
  clear hcl
  go_wp2_with fail
  go_at_call 44
  refine ((hst _ b0 c hcl')).mono ?_
  rintro e w3 ⟨⟨p3, q3, rfl, i3, o3⟩, hb3⟩
  replace b0 := bt b0 hb3
  replace x := x.below hb3 x.lt
  replace xk := blk5 x
  replace z := z.below hb3 z.lt
  replace zk := blk2 z
  replace r := r.below hb3 r.lt
  replace rk := blk2 r
  replace rkf := r.frozen
  have w3l := b0.size
  go_wp2_with fail
  rw [Hr.out]
  have ho := o3 (w.heap.size + 1 + 1) lt3 (Hap.out _ (by omega))
  have yy := blk2 (blk_set2 r (.slice p3.a (L.set k c).1.targets.length p3.c) (.slice q3.a (L.set k c).1.data.length q3.c))
  have b9 := below_set2 b0 (g := w.heap.size + 1 + 1) (by omega) (.slice p3.a (L.set k c).1.targets.length p3.c) (.slice q3.a (L.set k c).1.data.length q3.c)
  refine bodyPost_ret (v := .tuple #[pval (L.set k c).1 p3 q3, .int .i64 (L.set k c).2]) (by simp [results, Tryz.results51, go_sem, yy]) rfl ?_
  exact ⟨⟨_, _, rfl, i3.off2 ho _ _, fun g hg h => o3 g (by omega) h⟩, b9⟩
end Go.Proofs.YtjhnaeomaigimaaGreatDoor
