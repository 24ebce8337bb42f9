/- Package refc and the document's ref08: how often a cluster is counted. -/
import Derived.Test.YtlajbmmhgflabaaPlan3
import Derived.Test.YtlajbmmhgflabaaRefcLaw
import Derived.Test.YtlajbmmhgflabaaSuper1
import Derived.Test.YtlajbmmhgflabaaPackNum
set_option linter.unusedVariables false
namespace Go.Proofs.Ytlajbmmhgflabaa
open Go.RowKit Go.Shelf
attribute [local go_sem] bs_mk bs_append bs_extract bs_size bs_toList bs_get

theorem take2_of (b : List UInt8) (hb : b.length = 64) (o : Nat) (ho : o ≤ 62) : takeR (b.drop o) 2 = (un (cut b o 2), (b.drop o).drop 2, 0) ∧ un (cut b o 2) < 65536 := by
  have hl : ¬ (((b.drop o).length : Nat) : Int) < 2 := by rw [List.length_drop]; omega
  refine ⟨?_, ?_⟩
  · rw [takeR, if_neg (by omega), if_neg hl]; rfl
  · have := un_lt (cut b o 2)
    rw [cut_length (by omega)] at this
    exact this
theorem rc_get_out (D : Dk) (L : Pn) (p q p' q' : Pl) (w : World) (k : Int) (h : k < 0 ∨ 256 ≤ k) :
    Calls Try.prog 17 #[dval D p q, pval L p' q', .int .i64 k] w fun e w' => e = .returned (.tuple #[.int .i64 (Pn.cntGet D L k).1, .int .i64 (Pn.cntGet D L k).2]) ∧ Below w.heap.size w w' := by
  have Hw := hid (show Pn.cntGet D L k = (0, 10) by rw [Pn.cntGet, if_pos h])
  obtain ⟨A1, a1⟩ := p
  obtain ⟨A2, a2⟩ := q
  obtain ⟨B1, b1⟩ := p'
  obtain ⟨B2, b2⟩ := q'
  have hB := Below.refl w.heap.size w
  have x := Blk.new w 25 #[.string (bs D.data), .slice A1 D.cache.length a1, .int .i64 D.fuse, .bool D.off, .slice A2 D.bad.length a2]
  have xk := blk5 x
  have hB_1 := hB.alloc hB.size (.cells #[.string (bs D.data), .slice A1 D.cache.length a1, .int .i64 D.fuse, .bool D.off, .slice A2 D.bad.length a2] 25)
  have z := Blk.new (w.alloc (.cells #[.string (bs D.data), .slice A1 D.cache.length a1, .int .i64 D.fuse, .bool D.off, .slice A2 D.bad.length a2] 25)) 28 #[.slice B1 L.targets.length b1, .slice B2 L.data.length b2]
  simp only [World.size_alloc] at z
  have zk := blk2 z
  have hB_2 := hB_1.alloc hB_1.size (.cells #[.slice B1 L.targets.length b1, .slice B2 L.data.length b2] 28)
  have x_3 := x.alloc (.cells #[.slice B1 L.targets.length b1, .slice B2 L.data.length b2] 28)
  have xk_3 := blk5 x_3
  by_cases h0 : k < 0
  · go_enter Try.func17, Try.ntmps17
    go_wp2_with fail
    go_ret2
    rw [Hw.out]
    exact ⟨rfl, hB_2⟩
  · have h1 : 256 ≤ k := by omega
    clear h
    go_enter Try.func17, Try.ntmps17
    go_wp2_with fail
    go_ret2
    rw [Hw.out]
    exact ⟨rfl, hB_2⟩
set_option maxRecDepth 100000 in
theorem rc_get_in (D : Dk) (L : Pn) (p q p' q' : Pl) (w : World) (hD : IsDk w D p q) (hL : IsPn w L p' q') (hf : D.fit = true) (hfl : L.Fit) (k : Nat) (hk : k < 256) :
    Calls Try.prog 17 #[dval D p q, pval L p' q', .int .i64 k] w fun e w' => e = .returned (.tuple #[.int .i64 (Pn.cntGet D L k).1, .int .i64 (Pn.cntGet D L k).2]) ∧ Below w.heap.size w w' := by
  have hr := fun W => s_ref k hk W
  have hlk := fun (W : World) (hb : Below w.heap.size w W) => pl_look D L p q p' q' W (hD.below hb) (hL.below hb) (87 + (k : Int) / 32) ((Dk.fit_parts hf).2.2.1) (by have := hfl.2.1; omega) hfl.1
  obtain ⟨b, er, hb⟩ : ∃ b er, Pn.look D L (87 + (k : Int) / 32) = (b, er) := ⟨_, _, rfl⟩
  simp only [hb] at hlk
  have hlen : er = 0 → b.length = 64 := fun h => by have := Pn.look_full hf hfl (k := 87 + (k : Int) / 32) (by rw [hb]; exact h); rw [hb] at this; exact this
  have hc : ¬ ((k : Int) < 0 ∨ 256 ≤ (k : Int)) := by omega
  have Hw := hid (show Pn.cntGet D L k = if er ≠ 0 then (0, er) else (((un (cut b (2 * (k % 32)) 2) : Nat) : Int), 0) by
    rw [Pn.cntGet, if_neg hc, hb]
    rw [show (2 * ((k : Int) % 32)).toNat = 2 * (k % 32) by omega])
  obtain ⟨o, ho⟩ : ∃ o, k % 32 = o := ⟨_, rfl⟩
  rw [ho] at hr Hw
  have ho' : o < 32 := by omega
  have hk0 : ¬ (k : Int) < 0 := by omega
  have hk1 : (k : Int) < 256 := by omega
  clear hc hb hD hL hf hfl ho
  obtain ⟨A1, a1⟩ := p
  obtain ⟨A2, a2⟩ := q
  obtain ⟨B1, b1⟩ := p'
  obtain ⟨B2, b2⟩ := q'
  have hB := Below.refl w.heap.size w
  have x := Blk.new w 25 #[.string (bs D.data), .slice A1 D.cache.length a1, .int .i64 D.fuse, .bool D.off, .slice A2 D.bad.length a2]
  have xk := blk5 x
  have hB_1 := hB.alloc hB.size (.cells #[.string (bs D.data), .slice A1 D.cache.length a1, .int .i64 D.fuse, .bool D.off, .slice A2 D.bad.length a2] 25)
  have z := Blk.new (w.alloc (.cells #[.string (bs D.data), .slice A1 D.cache.length a1, .int .i64 D.fuse, .bool D.off, .slice A2 D.bad.length a2] 25)) 28 #[.slice B1 L.targets.length b1, .slice B2 L.data.length b2]
  simp only [World.size_alloc] at z
  have zk := blk2 z
  have hB_2 := hB_1.alloc hB_1.size (.cells #[.slice B1 L.targets.length b1, .slice B2 L.data.length b2] 28)
  have x_3 := x.alloc (.cells #[.slice B1 L.targets.length b1, .slice B2 L.data.length b2] 28)
  have xk_3 := blk5 x_3
  go_enter Try.func17, Try.ntmps17
  go_wp2_with fail
  go_at_call 49
  refine ((hr _)).mono ?_
  rintro e w1 ⟨rfl, hb1⟩
  replace hB := bt hB_2 hb1
  replace x := x_3.below hb1 x_3.lt
  replace xk := blk5 x
  replace z := z.below hb1 z.lt
  replace zk := blk2 z
  clear hB_1 hB_2 xk_3 x_3
  go_wp2_with fail
  go_at_call 52
  refine ((hlk _ hB)).mono ?_
  rintro e w2 ⟨rfl, hb2⟩
  replace hB := bt hB hb2
  replace x := x.below hb2 x.lt
  replace xk := blk5 x
  replace z := z.below hb2 z.lt
  replace zk := blk2 z
  by_cases h1 : er = 0
  case neg =>
    have n1 : (er != 0) = true := by simpa using h1
    have Hr := hid (show Pn.cntGet D L k = (0, er) by rw [Hw.out, if_pos h1])
    clear h1
    go_wp2_with fail
    go_ret2
    rw [Hr.out]
    exact ⟨rfl, hB⟩
  subst h1
  have hl := hlen rfl
  have e64 : List.take 64 b = b := List.take_of_length_le (by omega)
  obtain ⟨t1, t2⟩ := take2_of b hl (2 * o) (by omega)
  have ht := fun W => take_any (b.drop (2 * o)) (by rw [List.length_drop]; unfold maxLen; omega) 2 W
  rw [t1] at ht
  generalize un (cut b (2 * o) 2) = n at ht t2 Hw
  have Hr := hid (show Pn.cntGet D L k = (((n : Nat) : Int), 0) by rw [Hw.out, if_neg (by simp)])
  clear hlen hlk hr t1
  go_wp2_with fail
  go_at_call 53
  refine ((ht _)).mono ?_
  rintro e w3 ⟨rfl, hb3⟩
  replace hB := bt hB hb3
  replace x := x.below hb3 x.lt
  replace xk := blk5 x
  replace z := z.below hb3 z.lt
  replace zk := blk2 z
  go_wp2_with fail
  go_ret2
  rw [Hr.out]
  exact ⟨rfl, hB⟩
theorem rc_get (D : Dk) (L : Pn) (p q p' q' : Pl) (w : World) (hD : IsDk w D p q) (hL : IsPn w L p' q') (hf : D.fit = true) (hfl : L.Fit) (k : Int) :
    Calls Try.prog 17 #[dval D p q, pval L p' q', .int .i64 k] w fun e w' => e = .returned (.tuple #[.int .i64 (Pn.cntGet D L k).1, .int .i64 (Pn.cntGet D L k).2]) ∧ Below w.heap.size w w' := by
  by_cases h : k < 0 ∨ 256 ≤ k
  · exact rc_get_out D L p q p' q' w k h
  · obtain ⟨k, rfl⟩ := Int.eq_ofNat_of_zero_le (show 0 ≤ k by omega)
    exact rc_get_in D L p q p' q' w hD hL hf hfl k (by omega)
theorem r8_get_out (D : Dk) (L : Pn) (p q p' q' : Pl) (w : World) (k : Int) (h : k < 0 ∨ 256 ≤ k) :
    Calls Try.prog 18 #[dval D p q, pval L p' q', .int .i64 k] w fun e w' => e = .returned (.tuple #[.int .i64 (Pn.cntGet D L k).1, .int .i64 (Pn.cntGet D L k).2]) ∧ Below w.heap.size w w' := by
  have Hw := hid (show Pn.cntGet D L k = (0, 10) by rw [Pn.cntGet, if_pos h])
  obtain ⟨A1, a1⟩ := p
  obtain ⟨A2, a2⟩ := q
  obtain ⟨B1, b1⟩ := p'
  obtain ⟨B2, b2⟩ := q'
  have hB := Below.refl w.heap.size w
  have x := Blk.new w 25 #[.string (bs D.data), .slice A1 D.cache.length a1, .int .i64 D.fuse, .bool D.off, .slice A2 D.bad.length a2]
  have xk := blk5 x
  have hB_1 := hB.alloc hB.size (.cells #[.string (bs D.data), .slice A1 D.cache.length a1, .int .i64 D.fuse, .bool D.off, .slice A2 D.bad.length a2] 25)
  have z := Blk.new (w.alloc (.cells #[.string (bs D.data), .slice A1 D.cache.length a1, .int .i64 D.fuse, .bool D.off, .slice A2 D.bad.length a2] 25)) 28 #[.slice B1 L.targets.length b1, .slice B2 L.data.length b2]
  simp only [World.size_alloc] at z
  have zk := blk2 z
  have hB_2 := hB_1.alloc hB_1.size (.cells #[.slice B1 L.targets.length b1, .slice B2 L.data.length b2] 28)
  have x_3 := x.alloc (.cells #[.slice B1 L.targets.length b1, .slice B2 L.data.length b2] 28)
  have xk_3 := blk5 x_3
  by_cases h0 : k < 0
  · go_enter Try.func18, Try.ntmps18
    go_wp2_with fail
    go_ret2
    rw [Hw.out]
    exact ⟨rfl, hB_2⟩
  · have h1 : 256 ≤ k := by omega
    clear h
    go_enter Try.func18, Try.ntmps18
    go_wp2_with fail
    go_ret2
    rw [Hw.out]
    exact ⟨rfl, hB_2⟩
set_option maxRecDepth 100000 in
theorem r8_get_in (D : Dk) (L : Pn) (p q p' q' : Pl) (w : World) (hD : IsDk w D p q) (hL : IsPn w L p' q') (hf : D.fit = true) (hfl : L.Fit) (k : Nat) (hk : k < 256) :
    Calls Try.prog 18 #[dval D p q, pval L p' q', .int .i64 k] w fun e w' => e = .returned (.tuple #[.int .i64 (Pn.cntGet D L k).1, .int .i64 (Pn.cntGet D L k).2]) ∧ Below w.heap.size w w' := by
  have hr := fun W => r4_ref k hk W
  have hlk := fun (W : World) (hb : Below w.heap.size w W) => r5_look D L p q p' q' W (hD.below hb) (hL.below hb) (87 + (k : Int) / 32) ((Dk.fit_parts hf).2.2.1) (by have := hfl.2.1; omega) hfl.1
  obtain ⟨b, er, hb⟩ : ∃ b er, Pn.look D L (87 + (k : Int) / 32) = (b, er) := ⟨_, _, rfl⟩
  simp only [hb] at hlk
  have hlen : er = 0 → b.length = 64 := fun h => by have := Pn.look_full hf hfl (k := 87 + (k : Int) / 32) (by rw [hb]; exact h); rw [hb] at this; exact this
  have hc : ¬ ((k : Int) < 0 ∨ 256 ≤ (k : Int)) := by omega
  have Hw := hid (show Pn.cntGet D L k = if er ≠ 0 then (0, er) else (((un (cut b (2 * (k % 32)) 2) : Nat) : Int), 0) by
    rw [Pn.cntGet, if_neg hc, hb]
    rw [show (2 * ((k : Int) % 32)).toNat = 2 * (k % 32) by omega])
  obtain ⟨o, ho⟩ : ∃ o, k % 32 = o := ⟨_, rfl⟩
  rw [ho] at hr Hw
  have ho' : o < 32 := by omega
  have hk0 : ¬ (k : Int) < 0 := by omega
  have hk1 : (k : Int) < 256 := by omega
  clear hc hb hD hL hf hfl ho
  obtain ⟨A1, a1⟩ := p
  obtain ⟨A2, a2⟩ := q
  obtain ⟨B1, b1⟩ := p'
  obtain ⟨B2, b2⟩ := q'
  have hB := Below.refl w.heap.size w
  have x := Blk.new w 25 #[.string (bs D.data), .slice A1 D.cache.length a1, .int .i64 D.fuse, .bool D.off, .slice A2 D.bad.length a2]
  have xk := blk5 x
  have hB_1 := hB.alloc hB.size (.cells #[.string (bs D.data), .slice A1 D.cache.length a1, .int .i64 D.fuse, .bool D.off, .slice A2 D.bad.length a2] 25)
  have z := Blk.new (w.alloc (.cells #[.string (bs D.data), .slice A1 D.cache.length a1, .int .i64 D.fuse, .bool D.off, .slice A2 D.bad.length a2] 25)) 28 #[.slice B1 L.targets.length b1, .slice B2 L.data.length b2]
  simp only [World.size_alloc] at z
  have zk := blk2 z
  have hB_2 := hB_1.alloc hB_1.size (.cells #[.slice B1 L.targets.length b1, .slice B2 L.data.length b2] 28)
  have x_3 := x.alloc (.cells #[.slice B1 L.targets.length b1, .slice B2 L.data.length b2] 28)
  have xk_3 := blk5 x_3
  go_enter Try.func18, Try.ntmps18
  go_wp2_with fail
  go_at_call 54
  refine ((hr _)).mono ?_
  rintro e w1 ⟨rfl, hb1⟩
  replace hB := bt hB_2 hb1
  replace x := x_3.below hb1 x_3.lt
  replace xk := blk5 x
  replace z := z.below hb1 z.lt
  replace zk := blk2 z
  clear hB_1 hB_2 xk_3 x_3
  go_wp2_with fail
  go_at_call 55
  refine ((hlk _ hB)).mono ?_
  rintro e w2 ⟨rfl, hb2⟩
  replace hB := bt hB hb2
  replace x := x.below hb2 x.lt
  replace xk := blk5 x
  replace z := z.below hb2 z.lt
  replace zk := blk2 z
  by_cases h1 : er = 0
  case neg =>
    have n1 : (er != 0) = true := by simpa using h1
    have Hr := hid (show Pn.cntGet D L k = (0, er) by rw [Hw.out, if_pos h1])
    clear h1
    go_wp2_with fail
    go_ret2
    rw [Hr.out]
    exact ⟨rfl, hB⟩
  subst h1
  have hl := hlen rfl
  have e64 : List.take 64 b = b := List.take_of_length_le (by omega)
  obtain ⟨t1, t2⟩ := take2_of b hl (2 * o) (by omega)
  have ht := fun W => rtake_any (b.drop (2 * o)) (by rw [List.length_drop]; unfold maxLen; omega) 2 W
  rw [t1] at ht
  generalize un (cut b (2 * o) 2) = n at ht t2 Hw
  have Hr := hid (show Pn.cntGet D L k = (((n : Nat) : Int), 0) by rw [Hw.out, if_neg (by simp)])
  clear hlen hlk hr t1
  go_wp2_with fail
  go_at_call 56
  refine ((ht _)).mono ?_
  rintro e w3 ⟨rfl, hb3⟩
  replace hB := bt hB hb3
  replace x := x.below hb3 x.lt
  replace xk := blk5 x
  replace z := z.below hb3 z.lt
  replace zk := blk2 z
  go_wp2_with fail
  go_ret2
  rw [Hr.out]
  exact ⟨rfl, hB⟩
theorem r8_get (D : Dk) (L : Pn) (p q p' q' : Pl) (w : World) (hD : IsDk w D p q) (hL : IsPn w L p' q') (hf : D.fit = true) (hfl : L.Fit) (k : Int) :
    Calls Try.prog 18 #[dval D p q, pval L p' q', .int .i64 k] w fun e w' => e = .returned (.tuple #[.int .i64 (Pn.cntGet D L k).1, .int .i64 (Pn.cntGet D L k).2]) ∧ Below w.heap.size w w' := by
  by_cases h : k < 0 ∨ 256 ≤ k
  · exact r8_get_out D L p q p' q' w k h
  · obtain ⟨k, rfl⟩ := Int.eq_ofNat_of_zero_le (show 0 ≤ k by omega)
    exact r8_get_in D L p q p' q' w hD hL hf hfl k (by omega)
end Go.Proofs.Ytlajbmmhgflabaa
