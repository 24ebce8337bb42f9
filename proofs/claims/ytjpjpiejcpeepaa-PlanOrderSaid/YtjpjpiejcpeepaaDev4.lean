/- Package dev: what is written. -/
import Derived.Test.YtjpjpiejcpeepaaDev3
import Derived.Test.YtjpjpiejcpeepaaOff
set_option linter.unusedVariables false
namespace Go.Proofs.Ytjpjpiejcpeepaa
open Go.RowKit Go.Shelf
attribute [local go_sem] bs_mk bs_append bs_extract bs_size bs_toList bs_get

theorem Try.infoPut' : (Try.prog.info? 45).map (fun i => (i.zero, i.size, i.bytes)) = some (some (.agg #[.int .i64 0, .string ⟨#[]⟩]), 2, 24) := by kernel_rfl
set_option maxHeartbeats 2000000 in
set_option maxRecDepth 100000 in
theorem clone_puts (A : Option Addr) (l : List (Int × List UInt8)) (c : Nat) (w : World) (hA : Cells w A (putCells l)) (hl : l.length ≤ 1099511627776) (hn : A = none → c = 0) :
    Calls Try.prog 62 #[.slice A l.length c] w fun e w' => ∃ v', e = .returned v' ∧ w'.ownsRow w.heap.size 45 2 v' l.length (putCells l) ∧ Below w.heap.size w w' := by
  have q22 : ∀ (w : World) (a : Option Addr) (n c n' c' : Nat), (binOp .eql 22 (.slice a n c) (.slice none n' c')).run Try.prog w = .ok (.bool a.isNone) w := fun w a n c n' c' => Lib.run_eql_slice_nil w _ _ a n c n' c' Try.underlying22
  obtain ⟨i0, hi, hz0, hz1, hz2⟩ := info_parts Try.infoPut'
  cases A with
  | none =>
    have hl0 : l = [] := by
      rcases hA with h | ⟨b, off, he, _⟩
      · have := congrArg List.length h; rw [putCells_length] at this; exact List.length_eq_zero_iff.1 (by simp at this; omega)
      · cases he
    subst hl0
    go_enter Try.func62, Try.ntmps62
    go_wp2_with fail
    go_ret
    exact ⟨_, rfl, World.ownsRow_nil _ _ _ _, Below.refl _ _⟩
  | some ad =>
    go_enter Try.func62, Try.ntmps62
    go_wp2_with (at_builtin; refine wpList_app rfl _ _ 22 rfl w.heap.size 45 i0 (.agg #[.int .i64 0, .string ⟨#[]⟩]) 2 24 Try.underlying22 hi hz0 hz1 hz2 rfl (by decide) _ 0 [] rfl (World.ownsRow_made w #[] 0 (Nat.le_refl _) (Nat.zero_le _) rfl) (some ad) l.length c (putCells l) rfl (hA.below ((Below.refl _ _).alloc (Nat.le_refl _) _)) (putCells_length _) (fun h => by cases h) (one_puts _) (by unfold maxLen; omega) (by omega) (by simp) ?_; intro v1 w3 hown1 hbl1; rw [Nat.zero_add, List.nil_append] at hown1)
    go_ret
    exact ⟨_, rfl, hown1, ((Below.refl _ _).alloc (Nat.le_refl _) _).trans hbl1⟩
set_option maxRecDepth 100000 in
set_option maxHeartbeats 1000000 in
theorem d_write_off (D : Dk) (p q : Pl) (w : World) (hD : IsDk w D p q) (k : Int) (s : List UInt8) (hs : s.length ≤ 9223372036854775807) (h1 : D.off = true) :
    Calls Try.prog 25 #[dval D p q, .int .i64 k, .string (bs s)] w fun e w' => RetDkN w.heap.size D p q (D.write k s) e w' ∧ Below w.heap.size w w' := by
  have Hw := hid (show D.write k s = (D, 12) by simp [Dk.write, h1])
  obtain ⟨A1, c1⟩ := p
  obtain ⟨A2, c2⟩ := q
  obtain ⟨data, cache, fuse, off, bad⟩ := D
  simp only at h1
  subst h1
  go_enter Try.func25, Try.ntmps25
  go_wp2_with fail
  rw [Hw.out]
  refine bodyPost_ret (v := .tuple #[dval ⟨data, cache, fuse, true, bad⟩ ⟨A1, c1⟩ ⟨A2, c2⟩, .int .i64 12]) (by simp [results, Try.results25, go_sem]) rfl ?_
  exact ⟨⟨_, _, rfl, hD.below (below_two _ _ _), fun _ _ h => h⟩, below_two _ _ _⟩
set_option maxRecDepth 100000 in
set_option maxHeartbeats 1000000 in
theorem d_write_out (D : Dk) (p q : Pl) (w : World) (hD : IsDk w D p q) (k : Int) (s : List UInt8) (hs : s.length ≤ 9223372036854775807) (h1 : D.off = false) (h2 : D.there k = false) :
    Calls Try.prog 25 #[dval D p q, .int .i64 k, .string (bs s)] w fun e w' => RetDkN w.heap.size D p q (D.write k s) e w' ∧ Below w.heap.size w w' := by
  have Hw := hid (show D.write k s = (D, 10) by simp [Dk.write, *])
  obtain ⟨A1, c1⟩ := p
  obtain ⟨A2, c2⟩ := q
  have hdl := hD.data
  have hcl := hD.cl
  have hout2 := d_out D ⟨A1, c1⟩ ⟨A2, c2⟩ hD.data k
  rw [h2] at hout2
  obtain ⟨data, cache, fuse, off, bad⟩ := D
  simp only at h1 hdl hcl
  subst h1
  clear h2
  go_enter Try.func25, Try.ntmps25
  go_wp2_with (go_at_call 59; refine (hout2 _).mono ?_; rintro e w1 ⟨rfl, hb1⟩; obtain ⟨b0, b1⟩ := blk_two hb1; have y0 := blk5 b0; have y1 := blk5 b1; have y2 := b1.frozen; have y3 := b0.frozen)
  rw [Hw.out]
  have z1 := blk_set5 b1 (.string (bs data)) (.slice A1 cache.length c1) (.int .i64 fuse) (.bool false) (.slice A2 bad.length c2)
  have hb := below_set5 (bt (below_two _ _ _) hb1) (g := w.heap.size + 1) (by omega) (.string (bs data)) (.slice A1 cache.length c1) (.int .i64 fuse) (.bool false) (.slice A2 bad.length c2)
  have z2 := blk5 z1
  refine bodyPost_ret (v := .tuple #[dval ⟨data, cache, fuse, false, bad⟩ ⟨A1, c1⟩ ⟨A2, c2⟩, .int .i64 10]) (by simp [results, Try.results25, go_sem, z2]) rfl ?_
  exact ⟨⟨_, _, rfl, hD.below hb, fun _ _ h => h⟩, hb⟩
set_option maxRecDepth 100000 in
set_option maxHeartbeats 1000000 in
theorem d_write_size (D : Dk) (p q : Pl) (w : World) (hD : IsDk w D p q) (k : Int) (s : List UInt8) (hs : s.length ≤ 9223372036854775807) (h1 : D.off = false) (h2 : D.there k = true) (h3 : s.length ≠ 64) :
    Calls Try.prog 25 #[dval D p q, .int .i64 k, .string (bs s)] w fun e w' => RetDkN w.heap.size D p q (D.write k s) e w' ∧ Below w.heap.size w w' := by
  have Hw := hid (show D.write k s = (D, 11) by simp [Dk.write, *])
  obtain ⟨A1, c1⟩ := p
  obtain ⟨A2, c2⟩ := q
  have hdl := hD.data
  have hcl := hD.cl
  have hout2 := d_out D ⟨A1, c1⟩ ⟨A2, c2⟩ hD.data k
  rw [h2] at hout2
  obtain ⟨data, cache, fuse, off, bad⟩ := D
  simp only at h1 hdl hcl
  subst h1
  have hl : ((s.length : Int) != 64) = true := by simp; omega
  clear h2 h3
  go_enter Try.func25, Try.ntmps25
  go_wp2_with (go_at_call 59; refine (hout2 _).mono ?_; rintro e w1 ⟨rfl, hb1⟩; obtain ⟨b0, b1⟩ := blk_two hb1; have y0 := blk5 b0; have y1 := blk5 b1; have y2 := b1.frozen; have y3 := b0.frozen)
  rw [Hw.out]
  have z1 := blk_set5 b1 (.string (bs data)) (.slice A1 cache.length c1) (.int .i64 fuse) (.bool false) (.slice A2 bad.length c2)
  have hb := below_set5 (bt (below_two _ _ _) hb1) (g := w.heap.size + 1) (by omega) (.string (bs data)) (.slice A1 cache.length c1) (.int .i64 fuse) (.bool false) (.slice A2 bad.length c2)
  have z2 := blk5 z1
  refine bodyPost_ret (v := .tuple #[dval ⟨data, cache, fuse, false, bad⟩ ⟨A1, c1⟩ ⟨A2, c2⟩, .int .i64 11]) (by simp [results, Try.results25, go_sem, z2]) rfl ?_
  exact ⟨⟨_, _, rfl, hD.below hb, fun _ _ h => h⟩, hb⟩
set_option maxRecDepth 100000 in
set_option maxHeartbeats 1000000 in
theorem d_write_fuse (D : Dk) (p q : Pl) (w : World) (hD : IsDk w D p q) (k : Int) (s : List UInt8) (hs : s.length ≤ 9223372036854775807) (h1 : D.off = false) (h2 : D.there k = true) (h3 : s.length = 64) (h4 : D.fuse = 0) :
    Calls Try.prog 25 #[dval D p q, .int .i64 k, .string (bs s)] w fun e w' => RetDkN w.heap.size D p q (D.write k s) e w' ∧ Below w.heap.size w w' := by
  have Hw := hid (show D.write k s = ({ D with off := true }, 12) by simp [Dk.write, *])
  obtain ⟨A1, c1⟩ := p
  obtain ⟨A2, c2⟩ := q
  have hdl := hD.data
  have hcl := hD.cl
  have hout2 := d_out D ⟨A1, c1⟩ ⟨A2, c2⟩ hD.data k
  rw [h2] at hout2
  have hbn := fun W => d_burn0 D ⟨A1, c1⟩ ⟨A2, c2⟩ W h4
  obtain ⟨data, cache, fuse, off, bad⟩ := D
  simp only at h1 hdl hcl h4
  subst h1
  subst h4
  have hl : ((s.length : Int) != 64) = false := by simp; omega
  clear h2 h3
  go_enter Try.func25, Try.ntmps25
  go_wp2_with first | (go_at_call 59; refine (hout2 _).mono ?_; rintro e w1 ⟨rfl, hb1⟩; obtain ⟨b0, b1⟩ := blk_two hb1; have y0 := blk5 b0; have y1 := blk5 b1; have y2 := b1.frozen; have y3 := b0.frozen) | (go_at_call 60; refine (hbn _).mono ?_; rintro e w2 ⟨rfl, hb2⟩; have s2 : w.heap.size + 1 + 1 ≤ w1.heap.size := (by simpa using hb1.size); have s3 : w1.heap.size ≤ w2.heap.size := hb2.size; have ne1 : ¬ (w2.heap.size = w.heap.size + 1) := (by omega); have ne2 : ¬ (w.heap.size + 1 = w2.heap.size) := (by omega); have hW := (bt (bt (below_two _ _ _) hb1) hb2).alloc (by omega) (.cells #[.string (bs data), .slice A1 cache.length c1, .int .i64 0, .bool true, .slice A2 bad.length c2] 25); have b02 := (b0.below hb2 b0.lt).alloc (.cells #[.string (bs data), .slice A1 cache.length c1, .int .i64 0, .bool true, .slice A2 bad.length c2] 25); have b12 := (b1.below hb2 b1.lt).alloc (.cells #[.string (bs data), .slice A1 cache.length c1, .int .i64 0, .bool true, .slice A2 bad.length c2] 25); have b22 := Blk.new w2 25 #[.string (bs data), .slice A1 cache.length c1, .int .i64 0, .bool true, .slice A2 bad.length c2]; have y02 := blk5 b02; have y12 := blk5 b12; have y22 := blk5 b22; have f12 := b12.frozen)
  rw [Hw.out]
  have z1 := blk_set5 b12 (.string (bs data)) (.slice A1 cache.length c1) (.int .i64 0) (.bool true) (.slice A2 bad.length c2)
  have hb := below_set5 (hW) (g := w.heap.size + 1) (by omega) (.string (bs data)) (.slice A1 cache.length c1) (.int .i64 0) (.bool true) (.slice A2 bad.length c2)
  have z2 := blk5 z1
  refine bodyPost_ret (v := .tuple #[dval ⟨data, cache, 0, true, bad⟩ ⟨A1, c1⟩ ⟨A2, c2⟩, .int .i64 12]) (by simp [results, Try.results25, go_sem, z2]) rfl ?_
  exact ⟨⟨_, _, rfl, (hD.setOff true).below hb, fun _ _ h => h⟩, hb⟩
set_option maxRecDepth 100000 in
set_option maxHeartbeats 1000000 in
theorem d_write_bad (D : Dk) (p q : Pl) (w : World) (hD : IsDk w D p q) (k : Int) (s : List UInt8) (hs : s.length ≤ 9223372036854775807) (h1 : D.off = false) (h2 : D.there k = true) (h3 : s.length = 64) (h4 : D.fuse ≠ 0) (h5 : k ∈ D.bad) :
    Calls Try.prog 25 #[dval D p q, .int .i64 k, .string (bs s)] w fun e w' => RetDkN w.heap.size D p q (D.write k s) e w' ∧ Below w.heap.size w w' := by
  have Hw := hid (show D.write k s = (D, 13) by simp [Dk.write, *])
  obtain ⟨A1, c1⟩ := p
  obtain ⟨A2, c2⟩ := q
  have hdl := hD.data
  have hcl := hD.cl
  have hcon2 := fun (W : World) (hW : Below w.heap.size w W) => contains_any A2 D.bad c2 k W (hD.below hW).bad hD.bl
  rw [decide_eq_true h5] at hcon2
  have hout2 := d_out D ⟨A1, c1⟩ ⟨A2, c2⟩ hD.data k
  rw [h2] at hout2
  have hbn := fun W => d_burn D ⟨A1, c1⟩ ⟨A2, c2⟩ W h4 hD.fuse.2
  obtain ⟨data, cache, fuse, off, bad⟩ := D
  simp only at h1 hdl hcl h4
  subst h1
  obtain ⟨F, hF⟩ : ∃ F, F = if 0 < fuse then fuse - 1 else fuse := ⟨_, rfl⟩
  rw [show (⟨data, cache, fuse, false, bad⟩ : Dk).burnt = ⟨data, cache, F, false, bad⟩ by rw [hF]; rfl] at hbn
  have hl : ((s.length : Int) != 64) = false := by simp; omega
  clear h2 h3 h4 h5 hF
  go_enter Try.func25, Try.ntmps25
  go_wp2_with first | (go_at_call 59; refine (hout2 _).mono ?_; rintro e w1 ⟨rfl, hb1⟩; obtain ⟨b0, b1⟩ := blk_two hb1; have y0 := blk5 b0; have y1 := blk5 b1; have y2 := b1.frozen; have y3 := b0.frozen) | (go_at_call 60; refine (hbn _).mono ?_; rintro e w2 ⟨rfl, hb2⟩; have s2 : w.heap.size + 1 + 1 ≤ w1.heap.size := (by simpa using hb1.size); have s3 : w1.heap.size ≤ w2.heap.size := hb2.size; have ne1 : ¬ (w2.heap.size = w.heap.size + 1) := (by omega); have ne2 : ¬ (w.heap.size + 1 = w2.heap.size) := (by omega); have hW := (bt (bt (below_two _ _ _) hb1) hb2).alloc (by omega) (.cells #[.string (bs data), .slice A1 cache.length c1, .int .i64 F, .bool false, .slice A2 bad.length c2] 25); have b02 := (b0.below hb2 b0.lt).alloc (.cells #[.string (bs data), .slice A1 cache.length c1, .int .i64 F, .bool false, .slice A2 bad.length c2] 25); have b12 := (b1.below hb2 b1.lt).alloc (.cells #[.string (bs data), .slice A1 cache.length c1, .int .i64 F, .bool false, .slice A2 bad.length c2] 25); have b22 := Blk.new w2 25 #[.string (bs data), .slice A1 cache.length c1, .int .i64 F, .bool false, .slice A2 bad.length c2]; have y02 := blk5 b02; have y12 := blk5 b12; have y22 := blk5 b22; have f12 := b12.frozen) | (go_at_call 61; refine (hcon2 _ hW).mono ?_; rintro e w3 ⟨rfl, rfl⟩)
  rw [Hw.out]
  have z1 := blk_set5 b12 (.string (bs data)) (.slice A1 cache.length c1) (.int .i64 fuse) (.bool false) (.slice A2 bad.length c2)
  have hb := below_set5 (hW) (g := w.heap.size + 1) (by omega) (.string (bs data)) (.slice A1 cache.length c1) (.int .i64 fuse) (.bool false) (.slice A2 bad.length c2)
  have z2 := blk5 z1
  refine bodyPost_ret (v := .tuple #[dval ⟨data, cache, fuse, false, bad⟩ ⟨A1, c1⟩ ⟨A2, c2⟩, .int .i64 13]) (by simp [results, Try.results25, go_sem, z2]) rfl ?_
  exact ⟨⟨_, _, rfl, hD.below hb, fun _ _ h => h⟩, hb⟩
set_option maxRecDepth 100000 in
set_option maxHeartbeats 1000000 in
theorem d_write_many (D : Dk) (p q : Pl) (w : World) (hD : IsDk w D p q) (k : Int) (s : List UInt8) (hs : s.length ≤ 9223372036854775807) (h1 : D.off = false) (h2 : D.there k = true) (h3 : s.length = 64) (h4 : D.fuse ≠ 0) (h5 : k ∉ D.bad) (h6 : 4096 ≤ D.cache.length) :
    Calls Try.prog 25 #[dval D p q, .int .i64 k, .string (bs s)] w fun e w' => RetDkN w.heap.size D p q (D.write k s) e w' ∧ Below w.heap.size w w' := by
  have Hw := hid (show D.write k s = (D, 16) by simp [Dk.write, *])
  obtain ⟨A1, c1⟩ := p
  obtain ⟨A2, c2⟩ := q
  have hdl := hD.data
  have hcl := hD.cl
  have hcon2 := fun (W : World) (hW : Below w.heap.size w W) => contains_any A2 D.bad c2 k W (hD.below hW).bad hD.bl
  rw [decide_eq_false h5] at hcon2
  have hout2 := d_out D ⟨A1, c1⟩ ⟨A2, c2⟩ hD.data k
  rw [h2] at hout2
  have hbn := fun W => d_burn D ⟨A1, c1⟩ ⟨A2, c2⟩ W h4 hD.fuse.2
  obtain ⟨data, cache, fuse, off, bad⟩ := D
  simp only at h1 hdl hcl h4 h6
  subst h1
  obtain ⟨F, hF⟩ : ∃ F, F = if 0 < fuse then fuse - 1 else fuse := ⟨_, rfl⟩
  rw [show (⟨data, cache, fuse, false, bad⟩ : Dk).burnt = ⟨data, cache, F, false, bad⟩ by rw [hF]; rfl] at hbn
  have hl : ((s.length : Int) != 64) = false := by simp; omega
  clear h2 h3 h4 h5 hF
  go_enter Try.func25, Try.ntmps25
  go_wp2_with first | (go_at_call 59; refine (hout2 _).mono ?_; rintro e w1 ⟨rfl, hb1⟩; obtain ⟨b0, b1⟩ := blk_two hb1; have y0 := blk5 b0; have y1 := blk5 b1; have y2 := b1.frozen; have y3 := b0.frozen) | (go_at_call 60; refine (hbn _).mono ?_; rintro e w2 ⟨rfl, hb2⟩; have s2 : w.heap.size + 1 + 1 ≤ w1.heap.size := (by simpa using hb1.size); have s3 : w1.heap.size ≤ w2.heap.size := hb2.size; have ne1 : ¬ (w2.heap.size = w.heap.size + 1) := (by omega); have ne2 : ¬ (w.heap.size + 1 = w2.heap.size) := (by omega); have hW := (bt (bt (below_two _ _ _) hb1) hb2).alloc (by omega) (.cells #[.string (bs data), .slice A1 cache.length c1, .int .i64 F, .bool false, .slice A2 bad.length c2] 25); have b02 := (b0.below hb2 b0.lt).alloc (.cells #[.string (bs data), .slice A1 cache.length c1, .int .i64 F, .bool false, .slice A2 bad.length c2] 25); have b12 := (b1.below hb2 b1.lt).alloc (.cells #[.string (bs data), .slice A1 cache.length c1, .int .i64 F, .bool false, .slice A2 bad.length c2] 25); have b22 := Blk.new w2 25 #[.string (bs data), .slice A1 cache.length c1, .int .i64 F, .bool false, .slice A2 bad.length c2]; have y02 := blk5 b02; have y12 := blk5 b12; have y22 := blk5 b22; have f12 := b12.frozen) | (go_at_call 61; refine (hcon2 _ hW).mono ?_; rintro e w3 ⟨rfl, rfl⟩)
  rw [Hw.out]
  have z1 := blk_set5 b12 (.string (bs data)) (.slice A1 cache.length c1) (.int .i64 fuse) (.bool false) (.slice A2 bad.length c2)
  have hb := below_set5 (hW) (g := w.heap.size + 1) (by omega) (.string (bs data)) (.slice A1 cache.length c1) (.int .i64 fuse) (.bool false) (.slice A2 bad.length c2)
  have z2 := blk5 z1
  refine bodyPost_ret (v := .tuple #[dval ⟨data, cache, fuse, false, bad⟩ ⟨A1, c1⟩ ⟨A2, c2⟩, .int .i64 16]) (by simp [results, Try.results25, go_sem, z2]) rfl ?_
  exact ⟨⟨_, _, rfl, hD.below hb, fun _ _ h => h⟩, hb⟩
set_option maxRecDepth 100000 in
set_option maxHeartbeats 2000000 in
theorem d_write_ok (D : Dk) (p q : Pl) (w : World) (hD : IsDk w D p q) (k : Int) (hk : -9223372036854775808 ≤ k ∧ k ≤ 9223372036854775807) (s : List UInt8) (hs : s.length ≤ 9223372036854775807) (h1 : D.off = false) (h2 : D.there k = true) (h3 : s.length = 64) (h4 : D.fuse ≠ 0) (h5 : k ∉ D.bad) (h6 : D.cache.length < 4096) :
    Calls Try.prog 25 #[dval D p q, .int .i64 k, .string (bs s)] w fun e w' => RetDkN w.heap.size D p q (D.write k s) e w' ∧ Below w.heap.size w w' := by
  have Hw := hid (show D.write k s = (({ D with cache := D.cache ++ [(k, s)] } : Dk).burnt, 0) by simp [Dk.write, h1, h2, h3, h4, h5]; omega)
  obtain ⟨A1, c1⟩ := p
  obtain ⟨A2, c2⟩ := q
  have hdl := hD.data
  have hcl := hD.cl
  have hcon2 := fun (W : World) (hW : Below w.heap.size w W) => contains_any A2 D.bad c2 k W (hD.below hW).bad hD.bl
  rw [decide_eq_false h5] at hcon2
  have hout2 := d_out D ⟨A1, c1⟩ ⟨A2, c2⟩ hD.data k
  rw [h2] at hout2
  have hbn := fun W => d_burn D ⟨A1, c1⟩ ⟨A2, c2⟩ W h4 hD.fuse.2
  have hclo := fun (W : World) (hW : Below w.heap.size w W) => clone_puts A1 D.cache c1 W (hD.below hW).cache hcl hD.pn
  obtain ⟨data, cache, fuse, off, bad⟩ := D
  simp only at h1 hdl hcl h4 h6
  subst h1
  obtain ⟨F, hF⟩ : ∃ F, F = if 0 < fuse then fuse - 1 else fuse := ⟨_, rfl⟩
  have hF2 : -9223372036854775808 ≤ F ∧ F ≤ 9223372036854775807 := by have := hD.fuse; simp only at this; rw [hF]; split <;> omega
  rw [show (⟨data, cache, fuse, false, bad⟩ : Dk).burnt = ⟨data, cache, F, false, bad⟩ by rw [hF]; rfl] at hbn
  rw [show (⟨data, cache ++ [(k, s)], fuse, false, bad⟩ : Dk).burnt = ⟨data, cache ++ [(k, s)], F, false, bad⟩ by rw [hF]; rfl] at Hw
  have hl : ((s.length : Int) != 64) = false := by simp; omega
  clear h2 h3 h4 h5 hF
  obtain ⟨i0, hi, hz0, hz1, hz2⟩ := info_parts Try.infoPut'
  go_enter Try.func25, Try.ntmps25
  go_wp2_with (first | (go_at_call 59; refine (hout2 _).mono ?_; rintro e w1 ⟨rfl, hb1⟩; obtain ⟨b0, b1⟩ := blk_two hb1; have y0 := blk5 b0; have y1 := blk5 b1; have y2 := b1.frozen; have y3 := b0.frozen) | (go_at_call 61; refine (hcon2 _ hW).mono ?_; rintro e w2 ⟨rfl, rfl⟩) | (go_at_call 60; go_loud (refine (hbn _).mono ?_; rintro e w2 ⟨rfl, hb2⟩; have s2 : w.heap.size + 1 + 1 ≤ w1.heap.size := (by simpa using hb1.size); have s3 : w1.heap.size ≤ w2.heap.size := hb2.size; have ne1 : ¬ (w2.heap.size = w.heap.size + 1) := (by omega); have ne2 : ¬ (w.heap.size + 1 = w2.heap.size) := (by omega); have hW := (bt (bt (below_two _ _ _) hb1) hb2).alloc (by omega) (.cells #[.string (bs data), .slice A1 cache.length c1, .int .i64 F, .bool false, .slice A2 bad.length c2] 25); have b02 := (b0.below hb2 b0.lt).alloc (.cells #[.string (bs data), .slice A1 cache.length c1, .int .i64 F, .bool false, .slice A2 bad.length c2] 25); have b12 := (b1.below hb2 b1.lt).alloc (.cells #[.string (bs data), .slice A1 cache.length c1, .int .i64 F, .bool false, .slice A2 bad.length c2] 25); have b22 := Blk.new w2 25 #[.string (bs data), .slice A1 cache.length c1, .int .i64 F, .bool false, .slice A2 bad.length c2]; have y02 := blk5 b02; have y12 := blk5 b12; have y22 := blk5 b22)) | (go_at_call 62; refine (hclo _ hW).mono ?_; rintro e w4 ⟨v1, rfl, hown1, hb4⟩; obtain ⟨V1, C1, hv1, hv2, hv3, hv4⟩ := own_slice hown1; rw [hv1]; rw [hv1] at hown1; clear hv1) | (at_builtin; refine wpList_app rfl (.tmp 47) (.tmp 51) 22 rfl _ 45 i0 (.agg #[.int .i64 0, .string ⟨#[]⟩]) 2 24 Try.underlying22 hi hz0 hz1 hz2 rfl (by decide) _ cache.length (putCells cache) rfl (hown1.alloc _) (some ⟨w4.heap.size, 0, none⟩) 1 1 [.int .i64 k, .string (bs s)] rfl (cells_new _ _ _) rfl (fun h => by cases h) (by simp [Value.oneCell']) (by unfold maxLen; omega) (by omega) (by have := hb4.size; simp at this ⊢; omega) ?_; intro v2 w5 hown2 hbl2; obtain ⟨V2, C2, hw1, hw2, hw3, hw4⟩ := own_slice hown2; rw [hw1]; rw [hw1] at hown2; clear hw1; have b05 := ((b02.below hb4 b02.lt).alloc (.cells #[.int .i64 k, .string (bs s)] 45)).below hbl2 b02.lt; have b15 := ((b12.below hb4 b12.lt).alloc (.cells #[.int .i64 k, .string (bs s)] 45)).below hbl2 b12.lt; have b25 := ((b22.below hb4 b22.lt).alloc (.cells #[.int .i64 k, .string (bs s)] 45)).below hbl2 b22.lt; have y15 := blk5 b15; have y25 := blk5 b25; have f15 := b15.frozen; have f25 := b25.frozen))
  rw [Hw.out]
  have hb5 : Below w.heap.size w w5 := (((hW.trans (hb4.mono (by simp; omega))).alloc (by have := hb4.size; simp at this; omega) _).trans (hbl2.mono (by simp; omega)))
  have hb6 := hb5.setCell (p := ⟨w2.heap.size, 1, none⟩) (by simp; omega) (.slice V2 (cache.length + 1) C2)
  have b16 := b15.other (a := ⟨w2.heap.size, 1, none⟩) (by simp; omega) (.slice V2 (cache.length + 1) C2)
  have z1 := blk_set5 b16 (.string (bs data)) (.slice V2 (cache.length + 1) C2) (.int .i64 F) (.bool false) (.slice A2 bad.length c2)
  have hb := below_set5 hb6 (g := w.heap.size + 1) (by omega) (.string (bs data)) (.slice V2 (cache.length + 1) C2) (.int .i64 F) (.bool false) (.slice A2 bad.length c2)
  have z2 := blk5 z1
  refine bodyPost_ret (v := .tuple #[dval ⟨data, cache ++ [(k, s)], F, false, bad⟩ ⟨V2, C2⟩ ⟨A2, c2⟩, .int .i64 0]) (by simp [results, Try.results25, go_sem, z2]) rfl ?_
  have hD' := hD.below hb
  refine ⟨⟨⟨V2, C2⟩, ⟨A2, c2⟩, rfl, { hD' with cache := ?_, pn := hw4, pc := by simpa using hw2, pm := hw3, cl := by simp; omega, fuse := hF2, strs := ?_, ats := ?_ }, fun g hg h => ⟨by have := off_own (g := g) hown2 (by have := b12.lt; omega); simpa using this, h.2⟩⟩, hb⟩
  · have hc := Cells.of_own hown2
    have e0 : putCells cache ++ [.int .i64 k, .string (bs s)] = putCells (cache ++ [(k, s)]) := by simp [putCells]
    rw [e0] at hc
    have q0 := own_beyond hown2 b22.lt
    have q1 := own_beyond hown2 b12.lt
    exact (hc.setCell (p := ⟨w2.heap.size, 1, none⟩) q0 _).set5 q1 _ _ _ _ _
  · intro x hx
    rcases List.mem_append.1 hx with h | h
    · exact hD.strs x h
    · simp at h; subst h; exact hs
  · intro x hx
    rcases List.mem_append.1 hx with h | h
    · exact hD.ats x h
    · simp at h; subst h; exact hk
theorem d_write_n (D : Dk) (p q : Pl) (w : World) (hD : IsDk w D p q) (k : Int) (hk : -9223372036854775808 ≤ k ∧ k ≤ 9223372036854775807) (s : List UInt8) (hs : s.length ≤ 9223372036854775807) :
    Calls Try.prog 25 #[dval D p q, .int .i64 k, .string (bs s)] w fun e w' => RetDkN w.heap.size D p q (D.write k s) e w' ∧ Below w.heap.size w w' := by
  cases h1 : D.off with
  | true => exact d_write_off D p q w hD k s hs h1
  | false =>
    cases h2 : D.there k with
    | false => exact d_write_out D p q w hD k s hs h1 h2
    | true =>
      by_cases h3 : s.length = 64
      · by_cases h4 : D.fuse = 0
        · exact d_write_fuse D p q w hD k s hs h1 h2 h3 h4
        · by_cases h5 : k ∈ D.bad
          · exact d_write_bad D p q w hD k s hs h1 h2 h3 h4 h5
          · by_cases h6 : 4096 ≤ D.cache.length
            · exact d_write_many D p q w hD k s hs h1 h2 h3 h4 h5 h6
            · exact d_write_ok D p q w hD k hk s hs h1 h2 h3 h4 h5 (by omega)
      · exact d_write_size D p q w hD k s hs h1 h2 h3
theorem d_write (D : Dk) (p q : Pl) (w : World) (hD : IsDk w D p q) (k : Int) (hk : -9223372036854775808 ≤ k ∧ k ≤ 9223372036854775807) (s : List UInt8) (hs : s.length ≤ 9223372036854775807) :
    Calls Try.prog 25 #[dval D p q, .int .i64 k, .string (bs s)] w fun e w' => RetDk (D.write k s) e w' ∧ Below w.heap.size w w' :=
  (d_write_n D p q w hD k hk s hs).mono fun _ _ h => ⟨h.1.ret, h.2⟩
end Go.Proofs.Ytjpjpiejcpeepaa
