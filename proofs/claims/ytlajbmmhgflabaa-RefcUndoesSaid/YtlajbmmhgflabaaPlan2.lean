/- Package plan: a plan with a sector more. -/
import Derived.Test.YtlajbmmhgflabaaPlan1
set_option linter.unusedVariables false
namespace Go.Proofs.Ytlajbmmhgflabaa
open Go.RowKit Go.Shelf
attribute [local go_sem] bs_mk bs_append bs_extract bs_size bs_toList bs_get

set_option maxRecDepth 100000 in
theorem pl_set_outside (L : Pn) (p q : Pl) (w : World) (hL : IsPn w L p q) (k : Int) (s : List UInt8) (h1 : sectorOk k = false) :
    Calls Try.prog 84 #[pval L p q, .int .i64 k, .string (bs s)] w fun e w' => RetPn w.heap.size L p q (L.set k s) e w' ∧ Below w.heap.size w w' := by
  have Hw := hid (show L.set k s = (L, 10) by simp [Pn.set, h1])
  have ho := fun W => pl_outside k W
  rw [h1] at ho
  obtain ⟨A1, c1⟩ := p
  obtain ⟨A2, c2⟩ := q
  have hb0 := below_two w (.cells #[.slice A1 L.targets.length c1, .slice A2 L.data.length c2] 28) (.cells #[.slice none 0 0, .slice none 0 0] 28)
  go_enter Try.func84, Try.ntmps84
  go_wp2_with fail
  go_at_call 99
  refine (ho _).mono ?_
  rintro e w1 ⟨rfl, rfl⟩
  go_wp2_with fail
  rw [Hw.out]
  have yy := blk2 (Blk.new (w.alloc (.cells #[.slice A1 L.targets.length c1, .slice A2 L.data.length c2] 28)) 28 #[.slice A1 L.targets.length c1, .slice A2 L.data.length c2])
  simp only [World.size_alloc] at yy
  have hb1 := below_two w (.cells #[.slice A1 L.targets.length c1, .slice A2 L.data.length c2] 28) (.cells #[.slice A1 L.targets.length c1, .slice A2 L.data.length c2] 28)
  refine bodyPost_ret (v := .tuple #[pval L ⟨A1, c1⟩ ⟨A2, c2⟩, .int .i64 10]) (by simp [results, Try.results84, go_sem, yy]) rfl ?_
  exact ⟨⟨_, _, rfl, hL.below hb1, fun _ _ h => h⟩, hb1⟩
set_option maxRecDepth 100000 in
theorem pl_set_size (L : Pn) (p q : Pl) (w : World) (hL : IsPn w L p q) (k : Int) (s : List UInt8) (hs : s.length ≤ 9223372036854775807) (h1 : sectorOk k = true) (h2 : s.length ≠ 64) :
    Calls Try.prog 84 #[pval L p q, .int .i64 k, .string (bs s)] w fun e w' => RetPn w.heap.size L p q (L.set k s) e w' ∧ Below w.heap.size w w' := by
  have Hw := hid (show L.set k s = (L, 11) by simp [Pn.set, h1, h2])
  have ho := fun W => pl_outside k W
  rw [h1] at ho
  have n0 : ((s.length : Int) != 64) = true := by simp; omega
  obtain ⟨A1, c1⟩ := p
  obtain ⟨A2, c2⟩ := q
  go_enter Try.func84, Try.ntmps84
  go_wp2_with fail
  go_at_call 99
  refine (ho _).mono ?_
  rintro e w1 ⟨rfl, rfl⟩
  go_wp2_with fail
  rw [Hw.out]
  have yy := blk2 (Blk.new (w.alloc (.cells #[.slice A1 L.targets.length c1, .slice A2 L.data.length c2] 28)) 28 #[.slice A1 L.targets.length c1, .slice A2 L.data.length c2])
  simp only [World.size_alloc] at yy
  have hb1 := below_two w (.cells #[.slice A1 L.targets.length c1, .slice A2 L.data.length c2] 28) (.cells #[.slice A1 L.targets.length c1, .slice A2 L.data.length c2] 28)
  refine bodyPost_ret (v := .tuple #[pval L ⟨A1, c1⟩ ⟨A2, c2⟩, .int .i64 11]) (by simp [results, Try.results84, go_sem, yy]) rfl ?_
  exact ⟨⟨_, _, rfl, hL.below hb1, fun _ _ h => h⟩, hb1⟩
end Go.Proofs.Ytlajbmmhgflabaa
