/- SuperPlaces: an image's places are the document's, and they do not meet, and lie within: any geometry, any two clusters. The listed variables of unicode/utf8 start as the program's text lays them (a tied card). -/
import Derived.Test.YtkiokdphjfkocaaDoorSuper1
import Derived.Test.YtkiokdphjfkocaaDoorOpen
import Derived.Test.YtkiokdphjfkocaaDoorCards
import Derived.Test.YtkiokdphjfkocaaDoorTie
import Derived.ProofKit
import Derived.LaidMore
import Derived.Stop.Joined
import Derived.SevenTiedAt
set_option linter.unusedVariables false
namespace Go.Proofs.YtkiokdphjfkocaaDoor.superPlaces
open Go.RowKit Go.Shelf Go.WideShapes Go.ChangeShapes Go.ChangeAt Go.Joins
open Go.ChangeMaps (open_string shut_string)
attribute [local go_sem] bs_mk bs_append bs_extract bs_size bs_toList bs_get


theorem mixed_ : Tryd.prog.follows .mixedOrders = true := by kernel_rfl
set_option maxRecDepth 100000 in
theorem walk_bad (g h a b : Int) (hk : geomOk g h = false ∨ (geomOk g h = true ∧ (a < 0 ∨ (0 ≤ a ∧ b < 0) ∨ (0 ≤ a ∧ 0 ≤ b ∧ h ≤ a) ∨ (0 ≤ a ∧ 0 ≤ b ∧ a < h ∧ h ≤ b)))) (w : World) :
    Calls Tryd.prog 4 #[gval g h, .int .i64 a, .int .i64 b] w fun e w' => e = .returned (.bool true) ∧ Below w.heap.size w w' := by
  have hf := fun W => r4_fit g h W
  have hb := (Below.refl w.heap.size w).alloc (Nat.le_refl _) (.cells #[.int .i64 g, .int .i64 h] 23)
  have x0 := Blk.new w 23 #[.int .i64 g, .int .i64 h]
  rcases hk with hk | ⟨hk, h1 | ⟨h1, h2⟩ | ⟨h1, h2, h3⟩ | ⟨h1, h2, h3, h4⟩⟩
  ·
    rw [hk] at hf
    go_enter Tryd.func4, Tryd.ntmps4
    go_wp2_with fail
    go_at_call 8
    refine (hf _).mono ?_
    rintro e w1 ⟨rfl, hb1⟩
    have y1 := (x0.below hb1 x0.lt).cell 1
    go_wp2_with fail
    go_at_call 9
    refine (awake04 _).mono ?_
    rintro e w2 ⟨rfl, hb2⟩
    go_wp2_with fail
    go_ret
    exact ⟨rfl, bt (bt hb hb1) hb2⟩
  ·
    rw [hk] at hf
    go_enter Tryd.func4, Tryd.ntmps4
    go_wp2_with fail
    go_at_call 8
    refine (hf _).mono ?_
    rintro e w1 ⟨rfl, hb1⟩
    have y1 := (x0.below hb1 x0.lt).cell 1
    go_wp2_with fail
    go_at_call 9
    refine (awake04 _).mono ?_
    rintro e w2 ⟨rfl, hb2⟩
    go_wp2_with fail
    go_ret
    exact ⟨rfl, bt (bt hb hb1) hb2⟩
  ·
    rw [hk] at hf
    go_enter Tryd.func4, Tryd.ntmps4
    go_wp2_with fail
    go_at_call 8
    refine (hf _).mono ?_
    rintro e w1 ⟨rfl, hb1⟩
    have y1 := (x0.below hb1 x0.lt).cell 1
    go_wp2_with fail
    go_at_call 9
    refine (awake04 _).mono ?_
    rintro e w2 ⟨rfl, hb2⟩
    go_wp2_with fail
    go_ret
    exact ⟨rfl, bt (bt hb hb1) hb2⟩
  ·
    rw [hk] at hf
    go_enter Tryd.func4, Tryd.ntmps4
    go_wp2_with fail
    go_at_call 8
    refine (hf _).mono ?_
    rintro e w1 ⟨rfl, hb1⟩
    have y1 := (x0.below hb1 x0.lt).cell 1
    go_wp2_with fail
    go_at_call 9
    refine (awake04 _).mono ?_
    rintro e w2 ⟨rfl, hb2⟩
    go_wp2_with fail
    go_ret
    exact ⟨rfl, bt (bt hb hb1) hb2⟩
  ·
    rw [hk] at hf
    go_enter Tryd.func4, Tryd.ntmps4
    go_wp2_with fail
    go_at_call 8
    refine (hf _).mono ?_
    rintro e w1 ⟨rfl, hb1⟩
    have y1 := (x0.below hb1 x0.lt).cell 1
    go_wp2_with fail
    go_at_call 9
    refine (awake04 _).mono ?_
    rintro e w2 ⟨rfl, hb2⟩
    go_wp2_with fail
    go_ret
    exact ⟨rfl, bt (bt hb hb1) hb2⟩
set_option maxRecDepth 100000 in
set_option maxHeartbeats 1000000 in
theorem walk_ok (g h : Int) (a b : Nat) (hk : geomOk g h = true) (ha : (a : Int) < h) (hb0 : (b : Int) < h) (w : World) :
    Calls Tryd.prog 4 #[gval g h, .int .i64 a, .int .i64 b] w fun e w' => e = .returned (.bool true) ∧ Below w.heap.size w w' := by
  obtain ⟨g1, g2, g3, g4⟩ := geomOk_iff.1 hk
  have hf := fun W => r4_fit g h W
  rw [hk] at hf
  have hS := fun W => s_sectors g h W
  rw [hk] at hS
  simp only [if_true] at hS
  have hAa := fun W => s_at a (by omega) (by omega) W
  have hAa4 := fun W => r4_at a (by omega) (by omega) W
  have hAb := fun W => s_at b (by omega) (by omega) W
  have hA0 := fun W => s_at 0 (by omega) (by omega) W
  have hRa := fun W => s_ref a (by omega) W
  have hRa4 := fun W => r4_ref a (by omega) W
  have hRb := fun W => s_ref b (by omega) W
  have hcase : (a = b) ∨ (b < a ∧ (a : Int) / 32 ≠ (b : Int) / 32) ∨ (a < b ∧ (a : Int) / 32 ≠ (b : Int) / 32) ∨ (b < a ∧ (a : Int) / 32 = (b : Int) / 32 ∧ b % 32 < a % 32) ∨ (a < b ∧ (a : Int) / 32 = (b : Int) / 32 ∧ a % 32 < b % 32) := by omega
  have q1 : 0 ≤ (a : Int) / 32 ∧ (a : Int) / 32 ≤ 7 := by omega
  have q2 : 0 ≤ (b : Int) / 32 ∧ (b : Int) / 32 ≤ 7 := by omega
  have q3 : a % 32 ≤ 31 := by omega
  have q4 : b % 32 ≤ 31 := by omega
  rw [show (96 : Int) + 2 * 0 = 96 by omega] at hA0
  clear hk
  have hab : a = b → (a : Int) / 32 = (b : Int) / 32 ∧ a % 32 = b % 32 := by rintro rfl; exact ⟨rfl, rfl⟩
  generalize (a : Int) / 32 = A at *
  generalize (b : Int) / 32 = B at *
  generalize a % 32 = r at *
  generalize b % 32 = s at *
  have hb := (Below.refl w.heap.size w).alloc (Nat.le_refl _) (.cells #[.int .i64 g, .int .i64 h] 23)
  have x0 := Blk.new w 23 #[.int .i64 g, .int .i64 h]
  obtain ⟨q1, q1'⟩ := q1
  obtain ⟨q2, q2'⟩ := q2
  go_enter Tryd.func4, Tryd.ntmps4
  go_wp2_with fail
  go_at_call 8
  refine (hf _).mono ?_
  rintro e w1 ⟨rfl, hw1⟩
  have x1 := x0.below hw1 x0.lt
  have b1 := bt hb hw1
  have y1 := x1.cell 1
  go_wp2_with fail
  go_at_call 13
  refine (hRa _).mono ?_
  rintro e w2 ⟨rfl, hw2⟩
  have b2 := bt b1 hw2
  go_wp2_with fail
  go_at_call 14
  refine (hRa4 _).mono ?_
  rintro e w3 ⟨rfl, hw3⟩
  have b3 := bt b2 hw3
  go_wp2_with fail
  go_at_call 13
  refine (hRb _).mono ?_
  rintro e w4 ⟨rfl, hw4⟩
  have b4 := bt b3 hw4
  go_wp2_with fail
  go_at_call 15
  refine (s_journal _).mono ?_
  rintro e w5 ⟨rfl, hw5⟩
  have b5 := bt b4 hw5
  go_wp2_with fail
  go_at_call 16
  refine (r4_journal _).mono ?_
  rintro e w6 ⟨rfl, hw6⟩
  have b6 := bt b5 hw6
  go_wp2_with fail
  go_at_call 12
  refine (hAa _).mono ?_
  rintro e w7 ⟨rfl, hw7⟩
  have b7 := bt b6 hw7
  go_wp2_with fail
  go_at_call 17
  refine (hAa4 _).mono ?_
  rintro e w8 ⟨rfl, hw8⟩
  have b8 := bt b7 hw8
  have x2 := x1.below hw2 x1.lt
  have x3 := x2.below hw3 x2.lt
  have x4 := x3.below hw4 x3.lt
  have x5 := x4.below hw5 x4.lt
  have x6 := x5.below hw6 x5.lt
  have x7 := x6.below hw7 x6.lt
  have x8 := x7.below hw8 x7.lt
  clear hw1 hw2 hw3 hw4 hw5 hw6 hw7 hw8 x0 x1 x2 x3 x4 x5 x6 x7 b1 b2 b3 b4 b5 b6 b7 y1 hb
  have X0 := fun e : Ext w8 => e.cell (x8.cell 0)
  have X1 := fun e : Ext w8 => e.cell (x8.cell 1)
  have c0 := fun e : Ext w8 => hA0 e.world
  have c1 := fun e : Ext w8 => hAa e.world
  have c2 := fun e : Ext w8 => hAb e.world
  have c3 := fun e : Ext w8 => hS e.world
  have c4 := fun e : Ext w8 => awake04 e.world
  clear hA0 hAa hAb hS hRa hRa4 hRb hAa4 hf
  rcases hcase with h1 | ⟨h1, h2⟩ | ⟨h1, h2⟩ | ⟨h1, h2, h3⟩ | ⟨h1, h2, h3⟩
  · obtain ⟨e1, e2⟩ := hab h1
    subst h1
    subst e1
    subst e2
    clear hab
    have f3 : decide ((87 : Int) ≤ 87 + A) = true := by simp; omega
    have f4 : decide ((87 : Int) + A < 96) = true := by simp; omega
    have f5 : decide ((0 : Int) ≤ 2 * (r : Int)) = true := by simp; omega
    have f6 : decide (2 * (r : Int) + 2 ≤ 64) = true := by simp; omega
    have f7 : decide ((96 : Int) + 2 * a + 2 ≤ 96 + 2 * h) = true := by simp; omega
    go_wp2_with fail
    simp only [List.append_eq, List.cons_append, List.nil_append]
    refine wp_region_ext mixed_ (by kernel_rfl) ?_
    repeat (go_big_quiet_step (first | (go_at_call 12; with_reducible exact ext_of (c0 _)) | (go_at_call 12; with_reducible exact ext_of (c1 _)) | (go_at_call 12; with_reducible exact ext_of (c2 _)) | (go_at_call 11; with_reducible exact ext_of (c3 _)) | (go_at_call 9; with_reducible exact ext_of (c4 _))))
    refine wpQuiet_nil ?_
    rintro _ ⟨⟨w9, hb9⟩, rfl⟩
    go_wp2_with fail
    go_ret
    exact ⟨rfl, bt b8 hb9⟩
  · clear hab
    have n1 : (A == B) = false := by simpa using h2
    have n2 : ((87 + A : Int) == 87 + B) = false := by simp; exact h2
    have n3 : (A != B) = true := by simpa using h2
    have n4 : ((87 + A : Int) != 87 + B) = true := by simp; exact h2
    have n5 : ((a : Int) == b) = false := by simp; omega
    have n6 : ¬ (a : Int) = b := by omega
    have f1 : decide ((b : Int) ≤ a) = true := by simp; omega
    have f0 : decide (b ≤ a) = true := by simp; omega
    have f3 : decide ((87 : Int) ≤ 87 + A) = true := by simp; omega
    have f4 : decide ((87 : Int) + A < 96) = true := by simp; omega
    have f5 : decide ((0 : Int) ≤ 2 * (r : Int)) = true := by simp; omega
    have f6 : decide (2 * (r : Int) + 2 ≤ 64) = true := by simp; omega
    have f7 : decide ((96 : Int) + 2 * a + 2 ≤ 96 + 2 * h) = true := by simp; omega
    go_wp2_with fail
    simp only [List.append_eq, List.cons_append, List.nil_append]
    refine wp_region_ext mixed_ (by kernel_rfl) ?_
    repeat (go_big_quiet_step (first | (go_at_call 12; with_reducible exact ext_of (c0 _)) | (go_at_call 12; with_reducible exact ext_of (c1 _)) | (go_at_call 12; with_reducible exact ext_of (c2 _)) | (go_at_call 11; with_reducible exact ext_of (c3 _)) | (go_at_call 9; with_reducible exact ext_of (c4 _))))
    refine wpQuiet_nil ?_
    rintro _ ⟨⟨w9, hb9⟩, rfl⟩
    go_wp2_with fail
    go_ret
    exact ⟨rfl, bt b8 hb9⟩
  · clear hab
    have n1 : (A == B) = false := by simpa using h2
    have n2 : ((87 + A : Int) == 87 + B) = false := by simp; exact h2
    have n3 : (A != B) = true := by simpa using h2
    have n4 : ((87 + A : Int) != 87 + B) = true := by simp; exact h2
    have n5 : ((a : Int) == b) = false := by simp; omega
    have n6 : ¬ (a : Int) = b := by omega
    have f1 : decide ((b : Int) ≤ a) = false := by simp; omega
    have f0 : decide (b ≤ a) = false := by simp; omega
    have f2 : decide ((96 : Int) + 2 * a + 2 ≤ 96 + 2 * b) = true := by simp; omega
    have f3 : decide ((87 : Int) ≤ 87 + A) = true := by simp; omega
    have f4 : decide ((87 : Int) + A < 96) = true := by simp; omega
    have f5 : decide ((0 : Int) ≤ 2 * (r : Int)) = true := by simp; omega
    have f6 : decide (2 * (r : Int) + 2 ≤ 64) = true := by simp; omega
    have f7 : decide ((96 : Int) + 2 * a + 2 ≤ 96 + 2 * h) = true := by simp; omega
    go_wp2_with fail
    simp only [List.append_eq, List.cons_append, List.nil_append]
    refine wp_region_ext mixed_ (by kernel_rfl) ?_
    repeat (go_big_quiet_step (first | (go_at_call 12; with_reducible exact ext_of (c0 _)) | (go_at_call 12; with_reducible exact ext_of (c1 _)) | (go_at_call 12; with_reducible exact ext_of (c2 _)) | (go_at_call 11; with_reducible exact ext_of (c3 _)) | (go_at_call 9; with_reducible exact ext_of (c4 _))))
    refine wpQuiet_nil ?_
    rintro _ ⟨⟨w9, hb9⟩, rfl⟩
    go_wp2_with fail
    go_ret
    exact ⟨rfl, bt b8 hb9⟩
  · clear hab
    subst h2
    have n7 : ((2 * (r : Int)) == 2 * (s : Int)) = false := by simp; omega
    have n8 : ((r : Int) == (s : Int)) = false := by simp; omega
    have n5 : ((a : Int) == b) = false := by simp; omega
    have n6 : ¬ (a : Int) = b := by omega
    have f1 : decide ((b : Int) ≤ a) = true := by simp; omega
    have f0 : decide (b ≤ a) = true := by simp; omega
    have f3 : decide ((87 : Int) ≤ 87 + A) = true := by simp; omega
    have f4 : decide ((87 : Int) + A < 96) = true := by simp; omega
    have f5 : decide ((0 : Int) ≤ 2 * (r : Int)) = true := by simp; omega
    have f6 : decide (2 * (r : Int) + 2 ≤ 64) = true := by simp; omega
    have f7 : decide ((96 : Int) + 2 * a + 2 ≤ 96 + 2 * h) = true := by simp; omega
    have f8 : decide (2 * (r : Int) + 2 ≤ 2 * (s : Int)) = false := by simp; omega
    have f9 : decide (2 * (s : Int) + 2 ≤ 2 * (r : Int)) = true := by simp; omega
    go_wp2_with fail
    simp only [List.append_eq, List.cons_append, List.nil_append]
    refine wp_region_ext mixed_ (by kernel_rfl) ?_
    repeat (go_big_quiet_step (first | (go_at_call 12; with_reducible exact ext_of (c0 _)) | (go_at_call 12; with_reducible exact ext_of (c1 _)) | (go_at_call 12; with_reducible exact ext_of (c2 _)) | (go_at_call 11; with_reducible exact ext_of (c3 _)) | (go_at_call 9; with_reducible exact ext_of (c4 _))))
    refine wpQuiet_nil ?_
    rintro _ ⟨⟨w9, hb9⟩, rfl⟩
    go_wp2_with fail
    go_ret
    exact ⟨rfl, bt b8 hb9⟩
  · clear hab
    subst h2
    have n7 : ((2 * (r : Int)) == 2 * (s : Int)) = false := by simp; omega
    have n8 : ((r : Int) == (s : Int)) = false := by simp; omega
    have n5 : ((a : Int) == b) = false := by simp; omega
    have n6 : ¬ (a : Int) = b := by omega
    have f1 : decide ((b : Int) ≤ a) = false := by simp; omega
    have f0 : decide (b ≤ a) = false := by simp; omega
    have f2 : decide ((96 : Int) + 2 * a + 2 ≤ 96 + 2 * b) = true := by simp; omega
    have f3 : decide ((87 : Int) ≤ 87 + A) = true := by simp; omega
    have f4 : decide ((87 : Int) + A < 96) = true := by simp; omega
    have f5 : decide ((0 : Int) ≤ 2 * (r : Int)) = true := by simp; omega
    have f6 : decide (2 * (r : Int) + 2 ≤ 64) = true := by simp; omega
    have f7 : decide ((96 : Int) + 2 * a + 2 ≤ 96 + 2 * h) = true := by simp; omega
    have f8 : decide (2 * (r : Int) + 2 ≤ 2 * (s : Int)) = true := by simp; omega
    go_wp2_with fail
    simp only [List.append_eq, List.cons_append, List.nil_append]
    refine wp_region_ext mixed_ (by kernel_rfl) ?_
    repeat (go_big_quiet_step (first | (go_at_call 12; with_reducible exact ext_of (c0 _)) | (go_at_call 12; with_reducible exact ext_of (c1 _)) | (go_at_call 12; with_reducible exact ext_of (c2 _)) | (go_at_call 11; with_reducible exact ext_of (c3 _)) | (go_at_call 9; with_reducible exact ext_of (c4 _))))
    refine wpQuiet_nil ?_
    rintro _ ⟨⟨w9, hb9⟩, rfl⟩
    go_wp2_with fail
    go_ret
    exact ⟨rfl, bt b8 hb9⟩
theorem walk (w : World) (g h : Int) (_ : (Lit.int .i64 g).wf = true) (_ : (Lit.int .i64 h).wf = true) (a : Int) (_ : (Lit.int .i64 a).wf = true) (b : Int) (_ : (Lit.int .i64 b).wf = true) :
    Calls Tryd.prog 4 #[gval g h, .int .i64 a, .int .i64 b] w fun e w' => e = .returned (.bool true) ∧ Below w.heap.size w w' := by
  by_cases hk : geomOk g h = true
  · by_cases h1 : 0 ≤ a ∧ 0 ≤ b ∧ a < h ∧ b < h
    · obtain ⟨h1, h2, h3, h4⟩ := h1
      obtain ⟨a, rfl⟩ := Int.eq_ofNat_of_zero_le h1
      obtain ⟨b, rfl⟩ := Int.eq_ofNat_of_zero_le h2
      exact walk_ok g h a b hk h3 h4 w
    · exact walk_bad g h a b (.inr ⟨hk, by omega⟩) w
  · exact walk_bad g h a b (.inl (by simpa using hk)) w
/-! ### The row: the listed variables lie in the witness's world as the condition says -/
theorem own : ownKnob Tryd.prog.godebug = none := by kernel_rfl
/-- Utf8's table of first bytes, cell by cell. -/
def firstCells : Array Value := match Go.Pinned.utf8First with | .agg l => (l.map fun | .lit (.int k m) => Value.int k m | _ => undef).toArray | _ => #[]
/-- The heap that the door's own run leaves, with the pinned table laid. -/
noncomputable def laidWorld (os : Os) : World :=
  let w0 := World.doorLaid Tryd.prog 4000 os
  { w0 with heap := w0.heap.modify 0 fun | .cells _ t fr => .cells firstCells t fr | o => o }
set_option maxRecDepth 100000 in
theorem door_met (os : Os) (args : Array Value) : laidMetH Tryd.prog Rows.superPlacesRow.laid ((laidWorld os).forCall (fun _ _ => 0) ⟨#[], args, []⟩).memory :=
  laidMetH_of_parts3 (fuel := 8) (laidMet_of_run' 8 (by kernel_rfl) (by kernel_rfl)) (by kernel_rfl) (by kernel_rfl)
set_option maxRecDepth 100000 in
theorem lifted (os : Os) (started : os.Started) (H : Type) (enc : TypeId × Value → H) :
    ReturnsInHanded {} Tryd.checked os 4 .any (fun w args => (Rows.superPlacesSpec.pre enc Tryd.prog Tryd.f4 [] false w args ∧ laidMetH Tryd.prog Rows.superPlacesRow.laid w) ∧ sizedMet enc Tryd.prog Tryd.f4 (OpenSpec.ofChange Rows.superPlacesSpec) false w args)
      (Rows.superPlacesSpec.post enc Tryd.prog Tryd.f4 false true false false) := by
  refine returnsInHanded_of_change_and (C := Tryd.checked) (X := fun w _ => laidMetH Tryd.prog Rows.superPlacesRow.laid w) (fun _ _ _ hh h => h.of_heap hh) own started (by kernel_rfl) Tryd.func4
    (ChangeSpec.witness_shaped (enc := enc) (C := Tryd.checked) (os := os) (X := fun w _ => laidMetH Tryd.prog Rows.superPlacesRow.laid w) false (laidWorld os) #[.agg #[.int .i64 0, .int .i64 0], .int .i64 0, .int .i64 0] 8 rfl (World.shaped_of_RefB (by kernel_rfl) (by kernel_rfl)) (by kernel_rfl) (by kernel_rfl) (by kernel_rfl) (door_met os _)) ?_
  intro W base args ds gs before hval0 hW _ _ hL _
  have hval : ∀ (j : Nat) t v, Tryd.f4.params[j]? = some t → args[j]? = some v → Value.okWide Tryd.prog W .any base t v := hval0
  have hW' := hW
  obtain ⟨p, q, hA0, hV, rfl, hfz, hnd⟩ := hW
  have hA : DataW.TrodAll enc Tryd.prog W 0 (fun _ => true) true Tryd.f4.params.toList args.toList ds p := hA0
  have hAk := hA
  rw [Tryd.params4] at hA hval
  obtain ⟨v0, vs0, d0, ds0, p0, q0, hargs, rfl, rfl, h0, r0⟩ := trodAll_cons hA
  obtain ⟨v1, vs1, d1, ds1, p1, q1, rfl, rfl, rfl, h1, r1⟩ := trodAll_cons r0
  obtain ⟨v2, vs2, d2, ds2, p2, q2, rfl, rfl, rfl, h2, r2⟩ := trodAll_cons r1
  obtain ⟨rfl, rfl, rfl⟩ := trodAll_nil r2
  obtain rfl : args = #[v0, v1, v2] := by cases args; simp_all
  obtain ⟨rfl, rfl⟩ := trodVars_none hV
  obtain ⟨u0, x0, y0, z0, m0, rfl, _, _, t0, s0⟩ := open_agg2 Tryd.underlying23 (by kernel_rfl) (by kernel_rfl) (hval 0 23 v0 rfl rfl) h0
  obtain ⟨g0, e0, _, w0⟩ := DataW.trod_int Tryd.underlying3 t0
  obtain ⟨k0, f0, _, v0⟩ := DataW.trod_int Tryd.underlying3 s0
  injection e0 with e0
  injection f0 with f0
  subst e0; subst f0
  obtain ⟨a1, rfl, rfl, rfl, w1⟩ := open_int Tryd.underlying3 (hval 1 3 v1 rfl rfl) h1
  obtain ⟨a2, rfl, rfl, rfl, w2⟩ := open_int Tryd.underlying3 (hval 2 3 v2 rfl rfl) h2
  clear hA0 hval0
  simp only [List.append_nil] at hW'
  refine (walk W g0 k0 w0 v0 a1 w1 a2 w2).mono fun e W' ⟨he, hb⟩ => ?_
  subst he
  exact ⟨_, rfl, post_of_below (pa := _) (pv := []) hW' (fun _ _ _ => (trodAll_cons_mk (shut_bool Tryd.underlying4 _) trodAll_mk0)) (fun sp hsp => trodAll_stays (by kernel_rfl) hb (by kernel_rfl) hAk (fun x hx => hW'.lt x (by simpa using hx)) (fun x hx => hsp x (by simpa using hx))) (fun _ _ => rfl) (by simp) hb (ok_one (by kernel_rfl) rfl (okWide_bool_mk Tryd.underlying4 _))⟩
theorem row_ : Rows.SuperPlacesSaid :=
  OpenClaim.holds_of_wide 4 Tryd.f4 rfl rfl rfl rfl rfl rfl rfl ⟨rfl, rfl, rfl, rfl, rfl⟩ rfl rfl rfl rfl rfl (by kernel_rfl) Tryd.func4 (by kernel_rfl)
    (of_decide_eq_true (by kernel_rfl)) (by unfold Func.isWrapper; first | (rw [if_pos (by decide +kernel)]; kernel_rfl) | (rw [if_neg (by decide +kernel)]; exact ⟨rfl, rfl⟩))
    (fun os started H enc _ => lifted os started H enc)
/-- The statement: the tied card. -/
theorem proved : Rows.SuperPlacesCardSaid :=
  Claim7.holds_tied_plain_at .later [] [.data, .pinned] true (true, "b795209f8e7f0a9d5cc7c2730c89a80d3d8e1f435cbe53d2da0227eaffed61d6") false
    row_ (fun _ h => by cases h) (by kernel_rfl) (fun _ h => by cases h) superPlaces_row_tie rfl ⟨rfl, rfl⟩ (by kernel_rfl) rfl
    (fun f fn hf hfn => by
      obtain rfl : f = 4 := Option.some.inj ((show Tryd.prog.funcNamed "cofferdam/cofferdamlaw04.SuperPlaces" = some 4 by kernel_rfl).symm.trans hf) |>.symm
      obtain rfl : fn = Tryd.f4 := (Option.some.inj (Tryd.func4.symm.trans hfn)).symm
      exact ⟨by kernel_rfl, fun j t ht => by
        rw [Tryd.params4] at ht
        have hm : t ∈ [23, 3] := by have := Array.mem_of_getElem? ht; simp at this ⊢; omega
        have hall : ([23, 3].all fun u => !Tryd.prog.wantsStandIn u) = true := by kernel_rfl
        exact (show Tryd.prog.wantsStandIn t = false by simpa using List.all_eq_true.1 hall t hm)⟩)
    (by kernel_rfl)
#print axioms proved
end Go.Proofs.YtkiokdphjfkocaaDoor.superPlaces
