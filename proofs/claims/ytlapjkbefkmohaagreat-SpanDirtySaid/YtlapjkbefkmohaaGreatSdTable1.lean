/- Package table and the document's ref11: which entries may be, and where they are. -/
import Derived.Test.YtlapjkbefkmohaaGreatSdRefcs
import Derived.Test.YtlapjkbefkmohaaGreatSdPointPlain
set_option linter.unusedVariables false
namespace Go.Proofs.YtlapjkbefkmohaaGreat
open Go.RowKit Go.Shelf
attribute [local go_sem] bs_mk bs_append bs_extract bs_size bs_toList bs_get
abbrev eval2 (K A : Int) : Value := .agg #[.int .i64 K, .int .i64 A]

theorem t_outside_in (k : Int) (h0 : 0 ≤ k) (h1 : k < 256) (w : World) : Calls Tryz.prog 123 #[.int .i64 k] w fun e w' => e = .returned (.bool false) ∧ Below w.heap.size w w' := by
 go_enter Tryz.func123, Tryz.ntmps123
 go_wp2_with fail
 go_ret
 exact ⟨by simp; omega, Below.refl _ _⟩
theorem t_outside_out (k : Int) (h : k < 0 ∨ 256 ≤ k) (w : World) : Calls Tryz.prog 123 #[.int .i64 k] w fun e w' => e = .returned (.bool true) ∧ Below w.heap.size w w' := by
 by_cases h0 : k < 0
 · go_enter Tryz.func123, Tryz.ntmps123
   go_wp2_with fail
   go_ret
   exact ⟨rfl, Below.refl _ _⟩
 · have h1 : 256 ≤ k := by omega
   clear h
   go_enter Tryz.func123, Tryz.ntmps123
   go_wp2_with fail
   go_ret
   exact ⟨rfl, Below.refl _ _⟩
theorem t_outside (k : Int) (w : World) : Calls Tryz.prog 123 #[.int .i64 k] w fun e w' => e = .returned (.bool (decide (k < 0 ∨ 256 ≤ k))) ∧ Below w.heap.size w w' := by
 by_cases h : k < 0 ∨ 256 ≤ k
 · rw [decide_eq_true h]; exact t_outside_out k h w
 · rw [decide_eq_false h]; exact t_outside_in k (by omega) (by omega) w
theorem t11_cluster_in (k : Int) (h0 : 0 ≤ k) (h1 : k < 256) (w : World) : Calls Tryz.prog 94 #[.int .i64 k] w fun e w' => e = .returned (.bool true) ∧ Below w.heap.size w w' := by
 go_enter Tryz.func94, Tryz.ntmps94
 go_wp2_with fail
 go_ret
 exact ⟨rfl, Below.refl _ _⟩
theorem t11_cluster_out (k : Int) (h : k < 0 ∨ 256 ≤ k) (w : World) : Calls Tryz.prog 94 #[.int .i64 k] w fun e w' => e = .returned (.bool false) ∧ Below w.heap.size w w' := by
 by_cases h0 : k < 0
 · go_enter Tryz.func94, Tryz.ntmps94
   go_wp2_with fail
   go_ret
   exact ⟨rfl, Below.refl _ _⟩
 · have h1 : 256 ≤ k := by omega
   clear h
   go_enter Tryz.func94, Tryz.ntmps94
   go_wp2_with fail
   go_ret
   exact ⟨by simp; omega, Below.refl _ _⟩
theorem t11_cluster (k : Int) (w : World) : Calls Tryz.prog 94 #[.int .i64 k] w fun e w' => e = .returned (.bool (!decide (k < 0 ∨ 256 ≤ k))) ∧ Below w.heap.size w w' := by
 by_cases h : k < 0 ∨ 256 ≤ k
 · rw [decide_eq_true h]; exact t11_cluster_out k h w
 · rw [decide_eq_false h]; exact t11_cluster_in k (by omega) (by omega) w
theorem t_entry (K A : Int) (w : World) : Calls Tryz.prog 122 #[eval2 K A] w fun e w' => e = .returned (.bool (Pn.entOk K A)) ∧ Below w.heap.size w w' := by
 have hB := Below.refl w.heap.size w
 have x := Blk.new w 73 #[.int .i64 K, .int .i64 A]
 have xk := blk2 x
 have hB_1 := hB.alloc hB.size (.cells #[.int .i64 K, .int .i64 A] 73)
 by_cases h1 : K = 1
 · subst h1
   have Hw := hid (show Pn.entOk 1 A = !decide (A < 0 ∨ 256 ≤ A) by rw [Pn.entOk, if_pos rfl, Bool.eq_iff_iff]; simp)
   have ho := t_outside A
   generalize decide (A < 0 ∨ 256 ≤ A) = b at ho Hw
   go_enter Tryz.func122, Tryz.ntmps122
   go_wp2_with fail
   go_at_call 123
   refine ((ho _)).mono ?_
   rintro e w1 ⟨rfl, hb1⟩
   replace hB := bt hB_1 hb1
   replace x := x.below hb1 x.lt
   replace xk := blk2 x
   clear hB_1
   go_wp2_with fail
   go_ret
   exact ⟨by rw [Hw.out]; rfl, hB⟩
 · have n1 : (K == 1) = false := by simpa using h1
   by_cases h2 : K = 0
   · subst h2
     have Hw := hid (show Pn.entOk 0 A = decide (A = 0) by simp [Pn.entOk])
     go_enter Tryz.func122, Tryz.ntmps122
     go_wp2_with fail
     go_ret
     exact ⟨by rw [Hw.out]; rfl, hB_1⟩
   · have n2 : (K == 0) = false := by simpa using h2
     by_cases h3 : K = 2
     · subst h3
       have Hw := hid (show Pn.entOk 2 A = decide (A = 0) by simp [Pn.entOk])
       go_enter Tryz.func122, Tryz.ntmps122
       go_wp2_with fail
       go_ret
       exact ⟨by rw [Hw.out]; rfl, hB_1⟩
     · have n3 : (K == 2) = false := by simpa using h3
       have Hw := hid (show Pn.entOk K A = false by simp [Pn.entOk, h1, h2, h3])
       clear h1 h2 h3
       go_enter Tryz.func122, Tryz.ntmps122
       go_wp2_with fail
       go_ret
       exact ⟨by rw [Hw.out]; rfl, hB_1⟩
theorem t11_entry (K A : Int) (w : World) : Calls Tryz.prog 85 #[eval2 K A] w fun e w' => e = .returned (.bool (Pn.entOk K A)) ∧ Below w.heap.size w w' := by
 have hB := Below.refl w.heap.size w
 have x := Blk.new w 73 #[.int .i64 K, .int .i64 A]
 have xk := blk2 x
 have hB_1 := hB.alloc hB.size (.cells #[.int .i64 K, .int .i64 A] 73)
 by_cases h1 : K = 1
 · subst h1
   have Hw := hid (show Pn.entOk 1 A = !decide (A < 0 ∨ 256 ≤ A) by rw [Pn.entOk, if_pos rfl, Bool.eq_iff_iff]; simp)
   have ho := t11_cluster A
   rw [← Hw.out] at ho
   clear Hw
   go_enter Tryz.func85, Tryz.ntmps85
   go_wp2_with fail
   go_at_call 94
   refine ((ho _)).mono ?_
   rintro e w1 ⟨rfl, hb1⟩
   replace hB := bt hB_1 hb1
   replace x := x.below hb1 x.lt
   replace xk := blk2 x
   clear hB_1
   go_wp2_with fail
   go_ret
   exact ⟨rfl, hB⟩
 · have n1 : (K == 1) = false := by simpa using h1
   by_cases h2 : K = 0
   · subst h2
     have Hw := hid (show Pn.entOk 0 A = decide (A = 0) by simp [Pn.entOk])
     go_enter Tryz.func85, Tryz.ntmps85
     go_wp2_with fail
     go_ret
     exact ⟨by rw [Hw.out]; rfl, hB_1⟩
   · have n2 : (K == 0) = false := by simpa using h2
     by_cases h3 : K = 2
     · subst h3
       have Hw := hid (show Pn.entOk 2 A = decide (A = 0) by simp [Pn.entOk])
       go_enter Tryz.func85, Tryz.ntmps85
       go_wp2_with fail
       go_ret
       exact ⟨by rw [Hw.out]; rfl, hB_1⟩
     · have n3 : (K == 2) = false := by simpa using h3
       have Hw := hid (show Pn.entOk K A = false by simp [Pn.entOk, h1, h2, h3])
       clear h1 h2 h3
       go_enter Tryz.func85, Tryz.ntmps85
       go_wp2_with fail
       go_ret
       exact ⟨by rw [Hw.out]; rfl, hB_1⟩
theorem t_place_no (t i : Int) (h : Pn.refused t i) (w : World) : Calls Tryz.prog 119 #[.int .i64 t, .int .i64 i] w fun e w' => e = .returned (.tuple #[.int .i64 0, .int .i64 0, .int .i64 10]) ∧ Below w.heap.size w w' := by
 by_cases h1 : t < 0 ∨ 256 ≤ t
 · have ho := fun W => t_outside_out t h1 W
   clear h h1
   go_enter Tryz.func119, Tryz.ntmps119
   go_wp2_with (go_at_call 123; refine (ho _).mono ?_; rintro e w1 ⟨rfl, hb1⟩)
   go_ret3
   exact ⟨rfl, hb1⟩
 · have ho := fun W => t_outside_in t (by omega) (by omega) W
   have h2 := h.resolve_left h1
   by_cases h3 : i < 0
   · clear h h1 h2
     go_enter Tryz.func119, Tryz.ntmps119
     go_wp2_with (go_at_call 123; refine (ho _).mono ?_; rintro e w1 ⟨rfl, hb1⟩)
     go_ret3
     exact ⟨rfl, hb1⟩
   · have h4 : 16 ≤ i := by omega
     clear h h1 h2
     go_enter Tryz.func119, Tryz.ntmps119
     go_wp2_with (go_at_call 123; refine (ho _).mono ?_; rintro e w1 ⟨rfl, hb1⟩)
     go_ret3
     exact ⟨rfl, hb1⟩
theorem t_place_yes (t i : Int) (h : ¬ Pn.refused t i) (w : World) : Calls Tryz.prog 119 #[.int .i64 t, .int .i64 i] w fun e w' => e = .returned (.tuple #[.int .i64 (Pn.entAt t i), .int .i64 (Pn.entOff i), .int .i64 0]) ∧ Below w.heap.size w w' := by
 unfold Pn.refused at h
 have ho := fun W => t_outside_in t (by omega) (by omega) W
 have hs := fun W => s_at t (by omega) (by omega) W
 have h0 : 0 ≤ i := by omega
 have h1 : i < 16 := by omega
 have h2 : 0 ≤ t := by omega
 have h3 : t < 256 := by omega
 have e1 := hid (show Pn.entAt t i = 96 + 2 * t + i * 8 / 64 by unfold Pn.entAt; omega)
 have e2 := hid (show Pn.entOff i = i * 8 % 64 by unfold Pn.entOff; omega)
 clear h
 go_enter Tryz.func119, Tryz.ntmps119
 go_wp2_with (first | (go_at_call 123; refine (ho _).mono ?_; rintro e w1 ⟨rfl, hb1⟩) | (go_at_call 124; refine (hs _).mono ?_; rintro e w2 ⟨rfl, hb2⟩))
 go_ret3
 rw [e1.out, e2.out]
 exact ⟨rfl, bt hb1 hb2⟩
theorem t11_refused (t i : Int) (w : World) : Calls Tryz.prog 83 #[.int .i64 t, .int .i64 i] w fun e w' => e = .returned (.bool (decide (Pn.refused t i))) ∧ Below w.heap.size w w' := by
 by_cases h1 : t < 0 ∨ 256 ≤ t
 · have ho := fun W => t11_cluster_out t h1 W
   rw [decide_eq_true (show Pn.refused t i from .inl h1)]
   clear h1
   go_enter Tryz.func83, Tryz.ntmps83
   go_wp2_with (go_at_call 94; refine (ho _).mono ?_; rintro e w1 ⟨rfl, hb1⟩)
   go_ret
   exact ⟨rfl, hb1⟩
 · have ho := fun W => t11_cluster_in t (by omega) (by omega) W
   by_cases h3 : i < 0
   · rw [decide_eq_true (show Pn.refused t i from .inr (.inl h3))]
     clear h1
     go_enter Tryz.func83, Tryz.ntmps83
     go_wp2_with (go_at_call 94; refine (ho _).mono ?_; rintro e w1 ⟨rfl, hb1⟩)
     go_ret
     exact ⟨rfl, hb1⟩
   · by_cases h4 : 16 ≤ i
     · rw [decide_eq_true (show Pn.refused t i from .inr (.inr h4))]
       clear h1
       go_enter Tryz.func83, Tryz.ntmps83
       go_wp2_with (go_at_call 94; refine (ho _).mono ?_; rintro e w1 ⟨rfl, hb1⟩)
       go_ret
       exact ⟨rfl, hb1⟩
     · rw [decide_eq_false (show ¬ Pn.refused t i from fun h => by unfold Pn.refused at h; omega)]
       have h5 : i < 16 := by omega
       have h6 : 0 ≤ i := by omega
       clear h1 h3 h4
       go_enter Tryz.func83, Tryz.ntmps83
       go_wp2_with (go_at_call 94; refine (ho _).mono ?_; rintro e w1 ⟨rfl, hb1⟩)
       go_ret
       exact ⟨by simp; omega, hb1⟩
theorem t11_place (t i : Int) (h : ¬ Pn.refused t i) (w : World) : Calls Tryz.prog 84 #[.int .i64 t, .int .i64 i] w fun e w' => e = .returned (.tuple #[.int .i64 (Pn.entAt t i), .int .i64 (Pn.entOff i)]) ∧ Below w.heap.size w w' := by
 unfold Pn.refused at h
 have hs := fun W => r4_at t (by omega) (by omega) W
 have h0 : 0 ≤ i := by omega
 have h1 : i < 16 := by omega
 have h2 : 0 ≤ t := by omega
 have h3 : t < 256 := by omega
 have e1 := hid (show Pn.entAt t i = 96 + 2 * t + i / 8 by unfold Pn.entAt; omega)
 have e2 := hid (show Pn.entOff i = i % 8 * 8 by unfold Pn.entOff; omega)
 clear h
 go_enter Tryz.func84, Tryz.ntmps84
 go_wp2_with (go_at_call 38; refine (hs _).mono ?_; rintro e w2 ⟨rfl, hb2⟩)
 go_ret2
 rw [e1.out, e2.out]
 exact ⟨rfl, hb2⟩
end Go.Proofs.YtlapjkbefkmohaaGreat
