/- The document's own answers for devices (package cofferdamref01), function by function. -/
import Derived.Test.YtlapjkbefkmohaaSjPlain1
import Derived.Test.YtlapjkbefkmohaaSjRegs
import Derived.Test.YtlapjkbefkmohaaRows
import Derived.Shelf.SlicesE.Kit
set_option linter.unusedVariables false
namespace Go.Proofs.Ytlapjkbefkmohaa
open Go.RowKit Go.Shelf
attribute [local go_sem] bs_mk bs_append bs_extract bs_size bs_toList bs_get

theorem r1_size (D : Dk) (p q : Pl) (h : D.data.length ≤ 140737488355328) (w : World) :
    Calls Try.prog 66 #[dval D p q] w fun e w' => e = .returned (.int .i64 (D.sz : Nat)) ∧ Below w.heap.size w w' := by
  go_enter Try.func66, Try.ntmps66
  go_wp2
  go_ret
  exact ⟨by simp [Dk.sz], (Below.refl _ _).alloc (Nat.le_refl _) _⟩
theorem r1_there (D : Dk) (p q : Pl) (h : D.data.length ≤ 140737488355328) (k : Int) (w : World) :
    Calls Try.prog 54 #[dval D p q, .int .i64 k] w fun e w' => e = .returned (.bool (D.there k)) ∧ Below w.heap.size w w' := by
  by_cases hk : 0 ≤ k
  · have hd : decide (0 ≤ k) = true := by simpa using hk
    go_enter Try.func54, Try.ntmps54
    go_wp2_with (go_at_call 66; refine (r1_size D p q h _).mono ?_; rintro e w1 ⟨rfl, hb⟩)
    go_ret
    exact ⟨by simp [Dk.there, hd], bt ((Below.refl _ _).alloc (Nat.le_refl _) _) hb⟩
  · have hd : decide (0 ≤ k) = false := by simpa using hk
    go_enter Try.func54, Try.ntmps54
    go_wp2
    go_ret
    exact ⟨by simp [Dk.there, hd], (Below.refl _ _).alloc (Nat.le_refl _) _⟩
theorem r1_bad (D : Dk) (p q : Pl) (w : World) (hD : IsDk w D p q) (k : Int) :
    Calls Try.prog 55 #[dval D p q, .int .i64 k] w fun e w' => e = .returned (.bool (decide (k ∈ D.bad))) ∧ Below w.heap.size w w' := by
  obtain ⟨A1, c1⟩ := p
  obtain ⟨A2, c2⟩ := q
  have hbl := hD.bl
  have hbx := Blk.new w 32 #[.string (bs D.data), .slice A1 D.cache.length c1, .int .i64 D.fuse, .bool D.off, .slice A2 D.bad.length c2]
  have hb := (Below.refl w.heap.size w).alloc (Nat.le_refl _) (.cells #[.string (bs D.data), .slice A1 D.cache.length c1, .int .i64 D.fuse, .bool D.off, .slice A2 D.bad.length c2] 32)
  go_enter Try.func55, Try.ntmps55
  go_wp2_with fail
  go_loopw [5] (fun x W => ∃ i : Nat, i ≤ D.bad.length ∧ x = .int .i64 i ∧ Hid (∀ j (hj : j < D.bad.length), j < i → D.bad[j] ≠ k) ∧
      Blk W w.heap.size 32 #[.string (bs D.data), .slice A1 D.cache.length c1, .int .i64 D.fuse, .bool D.off, .slice A2 D.bad.length c2] ∧ Below w.heap.size w W) (fun x _ => D.bad.length - (intOf x).toNat)
  case atStart => exact ⟨0, Nat.zero_le _, rfl, hid (fun j hj h0 => by omega), hbx, hb⟩
  case round =>
    clear hbx hb
    obtain ⟨i, hi, rfl, hok, hbx, hb⟩ := hrel
    have k0 := blk5 hbx
    by_cases hlt : i < D.bad.length
    · obtain ⟨pb, po, hpa, hcell⟩ := (hD.below hb).bad.int hlt
      simp only at hpa
      subst hpa
      have d0 := hcell i hlt
      have Hcell := hid hcell; clear hcell
      by_cases he : D.bad[i] = k
      · have he' : (D.bad[i] == k) = true := by simpa using he
        have Hin := hid (show decide (k ∈ D.bad) = true by rw [decide_eq_true_eq, ← he]; exact List.getElem_mem hlt)
        clear he
        go_wp2_with fail
        go_ret
        exact ⟨by rw [Hin.out]; rfl, hb⟩
      · have he' : (D.bad[i] == k) = false := by simpa using he
        have He := hid he; clear he
        go_wp2_with fail
        go_roundw
        case rel => exact ⟨i + 1, by omega, by go_num, hid (fun j hj hji => by
          rcases Nat.lt_or_ge j i with h' | h'
          · exact hok.out j hj h'
          · obtain rfl : j = i := by omega
            exact He.out), hbx, hb⟩
        case measure => simp [intOf]; omega
    · have Hin := hid (show decide (k ∈ D.bad) = false by
        rw [decide_eq_false_iff_not]; intro hm; obtain ⟨j, hj, he⟩ := List.getElem_of_mem hm; exact hok.out j hj (by omega) he)
      clear hok
      go_wp2_with fail
      go_ret
      exact ⟨by rw [Hin.out]; rfl, hb⟩
end Go.Proofs.Ytlapjkbefkmohaa
