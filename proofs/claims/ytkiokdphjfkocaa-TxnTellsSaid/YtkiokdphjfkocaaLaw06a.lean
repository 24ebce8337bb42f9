/- Package cofferdamlaw06: rows held against each other, which arguments are few, and the example. -/
import Derived.Test.YtkiokdphjfkocaaTxn6
import Derived.Test.YtkiokdphjfkocaaTxnLaw2
import Derived.BigQuiet
set_option linter.unusedVariables false
namespace Go.Proofs.Ytkiokdphjfkocaa
open Go.RowKit Go.Shelf
attribute [local go_sem] bs_mk bs_append bs_extract bs_size bs_toList bs_get
/-- What the statements look through. -/
def few (t : Tx) (l : List (List UInt8)) : Bool := decide (t.plan.targets.length ≤ 200) && decide (t.plan.data.length ≤ 200) && decide (tot l < 20000)
theorem few_no {t : Tx} {l : List (List UInt8)} (h : 200 < t.plan.targets.length ∨ 200 < t.plan.data.length ∨ 20000 ≤ tot l) : few t l = false := by
  unfold few
  rcases h with h | h | h
  · rw [decide_eq_false (by omega)]; rfl
  · rw [decide_eq_false (p := t.plan.data.length ≤ 200) (by omega)]; simp
  · rw [decide_eq_false (p := tot l < 20000) (by omega)]; simp
theorem few_yes {t : Tx} {l : List (List UInt8)} (h1 : t.plan.targets.length ≤ 200) (h2 : t.plan.data.length ≤ 200) (h3 : tot l < 20000) : few t l = true := by
  unfold few; rw [decide_eq_true h1, decide_eq_true h2, decide_eq_true h3]; rfl
theorem few_iff {t : Tx} {l : List (List UInt8)} (h : few t l = true) : t.plan.targets.length ≤ 200 ∧ t.plan.data.length ≤ 200 ∧ tot l < 20000 := by
  simpa only [few, Bool.and_eq_true, decide_eq_true_eq, and_assoc] using h
theorem tot_mono (l : List (List UInt8)) (i : Nat) : tot (l.take i) ≤ tot l := by
  have h : tot l = tot (l.take i) + tot (l.drop i) := by
    conv => lhs; rw [← List.take_append_drop i l]
    unfold tot; rw [List.map_append, List.sum_append]
  omega
set_option maxRecDepth 100000 in
theorem rows06 (l : List (List UInt8)) (A B : Option Addr) (c d : Nat) (w : World) (hA : Cells w A (strCells l)) (hB : Cells w B (strCells l)) (hl : l.length ≤ 1000000) :
    Calls Try.prog 14 #[.slice A l.length c, .slice B l.length d] w fun e w' => e = .returned (.bool true) ∧ Below w.heap.size w w' := by
  cases l with
  | nil =>
    go_enter Try.func14, Try.ntmps14
    go_wp2_with fail
    go_loopw [13] (fun x W => x = .int .i64 0 ∧ Below w.heap.size w W) (fun x _ => 0)
    case atStart => exact ⟨rfl, Below.refl _ _⟩
    case round =>
      obtain ⟨rfl, hb⟩ := hrel
      go_wp2_with fail
      go_ret
      exact ⟨rfl, hb⟩
  | cons v l =>
  obtain ⟨pa, oa, rfl, ha⟩ := hA.str (i := 0) (by simp)
  obtain ⟨pb, ob, rfl, hb⟩ := hB.str (i := 0) (by simp)
  generalize hm : v :: l = m at *
  have HA := hid (fun (W : World) (hb : Below w.heap.size w W) (j : Nat) (hj : j < m.length) => cell_below hb (ha j hj))
  have HB := hid (fun (W : World) (hbl : Below w.heap.size w W) (j : Nat) (hj : j < m.length) => cell_below hbl (hb j hj))
  clear hA hB ha hb hm
  go_enter Try.func14, Try.ntmps14
  go_wp2_with fail
  go_loopw [13] (fun x W => ∃ i : Nat, i ≤ m.length ∧ x = .int .i64 i ∧ Below w.heap.size w W) (fun x _ => m.length - (intOf x).toNat)
  case atStart => exact ⟨0, Nat.zero_le _, rfl, Below.refl _ _⟩
  case round =>
    obtain ⟨i, hi, rfl, hb⟩ := hrel
    by_cases hlt : i < m.length
    · have k0 := HA.out _ hb i hlt
      have k1 := HB.out _ hb i hlt
      generalize m[i] = z at *
      go_wp2_with fail
      go_quiet (fail)
      go_wp2_with fail
      go_roundw
      case rel => exact ⟨i + 1, by omega, by go_num, below_drewN hb _⟩
      case measure => simp [intOf]; omega
    · obtain rfl : i = m.length := by omega
      go_wp2_with fail
      go_ret
      exact ⟨rfl, hb⟩
set_option maxRecDepth 100000 in
set_option maxHeartbeats 2000000 in
theorem few06 (t : Tx) (p q : Pl) (l : List (List UInt8)) (A : Option Addr) (c : Nat) (w : World) (hL : IsPn w t.plan p q) (hA : Cells w A (strCells l)) (hlc : l.length ≤ c) (hcm : c ≤ maxLen) (hs : ∀ s ∈ l, s.length ≤ 281474976710656) :
    Calls Try.prog 8 #[tval t p q, .slice A l.length c] w fun e w' => e = .returned (.bool (few t l)) ∧ Below w.heap.size w w' := by
  unfold maxLen at hcm
  have Hs := hid (fun i (hi : i < l.length) => hs _ (List.getElem_mem hi))
  have Htot := hid (fun i (hi : i < l.length) => tot_take (l := l) (i := i) hi)
  have Hle := hid (fun i => tot_mono l i)
  have Hno := hid (@few_no t l)
  have Hyes := hid (@few_yes t l)
  have hpm := hL.pm
  have hpc := hL.pc
  have hqm := hL.qm
  have hqc := hL.qc
  unfold maxLen at hpm hqm
  clear hs hL
  unfold tval
  generalize few t l = F at *
  generalize t.plan.targets.length = nt at *
  generalize t.plan.data.length = nd at *
  have x0 := Blk.new w 28 #[.int .u64 t.seq, .slice p.a nt p.c, .slice q.a nd q.c]
  have hb := (Below.refl w.heap.size w).alloc (Nat.le_refl _) (.cells #[.int .u64 t.seq, .slice p.a nt p.c, .slice q.a nd q.c] 28)
  go_enter Try.func8, Try.ntmps8
  go_wp2_with fail
  have k0 := blk3 x0
  go_loopw [5, 6] (fun n x W => ∃ (i z : Nat), i ≤ l.length ∧ x = .int .i64 i ∧ n = .int .i64 z ∧ Hid (tot (l.take i) = z) ∧ z < 281474976760000 ∧ W = w.alloc (.cells #[.int .u64 t.seq, .slice p.a nt p.c, .slice q.a nd q.c] 28)) (fun _ x _ => l.length - (intOf x).toNat)
  case atStart => exact ⟨0, 0, Nat.zero_le _, rfl, rfl, hid rfl, by omega, rfl⟩
  case round =>
    obtain ⟨i, z, hi, rfl, rfl, hz0, hzb, rfl⟩ := hrel
    by_cases hlt : i < l.length
    · by_cases hz : z < 20000
      · obtain ⟨pb, po, hpa, hcell⟩ := (hA.below hb).str hlt
        subst hpa
        have x1 := hcell i hlt
        have hsl := Hs.out i hlt
        have Ht := hid (Htot.out i hlt)
        rw [hz0.out] at Ht
        generalize l[i] = s at *
        have w1 := i64w (x := (s.length : Int) + 1) ⟨by omega, by omega⟩
        have w2 := i64w (x := (z : Int) + ((s.length : Int) + 1)) ⟨by omega, by omega⟩
        clear hcell
        go_wp2_with fail
        go_roundw
        case rel => exact ⟨i + 1, z + (s.length + 1), by omega, by go_num, by go_num, Ht, by omega, trivial⟩
        case measure => simp [intOf]; omega
      · have hz' : decide ((z : Int) < 20000) = false := decide_eq_false (by omega)
        have Hw := hid (Hno.out (.inr (.inr (by have := Hle.out i; rw [hz0.out] at this; omega))))
        go_wp2_with fail
        all_goals
          go_ret
          exact ⟨by rw [Hw.out]; first | rfl | (congr 2; simp; omega), hb⟩
    · obtain rfl : i = l.length := by omega
      have hzt : tot l = z := by have := hz0.out; rwa [List.take_length] at this
      have Hzt := hid hzt
      by_cases h1 : nt ≤ 200
      · by_cases h2 : nd ≤ 200
        · by_cases hz : z < 20000
          · have Hw := hid (Hyes.out h1 h2 (by omega))
            have hz' : decide ((z : Int) < 20000) = true := decide_eq_true (by omega)
            go_wp2_with fail
            go_ret
            exact ⟨by rw [Hw.out]; rfl, hb⟩
          · have hz' : decide ((z : Int) < 20000) = false := decide_eq_false (by omega)
            have Hw := hid (Hno.out (.inr (.inr (by omega))))
            go_wp2_with fail
            go_ret
            exact ⟨by rw [Hw.out]; rfl, hb⟩
        · have h2' : decide ((nd : Int) ≤ 200) = false := decide_eq_false (by omega)
          have Hw := hid (Hno.out (.inr (.inl (by omega))))
          go_wp2_with fail
          go_ret
          exact ⟨by rw [Hw.out]; rfl, hb⟩
      · have h1' : decide ((nt : Int) ≤ 200) = false := decide_eq_false (by omega)
        have Hw := hid (Hno.out (.inl (by omega)))
        go_wp2_with fail
        go_ret
        exact ⟨by rw [Hw.out]; rfl, hb⟩
end Go.Proofs.Ytkiokdphjfkocaa
