/- Package plan and the document's, function by function: a target's place, slices that are copied. Package plan: a plan with a sector more. -/
import Derived.Test.YtplgmlcoeehnfaaGreatJcPlain1
import Derived.Test.YtplgmlcoeehnfaaGreatJcDev7
set_option linter.unusedVariables false
namespace Go.Proofs.YtplgmlcoeehnfaaGreat
open Go.RowKit Go.Shelf
attribute [local go_sem] bs_mk bs_append bs_extract bs_size bs_toList bs_get

set_option maxRecDepth 100000 in
theorem strs_equal (A B : Option Addr) (c d : Nat) (l m : List (List UInt8)) (w : World) (hA : Cells w A (strCells l)) (hB : Cells w B (strCells m)) (hl : l.length ≤ 1099511627776) :
    Calls Tryz.prog 203 #[.slice A l.length c, .slice B m.length d] w fun e w' => e = .returned (.bool (decide (l = m))) ∧ Below w.heap.size w w' := by
  by_cases h2 : l.length = m.length
  case neg =>
    have Hf := hid (show decide (l = m) = false by simp; intro e; exact h2 (by rw [e]))
    have n0 : ((l.length : Int) != m.length) = true := by simp; omega
    clear h2
    go_enter Tryz.func203, Tryz.ntmps203
    go_wp2_with fail
    go_ret
    exact ⟨by rw [Hf.out]; rfl, Below.refl _ _⟩
  have n2 : ((l.length : Int) != m.length) = false := by simp; omega
  have H2 := hid h2; clear h2
  go_enter Tryz.func203, Tryz.ntmps203
  go_wp2_with fail
  go_loopw [13] (fun x W => ∃ i : Nat, i ≤ l.length ∧ x = .int .i64 i ∧ Hid (∀ j (hj : j < l.length) (hj' : j < m.length), j < i → l[j] = m[j]) ∧ Below w.heap.size w W) (fun x _ => l.length - (intOf x).toNat)
  case atStart => exact ⟨0, Nat.zero_le _, rfl, hid (fun j hj hj' h0 => by omega), Below.refl _ _⟩
  case round =>
    obtain ⟨i, hi, rfl, hok, hb⟩ := hrel
    by_cases hlt : i < l.length
    · have hlt' : i < m.length := by have := H2.out; omega
      obtain ⟨pb, po, hpa, hcell⟩ := (hA.below hb).str hlt
      obtain ⟨pb', po', hpa', hcell'⟩ := (hB.below hb).str hlt'
      subst hpa
      subst hpa'
      have x0 := hcell i hlt
      have y0 := hcell' i hlt'
      have X0 := fun e : Ext wr => e.cell x0
      have Y0 := fun e : Ext wr => e.cell y0
      clear hcell hcell'
      by_cases he : l[i] = m[i]
      · have he1 : (l[i] == m[i]) = true := by simp [he]
        have He := hid he; clear he
        go_wp2_with fail
        refine wp_region_ext mixed (by kernel_rfl) ?_
        repeat (go_big_quiet_step ((fail)))
        refine wpQuiet_nil ?_
        rintro w2 ⟨pq_, hpq_⟩
        have hb2 := pq_.below
        rw [← hpq_] at hb2
        clear hpq_ pq_
        go_wp2_with fail
        go_roundw
        case rel => exact ⟨i + 1, by omega, by go_num, hid (fun j hj hj' hji => by
          rcases Nat.lt_or_ge j i with h' | h'
          · exact hok.out j hj hj' h'
          · obtain rfl : j = i := by omega
            exact He.out), bt hb hb2⟩
        case measure => simp [intOf]; omega
      · have He := hid (show decide (l = m) = false by simpa using ne_at i hlt hlt' he)
        have he1 : (l[i] == m[i]) = false := by simpa using he
        clear he
        go_wp2_with fail
        refine wp_region_ext mixed (by kernel_rfl) ?_
        repeat (go_big_quiet_step ((fail)))
        refine wpQuiet_nil ?_
        rintro w2 ⟨pq_, hpq_⟩
        have hb2 := pq_.below
        rw [← hpq_] at hb2
        clear hpq_ pq_
        go_wp2_with fail
        go_ret
        exact ⟨by rw [He.out]; rfl, bt hb hb2⟩
    · have He := hid (show decide (l = m) = true by simpa using eq_of_parts H2.out (show l.length ≤ i by omega) hok.out)
      clear hok
      go_wp2_with fail
      go_ret
      exact ⟨by rw [He.out]; rfl, hb⟩
theorem Tryz.infoIntP : (Tryz.prog.info? 3).map (fun i => (i.zero, i.size, i.bytes)) = some (some (.int .i64 0), 1, 8) := by kernel_rfl
theorem Tryz.infoStrP : (Tryz.prog.info? 9).map (fun i => (i.zero, i.size, i.bytes)) = some (some (.string ⟨#[]⟩), 1, 16) := by kernel_rfl
set_option maxHeartbeats 2000000 in
set_option maxRecDepth 100000 in
theorem clone_strs (A : Option Addr) (l : List (List UInt8)) (c : Nat) (w : World) (hA : Cells w A (strCells l)) (hl : l.length ≤ 1099511627776) (hn : A = none → c = 0) :
    Calls Tryz.prog 202 #[.slice A l.length c] w fun e w' => ∃ v', e = .returned v' ∧ w'.ownsRow w.heap.size 9 1 v' l.length (strCells l) ∧ Below w.heap.size w w' := by
  have q22 : ∀ (w : World) (a : Option Addr) (n c n' c' : Nat), (binOp .eql 26 (.slice a n c) (.slice none n' c')).run Tryz.prog w = .ok (.bool a.isNone) w := fun w a n c n' c' => Lib.run_eql_slice_nil w _ _ a n c n' c' Tryz.underlying26
  obtain ⟨i0, hi, hz0, hz1, hz2⟩ := info_parts Tryz.infoStrP
  cases A with
  | none =>
    have hl0 : l = [] := by
      rcases hA with h | ⟨b, off, he, _⟩
      · have := congrArg List.length h; rw [strCells_length] at this; exact List.length_eq_zero_iff.1 (by simpa using this)
      · cases he
    subst hl0
    go_enter Tryz.func202, Tryz.ntmps202
    go_wp2_with fail
    go_ret
    exact ⟨_, rfl, World.ownsRow_nil _ _ _ _, Below.refl _ _⟩
  | some ad =>
    go_enter Tryz.func202, Tryz.ntmps202
    go_wp2_with (at_builtin; refine wpList_app rfl _ _ 26 rfl w.heap.size 9 i0 (.string ⟨#[]⟩) 1 16 Tryz.underlying26 hi hz0 hz1 hz2 rfl (by decide) _ 0 [] rfl (World.ownsRow_made w #[] 0 (Nat.le_refl _) (Nat.zero_le _) rfl) (some ad) l.length c (strCells l) rfl (hA.below ((Below.refl _ _).alloc (Nat.le_refl _) _)) (by rw [strCells_length]; simp) (fun h => by cases h) (one_strs _) (by unfold maxLen; omega) (by omega) (by simp) ?_; intro v1 w3 hown1 hbl1; rw [Nat.zero_add, List.nil_append] at hown1)
    go_ret
    exact ⟨_, rfl, hown1, ((Below.refl _ _).alloc (Nat.le_refl _) _).trans hbl1⟩
theorem pl_outside (k : Int) (w : World) : Calls Tryz.prog 189 #[.int .i64 k] w fun e w' => e = .returned (.bool (!sectorOk k)) ∧ w' = w := by
  by_cases h0 : k < 0
  · have Hw := hid (show sectorOk k = false by simp [sectorOk]; omega)
    go_enter Tryz.func189, Tryz.ntmps189
    go_wp2_with fail
    go_ret
    exact ⟨by rw [Hw.out]; rfl, rfl⟩
  · have Hw := hid (show (!sectorOk k) = decide (1024 ≤ k) by simp [sectorOk]; rw [decide_eq_true (by omega : 0 ≤ k)]; simp; rw [← decide_not]; congr 1; simp)
    go_enter Tryz.func189, Tryz.ntmps189
    go_wp2_with fail
    go_ret
    exact ⟨by rw [Hw.out]; rfl, rfl⟩
theorem r5_sector (k : Int) (w : World) : Calls Tryz.prog 68 #[.int .i64 k] w fun e w' => e = .returned (.bool (sectorOk k)) ∧ Below w.heap.size w w' := by
  by_cases h0 : 0 ≤ k
  · have Hw := hid (show sectorOk k = decide (k < 1024) by simp [sectorOk, h0])
    go_enter Tryz.func68, Tryz.ntmps68
    go_wp2_with fail
    go_ret
    exact ⟨by rw [Hw.out]; rfl, Below.refl _ _⟩
  · have Hw := hid (show sectorOk k = false by simp [sectorOk, h0])
    go_enter Tryz.func68, Tryz.ntmps68
    go_wp2_with fail
    go_ret
    exact ⟨by rw [Hw.out]; rfl, Below.refl _ _⟩
set_option maxRecDepth 100000 in
theorem r5_find (L : Pn) (p q : Pl) (k : Int) (w : World) (hL : IsPn w L p q) (ht : L.targets.length ≤ 17592186044416) :
    Calls Tryz.prog 31 #[pval L p q, .int .i64 k] w fun e w' => e = .returned (.int .i64 (L.find k)) ∧ Below w.heap.size w w' := by
  have hc := fun (W : World) (hb : Below w.heap.size w W) => hL.targets.below hb
  clear hL
  obtain ⟨A1, c1⟩ := p
  obtain ⟨A2, c2⟩ := q
  simp only at hc
  have x0 := Blk.new w 28 #[.slice A1 L.targets.length c1, .slice A2 L.data.length c2]
  have b0 := (Below.refl w.heap.size w).alloc (Nat.le_refl _) (.cells #[.slice A1 L.targets.length c1, .slice A2 L.data.length c2] 28)
  go_enter Tryz.func31, Tryz.ntmps31
  go_wp2_with fail
  go_loopw [5] (fun x W => ∃ i : Nat, i ≤ L.targets.length ∧ x = .int .i64 i ∧ Hid (∀ j (hj : j < L.targets.length), j < i → L.targets[j] ≠ k) ∧
      Blk W w.heap.size 28 #[.slice A1 L.targets.length c1, .slice A2 L.data.length c2] ∧ Below w.heap.size w W) (fun x _ => L.targets.length - (intOf x).toNat)
  case atStart => exact ⟨0, Nat.zero_le _, rfl, hid (fun j hj h0 => by omega), x0, b0⟩
  case round =>
    clear x0 b0
    obtain ⟨i, hi, rfl, hok, hx, hb⟩ := hrel
    have k0 := blk2 hx
    by_cases hlt : i < L.targets.length
    · obtain ⟨pb, po, hpa, hcell⟩ := (hc _ hb).int hlt
      subst hpa
      have y0 := hcell i hlt
      clear hcell
      by_cases he : L.targets[i] = k
      · have he1 : (L.targets[i] == k) = true := by simpa using he
        have Hf := hid (Pn.find_hit hlt he hok.out)
        clear he
        go_wp2_with fail
        go_ret
        exact ⟨by rw [Hf.out]; rfl, hb⟩
      · have he1 : (L.targets[i] == k) = false := by simpa using he
        have He := hid he
        clear he
        go_wp2_with fail
        go_roundw
        case rel => exact ⟨i + 1, by omega, by go_num, hid (fun j hj hji => by
          rcases Nat.lt_or_ge j i with h' | h'
          · exact hok.out j hj h'
          · obtain rfl : j = i := by omega
            exact He.out), hx, hb⟩
        case measure => simp [intOf]; omega
    · have Hf := hid (Pn.find_miss fun j hj => hok.out j hj (by omega))
      clear hok
      go_wp2_with fail
      go_ret
      exact ⟨by rw [Hf.out]; rfl, hb⟩
end Go.Proofs.YtplgmlcoeehnfaaGreat
set_option linter.unusedVariables false
namespace Go.Proofs.YtplgmlcoeehnfaaGreat
open Go.RowKit Go.Shelf
attribute [local go_sem] bs_mk bs_append bs_extract bs_size bs_toList bs_get

end Go.Proofs.YtplgmlcoeehnfaaGreat
