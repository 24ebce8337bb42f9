/- Package cofferdamlaw06: rows held against each other, which arguments are few, and the example. Package cofferdamlaw06: the example. -/
import Derived.Test.YtkiokdphjfkocaaTxn6
import Derived.Test.YtkiokdphjfkocaaTxnLaw2
import Derived.BigQuiet
set_option linter.unusedVariables false
namespace Go.Proofs.Ytkiokdphjfkocaa
open Go.RowKit Go.Shelf
attribute [local go_sem] bs_mk bs_append bs_extract bs_size bs_toList bs_get
/-- What the statements look through. -/
def few (t : Tx) (l : List (List UInt8)) : Bool := decide (t.plan.targets.length ≤ 200) && decide (t.plan.data.length ≤ 200) && decide (tot l < 20000)
theorem few_no {t : Tx} {l : List (List UInt8)} (h : 200 < t.plan.targets.length ∨ 200 < t.plan.data.length ∨ 20000 ≤ tot l) : few t l = false := by
  unfold few
  rcases h with h | h | h
  · rw [decide_eq_false (by omega)]; rfl
  · rw [decide_eq_false (p := t.plan.data.length ≤ 200) (by omega)]; simp
  · rw [decide_eq_false (p := tot l < 20000) (by omega)]; simp
theorem few_yes {t : Tx} {l : List (List UInt8)} (h1 : t.plan.targets.length ≤ 200) (h2 : t.plan.data.length ≤ 200) (h3 : tot l < 20000) : few t l = true := by
  unfold few; rw [decide_eq_true h1, decide_eq_true h2, decide_eq_true h3]; rfl
theorem few_iff {t : Tx} {l : List (List UInt8)} (h : few t l = true) : t.plan.targets.length ≤ 200 ∧ t.plan.data.length ≤ 200 ∧ tot l < 20000 := by
  simpa only [few, Bool.and_eq_true, decide_eq_true_eq, and_assoc] using h
theorem tot_mono (l : List (List UInt8)) (i : Nat) : tot (l.take i) ≤ tot l := by
  have h : tot l = tot (l.take i) + tot (l.drop i) := by
    conv => lhs; rw [← List.take_append_drop i l]
    unfold tot; rw [List.map_append, List.sum_append]
  omega
set_option maxRecDepth 100000 in
theorem rows06 (l : List (List UInt8)) (A B : Option Addr) (c d : Nat) (w : World) (hA : Cells w A (strCells l)) (hB : Cells w B (strCells l)) (hl : l.length ≤ 1000000) :
    Calls Try.prog 14 #[.slice A l.length c, .slice B l.length d] w fun e w' => e = .returned (.bool true) ∧ Below w.heap.size w w' := by
  cases l with
  | nil =>
    go_enter Try.func14, Try.ntmps14
    go_wp2_with fail
    go_loopw [13] (fun x W => x = .int .i64 0 ∧ Below w.heap.size w W) (fun x _ => 0)
    case atStart => exact ⟨rfl, Below.refl _ _⟩
    case round =>
      obtain ⟨rfl, hb⟩ := hrel
      go_wp2_with fail
      go_ret
      exact ⟨rfl, hb⟩
  | cons v l =>
  obtain ⟨pa, oa, rfl, ha⟩ := hA.str (i := 0) (by simp)
  obtain ⟨pb, ob, rfl, hb⟩ := hB.str (i := 0) (by simp)
  generalize hm : v :: l = m at *
  have HA := hid (fun (W : World) (hb : Below w.heap.size w W) (j : Nat) (hj : j < m.length) => cell_below hb (ha j hj))
  have HB := hid (fun (W : World) (hbl : Below w.heap.size w W) (j : Nat) (hj : j < m.length) => cell_below hbl (hb j hj))
  clear hA hB ha hb hm
  go_enter Try.func14, Try.ntmps14
  go_wp2_with fail
  go_loopw [13] (fun x W => ∃ i : Nat, i ≤ m.length ∧ x = .int .i64 i ∧ Below w.heap.size w W) (fun x _ => m.length - (intOf x).toNat)
  case atStart => exact ⟨0, Nat.zero_le _, rfl, Below.refl _ _⟩
  case round =>
    obtain ⟨i, hi, rfl, hb⟩ := hrel
    by_cases hlt : i < m.length
    · have k0 := HA.out _ hb i hlt
      have k1 := HB.out _ hb i hlt
      generalize m[i] = z at *
      go_wp2_with fail
      go_quiet (fail)
      go_wp2_with fail
      go_roundw
      case rel => exact ⟨i + 1, by omega, by go_num, below_drewN hb _⟩
      case measure => simp [intOf]; omega
    · obtain rfl : i = m.length := by omega
      go_wp2_with fail
      go_ret
      exact ⟨rfl, hb⟩
set_option maxRecDepth 100000 in
set_option maxHeartbeats 2000000 in
theorem few06 (t : Tx) (p q : Pl) (l : List (List UInt8)) (A : Option Addr) (c : Nat) (w : World) (hL : IsPn w t.plan p q) (hA : Cells w A (strCells l)) (hlc : l.length ≤ c) (hcm : c ≤ maxLen) (hs : ∀ s ∈ l, s.length ≤ 281474976710656) :
    Calls Try.prog 8 #[tval t p q, .slice A l.length c] w fun e w' => e = .returned (.bool (few t l)) ∧ Below w.heap.size w w' := by
  unfold maxLen at hcm
  have Hs := hid (fun i (hi : i < l.length) => hs _ (List.getElem_mem hi))
  have Htot := hid (fun i (hi : i < l.length) => tot_take (l := l) (i := i) hi)
  have Hle := hid (fun i => tot_mono l i)
  have Hno := hid (@few_no t l)
  have Hyes := hid (@few_yes t l)
  have hpm := hL.pm
  have hpc := hL.pc
  have hqm := hL.qm
  have hqc := hL.qc
  unfold maxLen at hpm hqm
  clear hs hL
  unfold tval
  generalize few t l = F at *
  generalize t.plan.targets.length = nt at *
  generalize t.plan.data.length = nd at *
  have x0 := Blk.new w 28 #[.int .u64 t.seq, .slice p.a nt p.c, .slice q.a nd q.c]
  have hb := (Below.refl w.heap.size w).alloc (Nat.le_refl _) (.cells #[.int .u64 t.seq, .slice p.a nt p.c, .slice q.a nd q.c] 28)
  go_enter Try.func8, Try.ntmps8
  go_wp2_with fail
  have k0 := blk3 x0
  go_loopw [5, 6] (fun n x W => ∃ (i z : Nat), i ≤ l.length ∧ x = .int .i64 i ∧ n = .int .i64 z ∧ Hid (tot (l.take i) = z) ∧ z < 281474976760000 ∧ W = w.alloc (.cells #[.int .u64 t.seq, .slice p.a nt p.c, .slice q.a nd q.c] 28)) (fun _ x _ => l.length - (intOf x).toNat)
  case atStart => exact ⟨0, 0, Nat.zero_le _, rfl, rfl, hid rfl, by omega, rfl⟩
  case round =>
    obtain ⟨i, z, hi, rfl, rfl, hz0, hzb, rfl⟩ := hrel
    by_cases hlt : i < l.length
    · by_cases hz : z < 20000
      · obtain ⟨pb, po, hpa, hcell⟩ := (hA.below hb).str hlt
        subst hpa
        have x1 := hcell i hlt
        have hsl := Hs.out i hlt
        have Ht := hid (Htot.out i hlt)
        rw [hz0.out] at Ht
        generalize l[i] = s at *
        have w1 := i64w (x := (s.length : Int) + 1) ⟨by omega, by omega⟩
        have w2 := i64w (x := (z : Int) + ((s.length : Int) + 1)) ⟨by omega, by omega⟩
        clear hcell
        go_wp2_with fail
        go_roundw
        case rel => exact ⟨i + 1, z + (s.length + 1), by omega, by go_num, by go_num, Ht, by omega, trivial⟩
        case measure => simp [intOf]; omega
      · have hz' : decide ((z : Int) < 20000) = false := decide_eq_false (by omega)
        have Hw := hid (Hno.out (.inr (.inr (by have := Hle.out i; rw [hz0.out] at this; omega))))
        go_wp2_with fail
        all_goals
          go_ret
          exact ⟨by rw [Hw.out]; first | rfl | (congr 2; simp; omega), hb⟩
    · obtain rfl : i = l.length := by omega
      have hzt : tot l = z := by have := hz0.out; rwa [List.take_length] at this
      have Hzt := hid hzt
      by_cases h1 : nt ≤ 200
      · by_cases h2 : nd ≤ 200
        · by_cases hz : z < 20000
          · have Hw := hid (Hyes.out h1 h2 (by omega))
            have hz' : decide ((z : Int) < 20000) = true := decide_eq_true (by omega)
            go_wp2_with fail
            go_ret
            exact ⟨by rw [Hw.out]; rfl, hb⟩
          · have hz' : decide ((z : Int) < 20000) = false := decide_eq_false (by omega)
            have Hw := hid (Hno.out (.inr (.inr (by omega))))
            go_wp2_with fail
            go_ret
            exact ⟨by rw [Hw.out]; rfl, hb⟩
        · have h2' : decide ((nd : Int) ≤ 200) = false := decide_eq_false (by omega)
          have Hw := hid (Hno.out (.inr (.inl (by omega))))
          go_wp2_with fail
          go_ret
          exact ⟨by rw [Hw.out]; rfl, hb⟩
      · have h1' : decide ((nt : Int) ≤ 200) = false := decide_eq_false (by omega)
        have Hw := hid (Hno.out (.inl (by omega)))
        go_wp2_with fail
        go_ret
        exact ⟨by rw [Hw.out]; rfl, hb⟩
end Go.Proofs.Ytkiokdphjfkocaa
set_option linter.unusedVariables false
namespace Go.Proofs.Ytkiokdphjfkocaa
open Go.RowKit Go.Shelf
attribute [local go_sem] bs_mk bs_append bs_extract bs_size bs_toList bs_get
def zb (i : Nat) : List UInt8 := List.replicate i 0
theorem zb_length (i : Nat) : (zb i).length = i := by simp [zb]
theorem zb_succ (i : Nat) : zb i ++ [0] = zb (i + 1) := by simp [zb, List.replicate_succ']
theorem zb_zero : zb 0 = [] := rfl
theorem zb_read : txRead [zb 64] = (Tx.zero, 14) := by
  have : hcount (zb 64) = 0 := hcount_no (.inr (.inl (by decide)))
  rw [txRead_cons this, if_pos rfl]
def ex06 : Tx := ⟨7, ⟨[3], [zb 64]⟩⟩
theorem ex06_ok : ex06.Ok := by
  refine ⟨⟨rfl, by decide, ?_, ?_⟩, by simp [ex06]⟩
  · intro i h
    have : i = 0 := by simp [ex06] at h; omega
    subst this
    exact ⟨rfl, rfl⟩
  · intro i h
    have : i = 0 := by simp [ex06] at h; omega
    subst this
    exact zb_length 64
theorem ex06_write : ex06.write = (ex06.rows, 0) := by unfold Tx.write; rw [if_pos ex06_ok]
theorem ex06_len : ex06.rows.length = 3 := (Tx.rows_length ex06_ok).trans (by decide)
theorem ex06_top : ex06.rows[0]'(by rw [ex06_len]; decide) = ex06.top := rfl
theorem ex06_magic : ex06.top.take 4 = [67, 79, 70, 74] := (headRow_cut _ _ _ ex06.head_length).1
attribute [local go_sem] zb_succ
set_option maxRecDepth 100000 in
theorem awake06 (w : World) : Calls Try.prog 9 #[] w fun e w' => e = .returned (.bool true) ∧ Below w.heap.size w w' := by
  have hsz1 := fun W => tx_size 1 (by unfold okI; omega) W
  have hsz17 := fun W => tx_size 17 (by unfold okI; omega) W
  rw [show txSizeI 1 = 3 by decide] at hsz1
  rw [show txSizeI 17 = 20 by decide] at hsz17
  have hc := fun W => tx_count ex06.top (by rw [Tx.top_length]; decide) W
  rw [Tx.top_count ex06_ok, show ex06.plan.targets.length = 1 from rfl] at hc
  have htl := ex06.top_length
  have Hmg := hid ex06_magic
  go_enter Try.func9, Try.ntmps9
  go_wp2_with fail
  go_loopw [1, 6] (fun s x W => ∃ i : Nat, i ≤ 64 ∧ s = .string (bs (zb i)) ∧ x = .int .i64 i ∧ W = w) (fun _ x _ => 64 - (intOf x).toNat)
  case atStart => exact ⟨0, by omega, by rw [zb_zero]; rfl, rfl, rfl⟩
  case round =>
    obtain ⟨i, hi, rfl, rfl, rfl⟩ := hrel
    by_cases hlt : i < 64
    · have hxl : ¬ 9223372036854775807 < (zb i).length + 1 := by rw [zb_length]; omega
      go_wp2_with fail
      go_roundw
      case rel => exact ⟨i + 1, by omega, rfl, by go_num, trivial⟩
      case measure => simp [intOf]; omega
    · obtain rfl : i = 64 := by omega
      have hzl := zb_length 64
      have hrd := fun W (hW : Cells W (some ⟨wr.heap.size, 0, none⟩) (strCells [zb 64])) => tx_read [zb 64] (some ⟨wr.heap.size, 0, none⟩) 1 W hW (by decide) (by decide) (by decide) (fun s hs => by obtain rfl := List.mem_singleton.1 hs; rw [hzl]; decide)
      rw [zb_read] at hrd
      have Hwr := hid (fun (W : World) (p q : Pl) (hL : IsPn W ⟨[3], [zb 64]⟩ p q) => ex06_write ▸ tx_write ex06 p q W hL (by decide))
      generalize zb 64 = z at *
      have hc0 := cells_new wr [.string (bs z)] 9
      go_wp2_with fail
      go_at_call 12
      refine (hrd _ hc0).mono ?_
      rintro e w1 ⟨⟨p, q, rfl, hpn⟩, hb1⟩
      have b1 := bt ((Below.refl wr.heap.size wr).alloc (Nat.le_refl _) (.cells #[.string (bs z)] 9)) hb1
      have hX : (.cells #[.int .u64 (Tx.zero.seq : Int), .slice p.a Tx.zero.plan.targets.length p.c, .slice q.a Tx.zero.plan.data.length q.c] 28 : Obj) = .cells #[.int .u64 0, .slice p.a 0 p.c, .slice q.a 0 q.c] 28 := rfl
      have b3 := ((b1.alloc b1.size (.cells #[.int .u64 (Tx.zero.seq : Int), .slice p.a Tx.zero.plan.targets.length p.c, .slice q.a Tx.zero.plan.data.length q.c] 28)).alloc (Nat.le_trans b1.size (by simp)) (.cells #[.int .i64 3] 3)).alloc (Nat.le_trans b1.size (by simp; omega)) (.cells #[.string (bs z)] 9)
      have ci := (cells_new (w1.alloc (.cells #[.int .u64 (Tx.zero.seq : Int), .slice p.a Tx.zero.plan.targets.length p.c, .slice q.a Tx.zero.plan.data.length q.c] 28)) [.int .i64 3] 3).below ((Below.refl _ _).alloc (Nat.le_refl _) (.cells #[.string (bs z)] 9))
      have cs := cells_new ((w1.alloc (.cells #[.int .u64 (Tx.zero.seq : Int), .slice p.a Tx.zero.plan.targets.length p.c, .slice q.a Tx.zero.plan.data.length q.c] 28)).alloc (.cells #[.int .i64 3] 3)) [.string (bs z)] 9
      simp only [World.size_alloc] at ci cs
      have hpn' := Hwr.out _ ⟨some ⟨w1.heap.size + 1, 0, none⟩, 1⟩ ⟨some ⟨w1.heap.size + 1 + 1, 0, none⟩, 1⟩ ⟨ci, cs, (fun h => by cases h), (fun h => by cases h), Nat.le_refl 1, Nat.le_refl 1, (show 1 ≤ maxLen by decide), (show 1 ≤ maxLen by decide), (fun x hx => by obtain rfl := List.mem_singleton.1 hx; decide), (fun s hs => by obtain rfl := List.mem_singleton.1 hs; rw [hzl]; decide)⟩
      clear Hwr hX
      go_wp2_with fail
      go_at_call 10
      refine hpn'.mono ?_
      rintro e w2 ⟨⟨v, rfl, own⟩, hb2⟩
      have b4 := bt b3 hb2
      simp only at own
      rw [ex06_len] at own
      obtain ⟨C, d, rfl, hd, _⟩ := own_slice own
      obtain ⟨pb, po, rfl, hcell⟩ := (Cells.of_own own).str (i := 0) (by rw [ex06_len]; decide)
      have hcell := hcell 0 (by rw [ex06_len]; decide)
      rw [ex06_top, Nat.add_zero] at hcell
      have hmg := Hmg.out
      clear b3 ci cs hpn' own b1 hpn hrd
      generalize ex06.top = T at *
      go_wp2_with fail
      go_at_call 16
      refine (hsz1 _).mono ?_
      rintro e w3 ⟨rfl, hb3⟩
      have hcell := cell_below hb3 hcell
      have b5 := bt b4 hb3
      go_wp2_with fail
      go_at_call 16
      refine (hsz17 _).mono ?_
      rintro e w4 ⟨rfl, hb4⟩
      have hcell := cell_below hb4 hcell
      have b6 := bt b5 hb4
      go_wp2_with fail
      go_at_call 18
      refine (hc _).mono ?_
      rintro e w5 ⟨rfl, hb5⟩
      go_wp2_with fail
      go_ret
      exact ⟨rfl, bt b6 hb5⟩
end Go.Proofs.Ytkiokdphjfkocaa
