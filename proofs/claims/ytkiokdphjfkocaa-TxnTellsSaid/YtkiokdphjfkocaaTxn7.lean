/- The document's transactions: which are the same, what a head tells, and the sectors of one. -/
import Derived.Test.YtkiokdphjfkocaaTxn6
import Derived.Test.YtkiokdphjfkocaaTxnLaw2
import Derived.Test.YtkiokdphjfkocaaPlan3
import Derived.Test.YtkiokdphjfkocaaPlan4
set_option linter.unusedVariables false
namespace Go.Proofs.Ytkiokdphjfkocaa
open Go.RowKit Go.Shelf
attribute [local go_sem] bs_mk bs_append bs_extract bs_size bs_toList bs_get
theorem ext3 {w : World} {g : Nat} {t : TypeId} {a b c : Value} (h : Blk w g t #[a, b, c]) (x : Ext w) : x.world.cell? ⟨g, 0, none⟩ = some a ∧ x.world.cell? ⟨g, 1, none⟩ = some b ∧ x.world.cell? ⟨g, 2, none⟩ = some c :=
  ⟨x.cell (h.cell 0), x.cell (h.cell 1), x.cell (h.cell 2)⟩
set_option maxRecDepth 100000 in
theorem tx_same (t u : Tx) (p q p' q' : Pl) (w : World) (hL : IsPn w t.plan p q) (hM : IsPn w u.plan p' q') (ht : t.plan.targets.length ≤ 1000000) (hd : t.plan.data.length ≤ 1000000) (ht' : u.plan.targets.length ≤ 1000000) (hd' : u.plan.data.length ≤ 1000000) :
    Calls Try.prog 20 #[tval t p q, tval u p' q'] w fun e w' => e = .returned (.bool (t.same u)) ∧ Below w.heap.size w w' := by
  have h1 := fun (W : World) (hb : Below w.heap.size w W) => pl_same t.plan u.plan p q p' q' W (hL.below hb) (hM.below hb) ht hd
  have Hs := hid (show t.same u = (decide (t.seq = u.seq) && t.plan.same u.plan) from rfl)
  generalize t.plan.same u.plan = S at *
  clear hL hM
  have hB := Below.refl w.heap.size w
  have x := Blk.new w 28 #[.int .u64 t.seq, .slice p.a t.plan.targets.length p.c, .slice q.a t.plan.data.length q.c]
  have xk := blk3 x
  have hB_1 := hB.alloc hB.size (.cells #[.int .u64 t.seq, .slice p.a t.plan.targets.length p.c, .slice q.a t.plan.data.length q.c] 28)
  have y := Blk.new (w.alloc (.cells #[.int .u64 t.seq, .slice p.a t.plan.targets.length p.c, .slice q.a t.plan.data.length q.c] 28)) 28 #[.int .u64 u.seq, .slice p'.a u.plan.targets.length p'.c, .slice q'.a u.plan.data.length q'.c]
  simp only [World.size_alloc] at y
  have yk := blk3 y
  have hB_2 := hB_1.alloc hB_1.size (.cells #[.int .u64 u.seq, .slice p'.a u.plan.targets.length p'.c, .slice q'.a u.plan.data.length q'.c] 28)
  have x_3 := x.alloc (.cells #[.int .u64 u.seq, .slice p'.a u.plan.targets.length p'.c, .slice q'.a u.plan.data.length q'.c] 28)
  have xk_3 := blk3 x_3
  by_cases h : t.seq = u.seq
  · have Hw := hid (show t.same u = S by rw [Hs.out, decide_eq_true h]; rfl)
    have g : ((t.seq : Int) == (u.seq : Int)) = true := by rw [beq_iff_eq]; omega
    clear h
    go_enter Try.func20, Try.ntmps20
    go_wp2_with fail
    go_at_call 44
    refine ((h1 _ hB_2)).mono ?_
    rintro e w1 ⟨rfl, hb1⟩
    replace hB := bt hB_2 hb1
    replace x := x_3.below hb1 x_3.lt
    replace xk := blk3 x
    replace y := y.below hb1 y.lt
    replace yk := blk3 y
    clear hB_1 hB_2 xk_3 x_3
    go_wp2_with fail
    go_ret
    exact ⟨by rw [Hw.out]; rfl, hB⟩
  · have Hw := hid (show t.same u = false by rw [Hs.out, decide_eq_false h]; rfl)
    have g : ((t.seq : Int) == (u.seq : Int)) = false := by rw [beq_eq_false_iff_ne]; omega
    clear h
    go_enter Try.func20, Try.ntmps20
    go_wp2_with fail
    go_ret
    exact ⟨by rw [Hw.out]; rfl, hB_2⟩
set_option maxRecDepth 100000 in
theorem r6_same (t u : Tx) (p q p' q' : Pl) (w : World) (hL : IsPn w t.plan p q) (hM : IsPn w u.plan p' q') (ht : t.plan.targets.length ≤ 1000000) (hd : t.plan.data.length ≤ 1000000) (ht' : u.plan.targets.length ≤ 1000000) (hd' : u.plan.data.length ≤ 1000000) :
    Calls Try.prog 15 #[tval t p q, tval u p' q'] w fun e w' => e = .returned (.bool (t.same u)) ∧ Below w.heap.size w w' := by
  have h1 := fun (W : World) (hb : Below w.heap.size w W) => r5_same t.plan u.plan p q p' q' W (hL.below hb) (hM.below hb) ht hd ht' hd'
  have Hs := hid (show t.same u = (decide (t.seq = u.seq) && t.plan.same u.plan) from rfl)
  generalize t.plan.same u.plan = S at *
  clear hL hM
  have hB := Below.refl w.heap.size w
  have x := Blk.new w 28 #[.int .u64 t.seq, .slice p.a t.plan.targets.length p.c, .slice q.a t.plan.data.length q.c]
  have xk := blk3 x
  have hB_1 := hB.alloc hB.size (.cells #[.int .u64 t.seq, .slice p.a t.plan.targets.length p.c, .slice q.a t.plan.data.length q.c] 28)
  have y := Blk.new (w.alloc (.cells #[.int .u64 t.seq, .slice p.a t.plan.targets.length p.c, .slice q.a t.plan.data.length q.c] 28)) 28 #[.int .u64 u.seq, .slice p'.a u.plan.targets.length p'.c, .slice q'.a u.plan.data.length q'.c]
  simp only [World.size_alloc] at y
  have yk := blk3 y
  have hB_2 := hB_1.alloc hB_1.size (.cells #[.int .u64 u.seq, .slice p'.a u.plan.targets.length p'.c, .slice q'.a u.plan.data.length q'.c] 28)
  have x_3 := x.alloc (.cells #[.int .u64 u.seq, .slice p'.a u.plan.targets.length p'.c, .slice q'.a u.plan.data.length q'.c] 28)
  have xk_3 := blk3 x_3
  by_cases h : t.seq = u.seq
  · have Hw := hid (show t.same u = S by rw [Hs.out, decide_eq_true h]; rfl)
    have g : ((t.seq : Int) == (u.seq : Int)) = true := by rw [beq_iff_eq]; omega
    clear h
    go_enter Try.func15, Try.ntmps15
    go_wp2_with fail
    go_at_call 42
    refine ((h1 _ hB_2)).mono ?_
    rintro e w1 ⟨rfl, hb1⟩
    replace hB := bt hB_2 hb1
    replace x := x_3.below hb1 x_3.lt
    replace xk := blk3 x
    replace y := y.below hb1 y.lt
    replace yk := blk3 y
    clear hB_1 hB_2 xk_3 x_3
    go_wp2_with fail
    go_ret
    exact ⟨by rw [Hw.out]; rfl, hB⟩
  · have Hw := hid (show t.same u = false by rw [Hs.out, decide_eq_false h]; rfl)
    have g : ((t.seq : Int) == (u.seq : Int)) = false := by rw [beq_eq_false_iff_ne]; omega
    clear h
    go_enter Try.func15, Try.ntmps15
    go_wp2_with fail
    go_ret
    exact ⟨by rw [Hw.out]; rfl, hB_2⟩
set_option maxRecDepth 100000 in
theorem r6_count (s : List UInt8) (hs : s.length ≤ maxLen) (w : World) : Calls Try.prog 19 #[.string (bs s)] w fun e w' => e = .returned (.int .i64 (hcount s)) ∧ Below w.heap.size w w' := by
  unfold maxLen at hs
  by_cases h1 : s.length = 64
  · have g1 : ((s.length : Int) != 64) = false := by simp; omega
    have hpt := prefix_take (s := s) (by omega)
    by_cases h2 : s.take 4 = magicJ
    · have hpr : magicJ.isPrefixOf s = true := by rw [hpt, decide_eq_true h2]
      have ht1 := fun W => rtake_ok (s.drop 12) (by unfold maxLen; rw [List.length_drop]; omega) 2 (by omega) (by omega) (by rw [List.length_drop]; omega) W
      have ht2 := fun W => rtake_ok ((s.drop 12).drop 2) (by unfold maxLen; rw [List.length_drop, List.length_drop]; omega) 2 (by omega) (by omega) (by rw [List.length_drop, List.length_drop]; omega) W
      have hn1 : un ((s.drop 12).take (2 : Int).toNat) = hn s := rfl
      have hm1 : un (((s.drop 12).drop 2).take (2 : Int).toNat) = hm s := by rw [List.drop_drop]; rfl
      have hnl := hn_lt s
      have hml := hm_lt s
      rw [hn1] at ht1
      rw [hm1] at ht2
      have hsz := fun W => r6_size (hn s) (by unfold okI; omega) W
      have e1 : List.drop 12 (List.take 64 s) = s.drop 12 := by rw [List.take_of_length_le (by omega)]
      have Hno := hid (hcount_no (s := s))
      have Hyes := hid (hcount_yes (s := s) h1 hpr)
      have w1 := i64w (x := (hn s : Int)) ⟨by omega, by omega⟩
      have w2 := u64w (x := 65535 - (hn s : Int)) ⟨by omega, by omega⟩
      have e2 : (s.drop 12).drop (2 : Int).toNat = (s.drop 12).drop 2 := rfl
      have e3 : (s.take 4 == magicJ) = true := by rw [h2]; simp
      have e4 : (s.take 4 == [67, 79, 70, 74]) = true := e3
      rw [e2] at ht1
      clear hn1 hm1 e2 h2 hpt hpr e3
      generalize s.drop 12 = s12 at *
      generalize s12.drop 2 = s14 at *
      generalize hN : hn s = N at *
      generalize hM : hm s = M at *

      by_cases h3 : txSizeI N = 0
      · have Hw := hid (Hno.out (.inr (.inr (.inl h3))))
        rw [h3] at hsz
        clear h3
        go_enter Try.func19, Try.ntmps19
        go_wp2_with fail
        go_at_call 41
        refine (ht1 _).mono ?_
        rintro e w2 ⟨rfl, hb2⟩
        go_wp2_with fail
        go_at_call 41
        refine (ht2 _).mono ?_
        rintro e w3 ⟨rfl, hb3⟩
        go_wp2_with fail
        go_at_call 17
        refine (hsz _).mono ?_
        rintro e w4 ⟨rfl, hb4⟩
        go_wp2_with fail
        go_ret
        exact ⟨by rw [Hw.out]; rfl, bt (bt hb2 hb3) hb4⟩
      · have g3 : (txSizeI N == 0) = false := by simpa using h3
        by_cases h4 : N + M = 65535
        · have Hw := hid (Hyes.out h3 h4)
          have g4 : ((M : Int) != 65535 - (N : Int)) = false := by simp; omega
          generalize txSizeI N = Z at *
          clear h3 Hno Hyes
          go_enter Try.func19, Try.ntmps19
          go_wp2_with fail
          go_at_call 41
          refine (ht1 _).mono ?_
          rintro e w2 ⟨rfl, hb2⟩
          go_wp2_with fail
          go_at_call 41
          refine (ht2 _).mono ?_
          rintro e w3 ⟨rfl, hb3⟩
          go_wp2_with fail
          go_at_call 17
          refine (hsz _).mono ?_
          rintro e w4 ⟨rfl, hb4⟩
          go_wp2_with fail
          go_ret
          exact ⟨by rw [Hw.out]; rfl, bt (bt hb2 hb3) hb4⟩
        · have Hw := hid (Hno.out (.inr (.inr (.inr h4))))
          have g4 : ((M : Int) != 65535 - (N : Int)) = true := by simp; omega
          generalize txSizeI N = Z at *
          clear h3 Hno Hyes h4
          go_enter Try.func19, Try.ntmps19
          go_wp2_with fail
          go_at_call 41
          refine (ht1 _).mono ?_
          rintro e w2 ⟨rfl, hb2⟩
          go_wp2_with fail
          go_at_call 41
          refine (ht2 _).mono ?_
          rintro e w3 ⟨rfl, hb3⟩
          go_wp2_with fail
          go_at_call 17
          refine (hsz _).mono ?_
          rintro e w4 ⟨rfl, hb4⟩
          go_wp2_with fail
          go_ret
          exact ⟨by rw [Hw.out]; rfl, bt (bt hb2 hb3) hb4⟩
    · have Hw := hid (hcount_no (s := s) (.inr (.inl (by rw [hpt, decide_eq_false h2]))))
      have e4 : (s.take 4 == [67, 79, 70, 74]) = false := by rw [beq_eq_false_iff_ne]; exact h2
      clear h2 hpt

      go_enter Try.func19, Try.ntmps19
      go_wp2_with fail
      go_ret
      exact ⟨by rw [Hw.out]; rfl, Below.refl _ _⟩
  · have g1 : ((s.length : Int) != 64) = true := by simp; omega
    have Hw := hid (hcount_no (s := s) (.inl h1))
    go_enter Try.func19, Try.ntmps19
    go_wp2_with fail
    go_ret
    exact ⟨by rw [Hw.out]; rfl, Below.refl _ _⟩
theorem sector_nat {x : Int} (h : sectorOk x = true) : ∃ k : Nat, x = k ∧ k < 1024 := by
  simp only [sectorOk, Bool.and_eq_true, decide_eq_true_eq] at h
  obtain ⟨k, rfl⟩ := Int.eq_ofNat_of_zero_le h.1
  exact ⟨k, rfl, by omega⟩
set_option maxRecDepth 100000 in
theorem r6_write_no (t : Tx) (p q : Pl) (w : World) (hL : IsPn w t.plan p q) (ht : ¬ t.Ok) :
    Calls Try.prog 11 #[tval t p q] w fun e w' => RetRows w 9 t.write e w' ∧ Below w.heap.size w w' := by
  have Hw := hid (show t.write = ([], 25) by unfold Tx.write; rw [if_neg ht])
  have hpm := hL.pm
  have hpc := hL.pc
  unfold maxLen at hpm
  have hz : ∀ W : World, W.ownsRow w.heap.size 9 1 (.slice none 0 0) 0 [] := fun W => World.ownsRow_nil _ _ _ _
  have x0 := Blk.new w 28 #[.int .u64 t.seq, .slice p.a t.plan.targets.length p.c, .slice q.a t.plan.data.length q.c]
  have hb := (Below.refl w.heap.size w).alloc (Nat.le_refl _) (.cells #[.int .u64 t.seq, .slice p.a t.plan.targets.length p.c, .slice q.a t.plan.data.length q.c] 28)
  have k0 := blk3 x0
  have hfit := fun (W : World) (hb : Below w.heap.size w W) => r5_fit t.plan p q W (hL.below hb)
  by_cases hf : t.plan.Fit
  · have h0 : t.plan.targets = [] := Classical.byContradiction fun h => ht ⟨hf, h⟩
    rw [Pn.fit_iff.2 hf] at hfit
    have hl' : ((t.plan.targets.length : Int) == 0) = true := by simp [h0]
    clear h0 hf ht hL
    go_enter Try.func11, Try.ntmps11
    go_wp2_with fail
    go_at_call 29
    refine (hfit _ hb).mono ?_
    rintro e w1 ⟨rfl, hb1⟩
    go_wp2_with fail
    go_ret2
    exact ⟨⟨_, by rw [Hw.out]; rfl, by rw [Hw.out]; exact hz _⟩, bt hb hb1⟩
  · rw [Pn.fit_no hf] at hfit
    clear hf ht hL
    go_enter Try.func11, Try.ntmps11
    go_wp2_with fail
    go_at_call 29
    refine (hfit _ hb).mono ?_
    rintro e w1 ⟨rfl, hb1⟩
    go_wp2_with fail
    go_ret2
    exact ⟨⟨_, by rw [Hw.out]; rfl, by rw [Hw.out]; exact hz _⟩, bt hb hb1⟩
end Go.Proofs.Ytkiokdphjfkocaa
