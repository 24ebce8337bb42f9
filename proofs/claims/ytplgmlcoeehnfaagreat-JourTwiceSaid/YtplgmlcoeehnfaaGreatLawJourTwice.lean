/- JourTwice: a replay done twice is one, without the document's answers: any fit device of few writes. No condition. -/
import Derived.Test.YtplgmlcoeehnfaaGreatLaw07b
import Derived.Test.YtplgmlcoeehnfaaGreatPlan6
import Derived.Test.YtplgmlcoeehnfaaGreatDev4
import Derived.Test.YtplgmlcoeehnfaaGreatJour15
set_option linter.unusedVariables false
namespace Go.Proofs.YtplgmlcoeehnfaaGreat.jourTwice
open Go.RowKit Go.Shelf Go.WideShapes Go.ChangeShapes Go.ChangeAt
open Go.ChangeMaps (open_string shut_string)
attribute [local go_sem] bs_mk bs_append bs_extract bs_size bs_toList bs_get
theorem twice_bad {D A : Dk} {j : Jr} {e : Int} (h : jrReplay D = (A, j, e)) (he : e ≠ 0) : j = Jr.none := by
  unfold jrReplay at h
  split at h
  · exact (Prod.mk.inj (Prod.mk.inj h).2).1.symm
  split at h
  · exact (Prod.mk.inj (Prod.mk.inj h).2).1.symm
  · exact absurd (Prod.mk.inj (Prod.mk.inj h).2).2.symm he
theorem twice_off {D A : Dk} {j : Jr} (h : jrReplay D = (A, j, 0)) : A.off = false := by
  unfold jrReplay at h
  split at h
  · rename_i h1
    exact absurd (Prod.mk.inj (Prod.mk.inj h).2).2 h1
  split at h
  · rename_i h1
    exact absurd (Prod.mk.inj (Prod.mk.inj h).2).2 h1
  rename_i h2
  have h2 : (Dk.next (jrSteps D (jrScan D).1) Dk.flush).2 = 0 := by simpa using h2
  have hA : (Dk.next (jrSteps D (jrScan D).1) Dk.flush).1 = A := (Prod.mk.inj h).1
  have hE0 : (jrSteps D (jrScan D).1).2 = 0 := by
    rcases Classical.em ((jrSteps D (jrScan D).1).2 = 0) with h | h
    · exact h
    · rw [Dk.next_err h] at h2; exact absurd h2 h
  rw [Dk.next_zero hE0] at h2 hA
  generalize (jrSteps D (jrScan D).1).1 = E at *
  obtain ⟨fo, fe⟩ := Dk.flush_zero h2
  rw [← hA, fe]
  exact fo
/-- What a good replay leaves, and what one more tells. -/
theorem twice_good {D A : Dk} {j : Jr} (hf : D.fit = true) (hs : 112 ≤ D.sz) (h : jrReplay D = (A, j, 0)) (hout : ∀ x ∈ (jrScan D).1, ∀ k ∈ x.2.plan.targets, ¬ (6 ≤ k ∧ k < 87)) :
    A.fit = true ∧ A.off = false ∧ A.cache = [] ∧ ∀ n, n < 0 → ∃ B, jrReplay ⟨A.data, [], n, false, A.bad⟩ = (B, j, 0) ∧ B.data = A.data ∧ B.cache = [] := by
  have h1 := jrReplay_fit hf
  rw [h] at h1
  exact ⟨h1, twice_off h, (jrTwice (A' := ⟨A.data, [], -1, false, A.bad⟩) hf hs h hout rfl rfl rfl rfl (show (-1 : Int) < 0 by decide)).1, fun n hn => (jrTwice (A' := ⟨A.data, [], n, false, A.bad⟩) hf hs h hout rfl rfl rfl rfl hn).2⟩
theorem fit_again {d : List UInt8} {f n : Int} {b : List Int} (h : (⟨d, [], f, false, b⟩ : Dk).fit = true) : (⟨d, [], n, false, b⟩ : Dk).fit = true := Dk.fit_of h rfl rfl rfl
set_option maxRecDepth 100000 in
theorem walk_no (D : Dk) (p q : Pl) (w : World) (h0 : IsDk0 w D p q) (hbl : D.bad.length ≤ 17592186044416) (hg : good7 D = false) :
    Calls Tryz.prog 11 #[dval D p q] w fun e w' => e = .returned (.bool true) ∧ Below w.heap.size w w' := by
  have hG := fun (W : World) (hb : Below w.heap.size w W) => good07 D p q W (h0.below hb) hbl
  rw [hg] at hG
  clear h0 hg
  obtain ⟨A1, a1⟩ := p
  obtain ⟨A2, a2⟩ := q
  have hB := Below.refl w.heap.size w
  have x := Blk.new w 25 #[.string (bs D.data), .slice A1 D.cache.length a1, .int .i64 D.fuse, .bool D.off, .slice A2 D.bad.length a2]
  have xk := blk5 x
  have hB_1 := hB.alloc hB.size (.cells #[.string (bs D.data), .slice A1 D.cache.length a1, .int .i64 D.fuse, .bool D.off, .slice A2 D.bad.length a2] 25)
  go_enter Tryz.func11, Tryz.ntmps11
  go_wp2_with fail
  go_at_call 37
  refine ((hG _ hB_1)).mono ?_
  rintro e w1 ⟨rfl, hb1⟩
  replace hB := bt hB_1 hb1
  replace x := x.below hb1 x.lt
  replace xk := blk5 x
  clear hB_1
  go_wp2_with fail
  go_at_call 32
  refine ((awake07 _)).mono ?_
  rintro e w2 ⟨rfl, hb2⟩
  replace hB := bt hB hb2
  replace x := x.below hb2 x.lt
  replace xk := blk5 x
  go_wp2_with fail
  go_ret
  exact ⟨rfl, hB⟩
set_option maxRecDepth 100000 in
set_option maxHeartbeats 2000000 in
theorem walk_ok (D : Dk) (p q : Pl) (w : World) (h0 : IsDk0 w D p q) (hbl : D.bad.length ≤ 17592186044416) (hg : good7 D = true) :
    Calls Tryz.prog 11 #[dval D p q] w fun e w' => e = .returned (.bool true) ∧ Below w.heap.size w w' := by
  obtain ⟨g1, g2, g3, g4⟩ := good7_iff.1 hg
  have hD := h0.full (by omega) hbl (by omega)
  have hG := fun (W : World) (hb : Below w.heap.size w W) => good07 D p q W (h0.below hb) hbl
  rw [hg] at hG
  have hS := fun (W : World) (hb : Below w.heap.size w W) => scanned07 D p q W (hD.below hb) g3
  have hR := fun (W : World) (hb : Below w.heap.size w W) => j_replay D p q W (hD.below hb) g3
  have Hbad := hid (fun (A : Dk) (j : Jr) (e : Int) (h : jrReplay D = (A, j, e)) (he : e ≠ 0) => twice_bad h he)
  have Hgood := hid (fun (A : Dk) (j : Jr) (h : jrReplay D = (A, j, 0)) (hout : ∀ x ∈ (jrScan D).1, ∀ k ∈ x.2.plan.targets, ¬ (6 ≤ k ∧ k < 87)) => twice_good g3 g4 h hout)
  have Hfit := hid (fun (x : Nat × Tx) (h : x ∈ (jrScan D).1) => jrScan_ok h)
  have Hlen := hid (jrScan_len D)
  obtain ⟨⟨A, ⟨ys, yp⟩, ye⟩, hA⟩ : ∃ X, jrReplay D = X := ⟨_, rfl⟩
  rw [hA] at hR
  have HA := hid hA
  clear h0 hg hD g1 g2 g3 g4 hA
  obtain ⟨A1, a1⟩ := p
  obtain ⟨A2, a2⟩ := q
  have hB := Below.refl w.heap.size w
  have x := Blk.new w 25 #[.string (bs D.data), .slice A1 D.cache.length a1, .int .i64 D.fuse, .bool D.off, .slice A2 D.bad.length a2]
  have xk := blk5 x
  have hB_1 := hB.alloc hB.size (.cells #[.string (bs D.data), .slice A1 D.cache.length a1, .int .i64 D.fuse, .bool D.off, .slice A2 D.bad.length a2] 25)
  go_enter Tryz.func11, Tryz.ntmps11
  go_wp2_with fail
  go_at_call 37
  refine ((hG _ hB_1)).mono ?_
  rintro e w1 ⟨rfl, hb1⟩
  replace hB := bt hB_1 hb1
  replace x := x.below hb1 x.lt
  replace xk := blk5 x
  clear hB_1
  go_wp2_with fail
  go_at_call 46
  refine ((hS _ hB)).mono ?_
  rintro e w2 ⟨⟨L, v, hL, rfl, hv, hvo⟩, hb2⟩
  replace hB := bt hB hb2
  replace x := x.below hb2 x.lt
  replace xk := blk5 x
  have Hfd := hid (fun (x : Fd) (hx : x ∈ L) => show x.tx.plan.targets.length ≤ 1000000 from by
    have h := (Hfit.out x.it (by rw [← hL]; exact List.mem_map.2 ⟨x, hx, rfl⟩)).1.1
    have h2 : x.tx.plan.targets.length ≤ 24 := h.2.1
    omega)
  have hl1 : L.length ≤ 1000 := by have := Hlen.out; have h := congrArg List.length hL; rw [List.length_map] at h; rw [h]; exact Nat.le_trans this (by decide)
  obtain ⟨V, c, rfl, z1, z2, z3⟩ := own_slice hv
  have HL := hid hL
  have Hcell := hid (fun (W : World) (hW : Below w2.heap.size w2 W) => (Cells.of_own hv).below hW)
  have Hok := hid (fun (W : World) (hW : Below w2.heap.size w2 W) (x : Fd) (hx : x ∈ L) => ((hvo.below hW) x hx).pn.targets)
  have X2 := hid x
  have HB2 := hid hB
  clear hL hv hvo Hfit Hlen z1 z2 z3 hS hG x xk hB
  go_wp2_with fail
  go_loopw [20] (fun u W => ∃ i : Nat, i ≤ L.length ∧ u = .int .i64 i ∧ Hid (∀ j (hj : j < L.length), j < i → ∀ k ∈ L[j].tx.plan.targets, ¬ (6 ≤ k ∧ k < 87)) ∧ Below w2.heap.size w2 W) (fun u _ => L.length - (intOf u).toNat)
  case atStart => exact ⟨0, Nat.zero_le _, rfl, hid (fun j hj h0 => by omega), Below.refl _ _⟩
  case round =>
    obtain ⟨i, hi, rfl, hno, hb⟩ := hrel
    by_cases hlt : i < L.length
    · obtain ⟨cb, co, e1, hc⟩ := (Hcell.out _ hb).fd hlt
      have e1' : V = some ⟨cb, co, none⟩ := e1
      subst e1'
      obtain ⟨m1, m2, m3, m4⟩ := hc i hlt
      have hx24 := Hfd.out _ (List.getElem_mem hlt)
      have Htc := hid (fun (W : World) (hW : Below w2.heap.size w2 W) => Hok.out W hW _ (List.getElem_mem hlt))
      have Hnext := hid (fun (h : ∀ k ∈ L[i].tx.plan.targets, ¬ (6 ≤ k ∧ k < 87)) => show ∀ j (hj : j < L.length), j < i + 1 → ∀ k ∈ L[j].tx.plan.targets, ¬ (6 ≤ k ∧ k < 87) from fun j hj hji => by
        rcases Nat.lt_or_ge j i with h' | h'
        · exact hno.out j hj h'
        · obtain rfl : j = i := by omega
          exact h)
      clear e1 hc hno
      generalize L[i] = x at *
      obtain ⟨xp, xt, ⟨xa, xac⟩, ⟨xb, xbc⟩⟩ := x
      simp only at m1 m2 m3 m4 hx24
      have hfb := Blk.new wr 94 #[.int .i64 xp, .int .u64 xt.seq, .slice xa xt.plan.targets.length xac, .slice xb xt.plan.data.length xbc]
      have kfb := blk4 hfb
      have hba := hb.alloc hb.size (.cells #[.int .i64 xp, .int .u64 xt.seq, .slice xa xt.plan.targets.length xac, .slice xb xt.plan.data.length xbc] 94)
      go_wp2_with fail
      generalize wr.alloc (.cells #[.int .i64 xp, .int .u64 xt.seq, .slice xa xt.plan.targets.length xac, .slice xb xt.plan.data.length xbc] 94) = wa at *
      clear m1 m2 m3 m4 kfb hfb
      go_loopw [29] (fun u W => ∃ k : Nat, k ≤ xt.plan.targets.length ∧ u = .int .i64 k ∧ Hid (∀ j (hj : j < xt.plan.targets.length), j < k → ¬ (6 ≤ xt.plan.targets[j] ∧ xt.plan.targets[j] < 87)) ∧ W = wa) (fun u _ => xt.plan.targets.length - (intOf u).toNat)
      case atStart => exact ⟨0, Nat.zero_le _, rfl, hid (fun j hj h0 => by omega), rfl⟩
      case round =>
        obtain ⟨k, hk, rfl, hno, rfl⟩ := hrel
        by_cases hkt : k < xt.plan.targets.length
        · obtain ⟨db, dof, e1, ct⟩ := (Htc.out _ hba).int hkt
          have e1' : xa = some ⟨db, dof, none⟩ := e1
          subst e1'
          replace ct := ct k hkt
          have Hk := hid (fun (h : ¬ (6 ≤ xt.plan.targets[k] ∧ xt.plan.targets[k] < 87)) => show ∀ j (hj : j < xt.plan.targets.length), j < k + 1 → ¬ (6 ≤ xt.plan.targets[j] ∧ xt.plan.targets[j] < 87) from fun j hj hji => by
            rcases Nat.lt_or_ge j k with h' | h'
            · exact hno.out j hj h'
            · obtain rfl : j = k := by omega
              exact h)
          generalize xt.plan.targets[k] = t at *
          clear e1 hno
          by_cases h6 : 6 ≤ t
          · by_cases h87 : t < 87
            · go_wp2_with fail
              go_at_call 32
              refine (awake07 _).mono ?_
              rintro e w3 ⟨rfl, hb3⟩
              go_wp2_with fail
              go_ret
              exact ⟨rfl, bt (bt HB2.out hba) hb3⟩
            · have Hk2 := hid (Hk.out (fun h => h87 h.2))
              clear Hk
              go_wp2_with fail
              go_roundw
              case rel => exact ⟨k + 1, by omega, by go_num, Hk2, trivial⟩
              case measure => simp [intOf]; omega
          · have Hk2 := hid (Hk.out (fun h => h6 h.1))
            clear Hk
            go_wp2_with fail
            go_roundw
            case rel => exact ⟨k + 1, by omega, by go_num, Hk2, trivial⟩
            case measure => simp [intOf]; omega
        · obtain rfl : k = xt.plan.targets.length := by omega
          have Hn2 := hid (Hnext.out (fun t ht => by
            obtain ⟨j, hj, rfl⟩ := List.getElem_of_mem ht
            exact hno.out j hj hj))
          clear Hnext hno
          go_wp2_with fail
          go_roundw
          case rel => exact ⟨i + 1, by omega, by go_num, Hn2, hba⟩
          case measure => simp [intOf]; omega
    · obtain rfl : i = L.length := by omega
      have Hout := hid (show ∀ x ∈ (jrScan D).1, ∀ k ∈ x.2.plan.targets, ¬ (6 ≤ k ∧ k < 87) by
        rw [← HL.out]
        intro x hx
        obtain ⟨f, hf, rfl⟩ := List.mem_map.1 hx
        obtain ⟨j, hj, rfl⟩ := List.getElem_of_mem hf
        exact hno.out j hj hj)
      clear hno
      have x := X2.out.below hb X2.out.lt
      have hB := bt HB2.out hb
      have xk := blk5 x
      clear hb X2 HB2
      go_wp2_with fail
      go_at_call 42
      refine ((hR _ hB)).mono ?_
      rintro e w3 ⟨⟨p1, q1, rfl, i1, o1⟩, hb3⟩
      replace hB := bt hB hb3
      replace x := x.below hb3 x.lt
      replace xk := blk5 x
      have hap := i1.apart (Nat.le_refl w3.heap.size)
      have s3 := hB.size
      have xlt := x.lt
      by_cases he : ye = 0
      · subst he
        have tt := Hgood.out _ _ HA.out Hout.out
        clear Hbad Hgood HA Hout
        obtain ⟨dat, cac, fus, off, bad⟩ := A
        obtain ⟨t1, t2, t3, t4⟩ := tt
        obtain rfl : off = false := t2
        obtain rfl : cac = [] := t3
        have T4 := hid t4
        have T1 := hid t1
        clear t1 t4
        by_cases hf : 0 ≤ fus
        · obtain ⟨B, hq⟩ := T4.out (-1) (by omega)
          have hR2 := fun (W : World) (h : IsDk W ⟨dat, [], -1, false, bad⟩ p1 q1) => j_replay ⟨dat, [], -1, false, bad⟩ p1 q1 W h (fit_again T1.out)
          obtain ⟨dat2, cac2, fus2, off2, bad2⟩ := B
          obtain ⟨hRB, hBd, hBc⟩ := hq
          rw [hRB] at hR2
          obtain rfl : dat2 = dat := hBd
          obtain rfl : cac2 = [] := hBc
          clear hRB T1 T4
          have hArm := fun W h => d_arm ⟨dat2, [], fus, false, bad⟩ p1 q1 W h (-1) (by decide)
          rw [show Dk.arm ⟨dat2, [], fus, false, bad⟩ (-1) = ⟨dat2, [], -1, false, bad⟩ from rfl] at hArm
          have hap2 : DkOff w3.heap.size (⟨dat2, [], -1, false, bad⟩ : Dk) p1 q1 := hap
          have a := Blk.new w3 25 #[.string (bs dat2), .slice p1.a 0 p1.c, .int .i64 fus, .bool false, .slice q1.a bad.length q1.c]
          have ak := blk5 a
          have akf := a.frozen
          have hB_1 := hB.alloc hB.size (.cells #[.string (bs dat2), .slice p1.a 0 p1.c, .int .i64 fus, .bool false, .slice q1.a bad.length q1.c] 25)
          have x_2 := x.alloc (.cells #[.string (bs dat2), .slice p1.a 0 p1.c, .int .i64 fus, .bool false, .slice q1.a bad.length q1.c] 25)
          have xk_2 := blk5 x_2
          have i1_3 := i1.below ((Below.refl _ _).alloc (Nat.le_refl _) (.cells #[.string (bs dat2), .slice p1.a 0 p1.c, .int .i64 fus, .bool false, .slice q1.a bad.length q1.c] 25))
          have b := Blk.new (w3.alloc (.cells #[.string (bs dat2), .slice p1.a 0 p1.c, .int .i64 fus, .bool false, .slice q1.a bad.length q1.c] 25)) 72 #[.int .u64 ys, .int .i64 yp]
          simp only [World.size_alloc] at b
          have bk := blk2 b
          have hB_4 := hB_1.alloc hB_1.size (.cells #[.int .u64 ys, .int .i64 yp] 72)
          have x_5 := x_2.alloc (.cells #[.int .u64 ys, .int .i64 yp] 72)
          have xk_5 := blk5 x_5
          have i1_6 := i1_3.below ((Below.refl _ _).alloc (Nat.le_refl _) (.cells #[.int .u64 ys, .int .i64 yp] 72))
          have a_7 := a.alloc (.cells #[.int .u64 ys, .int .i64 yp] 72)
          have ak_7 := blk5 a_7
          have akf_7 := a_7.frozen
          go_wp2_with fail
          go_at_call 47
          refine ((hArm _ i1_6)).mono ?_
          rintro e w4 ⟨⟨rfl, i2⟩, hb4⟩
          replace hB := bt hB_4 hb4
          replace x := x_5.below hb4 x_5.lt
          replace xk := blk5 x
          replace i1 := i1_6.below hb4
          replace a := a_7.below hb4 a_7.lt
          replace ak := blk5 a
          replace akf := a.frozen
          replace b := b.below hb4 b.lt
          replace bk := blk2 b
          clear hB_1 xk_2 x_2 i1_3 hB_4 xk_5 x_5 i1_6 ak_7 akf_7 a_7
          have s4 := hb4.size
          simp only [World.size_alloc] at s4
          have hB_8 := below_set5 hB (g := w3.heap.size) (by omega) (.string (bs dat2)) (.slice p1.a 0 p1.c) (.int .i64 (-1)) (.bool false) (.slice q1.a bad.length q1.c)
          have x_9 := blk_off5 x (g := w3.heap.size) (by omega) (.string (bs dat2)) (.slice p1.a 0 p1.c) (.int .i64 (-1)) (.bool false) (.slice q1.a bad.length q1.c)
          have xk_9 := blk5 x_9
          have a_10 := blk_set5 a (.string (bs dat2)) (.slice p1.a 0 p1.c) (.int .i64 (-1)) (.bool false) (.slice q1.a bad.length q1.c)
          have ak_10 := blk5 a_10
          have akf_10 := a_10.frozen
          have b_11 := blk_off5 b (g := w3.heap.size) (by omega) (.string (bs dat2)) (.slice p1.a 0 p1.c) (.int .i64 (-1)) (.bool false) (.slice q1.a bad.length q1.c)
          have bk_11 := blk2 b_11
          have i2_12 := i2.off5 (g := w3.heap.size) (by first | assumption | omega) (.string (bs dat2)) (.slice p1.a 0 p1.c) (.int .i64 (-1)) (.bool false) (.slice q1.a bad.length q1.c)
          go_wp2_with fail
          go_at_call 42
          refine ((hR2 _ i2_12)).mono ?_
          rintro e w5 ⟨⟨p5, q5, rfl, i5, o5⟩, hb5⟩
          replace hB := bt hB_8 hb5
          replace x := x_9.below hb5 x_9.lt
          replace xk := blk5 x
          replace a := a_10.below hb5 a_10.lt
          replace ak := blk5 a
          replace akf := a.frozen
          replace b := b_11.below hb5 b_11.lt
          replace bk := blk2 b
          replace i2 := i2_12.below hb5
          clear hB_8 xk_9 x_9 ak_10 akf_10 a_10 bk_11 b_11 i2_12
          have c := Blk.new w5 25 #[.string (bs dat2), .slice p5.a 0 p5.c, .int .i64 fus2, .bool off2, .slice q5.a bad2.length q5.c]
          have ck := blk5 c
          have hB_13 := hB.alloc hB.size (.cells #[.string (bs dat2), .slice p5.a 0 p5.c, .int .i64 fus2, .bool off2, .slice q5.a bad2.length q5.c] 25)
          have x_14 := x.alloc (.cells #[.string (bs dat2), .slice p5.a 0 p5.c, .int .i64 fus2, .bool off2, .slice q5.a bad2.length q5.c] 25)
          have xk_14 := blk5 x_14
          have a_15 := a.alloc (.cells #[.string (bs dat2), .slice p5.a 0 p5.c, .int .i64 fus2, .bool off2, .slice q5.a bad2.length q5.c] 25)
          have ak_15 := blk5 a_15
          have akf_15 := a_15.frozen
          have b_16 := b.alloc (.cells #[.string (bs dat2), .slice p5.a 0 p5.c, .int .i64 fus2, .bool off2, .slice q5.a bad2.length q5.c] 25)
          have bk_16 := blk2 b_16
          have d := Blk.new (w5.alloc (.cells #[.string (bs dat2), .slice p5.a 0 p5.c, .int .i64 fus2, .bool off2, .slice q5.a bad2.length q5.c] 25)) 72 #[.int .u64 ys, .int .i64 yp]
          simp only [World.size_alloc] at d
          have dk := blk2 d
          have hB_17 := hB_13.alloc hB_13.size (.cells #[.int .u64 ys, .int .i64 yp] 72)
          have x_18 := x_14.alloc (.cells #[.int .u64 ys, .int .i64 yp] 72)
          have xk_18 := blk5 x_18
          have a_19 := a_15.alloc (.cells #[.int .u64 ys, .int .i64 yp] 72)
          have ak_19 := blk5 a_19
          have akf_19 := a_19.frozen
          have b_20 := b_16.alloc (.cells #[.int .u64 ys, .int .i64 yp] 72)
          have bk_20 := blk2 b_20
          have c_21 := c.alloc (.cells #[.int .u64 ys, .int .i64 yp] 72)
          have ck_21 := blk5 c_21
          go_wp2_with fail
          go_at_call 32
          refine ((awake07 _)).mono ?_
          rintro e w6 ⟨rfl, hb6⟩
          replace hB := bt hB_17 hb6
          replace x := x_18.below hb6 x_18.lt
          replace xk := blk5 x
          replace a := a_19.below hb6 a_19.lt
          replace ak := blk5 a
          replace akf := a.frozen
          replace b := b_20.below hb6 b_20.lt
          replace bk := blk2 b
          replace c := c_21.below hb6 c_21.lt
          replace ck := blk5 c
          replace d := d.below hb6 d.lt
          replace dk := blk2 d
          clear hB_13 xk_14 x_14 ak_15 akf_15 a_15 bk_16 b_16 hB_17 xk_18 x_18 ak_19 akf_19 a_19 bk_20 b_20 ck_21 c_21
          go_wp2_with fail
          go_ret
          exact ⟨rfl, hB⟩
        · obtain ⟨B, hq⟩ := T4.out (fus) (by omega)
          have hR2 := fun (W : World) (h : IsDk W ⟨dat, [], fus, false, bad⟩ p1 q1) => j_replay ⟨dat, [], fus, false, bad⟩ p1 q1 W h (fit_again T1.out)
          obtain ⟨dat2, cac2, fus2, off2, bad2⟩ := B
          obtain ⟨hRB, hBd, hBc⟩ := hq
          rw [hRB] at hR2
          obtain rfl : dat2 = dat := hBd
          obtain rfl : cac2 = [] := hBc
          clear hRB T1 T4
          have a := Blk.new w3 25 #[.string (bs dat2), .slice p1.a 0 p1.c, .int .i64 fus, .bool false, .slice q1.a bad.length q1.c]
          have ak := blk5 a
          have akf := a.frozen
          have hB_1 := hB.alloc hB.size (.cells #[.string (bs dat2), .slice p1.a 0 p1.c, .int .i64 fus, .bool false, .slice q1.a bad.length q1.c] 25)
          have x_2 := x.alloc (.cells #[.string (bs dat2), .slice p1.a 0 p1.c, .int .i64 fus, .bool false, .slice q1.a bad.length q1.c] 25)
          have xk_2 := blk5 x_2
          have i1_3 := i1.below ((Below.refl _ _).alloc (Nat.le_refl _) (.cells #[.string (bs dat2), .slice p1.a 0 p1.c, .int .i64 fus, .bool false, .slice q1.a bad.length q1.c] 25))
          have b := Blk.new (w3.alloc (.cells #[.string (bs dat2), .slice p1.a 0 p1.c, .int .i64 fus, .bool false, .slice q1.a bad.length q1.c] 25)) 72 #[.int .u64 ys, .int .i64 yp]
          simp only [World.size_alloc] at b
          have bk := blk2 b
          have hB_4 := hB_1.alloc hB_1.size (.cells #[.int .u64 ys, .int .i64 yp] 72)
          have x_5 := x_2.alloc (.cells #[.int .u64 ys, .int .i64 yp] 72)
          have xk_5 := blk5 x_5
          have i1_6 := i1_3.below ((Below.refl _ _).alloc (Nat.le_refl _) (.cells #[.int .u64 ys, .int .i64 yp] 72))
          have a_7 := a.alloc (.cells #[.int .u64 ys, .int .i64 yp] 72)
          have ak_7 := blk5 a_7
          have akf_7 := a_7.frozen
          go_wp2_with fail
          go_at_call 42
          refine ((hR2 _ i1_6)).mono ?_
          rintro e w5 ⟨⟨p5, q5, rfl, i5, o5⟩, hb5⟩
          replace hB := bt hB_4 hb5
          replace x := x_5.below hb5 x_5.lt
          replace xk := blk5 x
          replace i1 := i1_6.below hb5
          replace a := a_7.below hb5 a_7.lt
          replace ak := blk5 a
          replace akf := a.frozen
          replace b := b.below hb5 b.lt
          replace bk := blk2 b
          clear hB_1 xk_2 x_2 i1_3 hB_4 xk_5 x_5 i1_6 ak_7 akf_7 a_7
          have c := Blk.new w5 25 #[.string (bs dat2), .slice p5.a 0 p5.c, .int .i64 fus2, .bool off2, .slice q5.a bad2.length q5.c]
          have ck := blk5 c
          have hB_8 := hB.alloc hB.size (.cells #[.string (bs dat2), .slice p5.a 0 p5.c, .int .i64 fus2, .bool off2, .slice q5.a bad2.length q5.c] 25)
          have x_9 := x.alloc (.cells #[.string (bs dat2), .slice p5.a 0 p5.c, .int .i64 fus2, .bool off2, .slice q5.a bad2.length q5.c] 25)
          have xk_9 := blk5 x_9
          have a_10 := a.alloc (.cells #[.string (bs dat2), .slice p5.a 0 p5.c, .int .i64 fus2, .bool off2, .slice q5.a bad2.length q5.c] 25)
          have ak_10 := blk5 a_10
          have akf_10 := a_10.frozen
          have b_11 := b.alloc (.cells #[.string (bs dat2), .slice p5.a 0 p5.c, .int .i64 fus2, .bool off2, .slice q5.a bad2.length q5.c] 25)
          have bk_11 := blk2 b_11
          have d := Blk.new (w5.alloc (.cells #[.string (bs dat2), .slice p5.a 0 p5.c, .int .i64 fus2, .bool off2, .slice q5.a bad2.length q5.c] 25)) 72 #[.int .u64 ys, .int .i64 yp]
          simp only [World.size_alloc] at d
          have dk := blk2 d
          have hB_12 := hB_8.alloc hB_8.size (.cells #[.int .u64 ys, .int .i64 yp] 72)
          have x_13 := x_9.alloc (.cells #[.int .u64 ys, .int .i64 yp] 72)
          have xk_13 := blk5 x_13
          have a_14 := a_10.alloc (.cells #[.int .u64 ys, .int .i64 yp] 72)
          have ak_14 := blk5 a_14
          have akf_14 := a_14.frozen
          have b_15 := b_11.alloc (.cells #[.int .u64 ys, .int .i64 yp] 72)
          have bk_15 := blk2 b_15
          have c_16 := c.alloc (.cells #[.int .u64 ys, .int .i64 yp] 72)
          have ck_16 := blk5 c_16
          go_wp2_with fail
          go_at_call 32
          refine ((awake07 _)).mono ?_
          rintro e w6 ⟨rfl, hb6⟩
          replace hB := bt hB_12 hb6
          replace x := x_13.below hb6 x_13.lt
          replace xk := blk5 x
          replace a := a_14.below hb6 a_14.lt
          replace ak := blk5 a
          replace akf := a.frozen
          replace b := b_15.below hb6 b_15.lt
          replace bk := blk2 b
          replace c := c_16.below hb6 c_16.lt
          replace ck := blk5 c
          replace d := d.below hb6 d.lt
          replace dk := blk2 d
          clear hB_8 xk_9 x_9 ak_10 akf_10 a_10 bk_11 b_11 hB_12 xk_13 x_13 ak_14 akf_14 a_14 bk_15 b_15 ck_16 c_16
          go_wp2_with fail
          go_ret
          exact ⟨rfl, hB⟩
      · have n1 : (ye != 0) = true := by simpa using he
        have hj := Hbad.out _ _ _ HA.out he
        obtain rfl : ys = 1 := congrArg Jr.seq hj
        obtain rfl : yp = 0 := congrArg Jr.pos hj
        clear hj he HA Hgood Hbad Hout
        have a := Blk.new w3 25 #[.string (bs A.data), .slice p1.a A.cache.length p1.c, .int .i64 A.fuse, .bool A.off, .slice q1.a A.bad.length q1.c]
        have ak := blk5 a
        have akf := a.frozen
        have hB_1 := hB.alloc hB.size (.cells #[.string (bs A.data), .slice p1.a A.cache.length p1.c, .int .i64 A.fuse, .bool A.off, .slice q1.a A.bad.length q1.c] 25)
        have x_2 := x.alloc (.cells #[.string (bs A.data), .slice p1.a A.cache.length p1.c, .int .i64 A.fuse, .bool A.off, .slice q1.a A.bad.length q1.c] 25)
        have xk_2 := blk5 x_2
        have i1_3 := i1.below ((Below.refl _ _).alloc (Nat.le_refl _) (.cells #[.string (bs A.data), .slice p1.a A.cache.length p1.c, .int .i64 A.fuse, .bool A.off, .slice q1.a A.bad.length q1.c] 25))
        have b := Blk.new (w3.alloc (.cells #[.string (bs A.data), .slice p1.a A.cache.length p1.c, .int .i64 A.fuse, .bool A.off, .slice q1.a A.bad.length q1.c] 25)) 72 #[.int .u64 1, .int .i64 0]
        simp only [World.size_alloc] at b
        have bk := blk2 b
        have hB_4 := hB_1.alloc hB_1.size (.cells #[.int .u64 1, .int .i64 0] 72)
        have x_5 := x_2.alloc (.cells #[.int .u64 1, .int .i64 0] 72)
        have xk_5 := blk5 x_5
        have i1_6 := i1_3.below ((Below.refl _ _).alloc (Nat.le_refl _) (.cells #[.int .u64 1, .int .i64 0] 72))
        have a_7 := a.alloc (.cells #[.int .u64 1, .int .i64 0] 72)
        have ak_7 := blk5 a_7
        have akf_7 := a_7.frozen
        go_wp2_with fail
        go_at_call 32
        refine ((awake07 _)).mono ?_
        rintro e w4 ⟨rfl, hb4⟩
        replace hB := bt hB_4 hb4
        replace x := x_5.below hb4 x_5.lt
        replace xk := blk5 x
        replace i1 := i1_6.below hb4
        replace a := a_7.below hb4 a_7.lt
        replace ak := blk5 a
        replace akf := a.frozen
        replace b := b.below hb4 b.lt
        replace bk := blk2 b
        clear hB_1 xk_2 x_2 i1_3 hB_4 xk_5 x_5 i1_6 ak_7 akf_7 a_7
        go_wp2_with fail
        go_ret
        exact ⟨rfl, hB⟩
theorem walk (w : World) (D : Dk) (p q : Pl) (hD : IsDk0 w D p q ∧ D.cache.length * Tryz.prog.bytesOf 163 ≤ reachBytes ∧ D.bad.length * Tryz.prog.bytesOf 3 ≤ reachBytes) :
    Calls Tryz.prog 11 #[dval D p q] w fun e w' => e = .returned (.bool true) ∧ Below w.heap.size w w' := by
  obtain ⟨hD, c1, b1⟩ := hD
  rw [show Tryz.prog.bytesOf 3 = 8 by kernel_rfl] at b1
  unfold reachBytes at b1
  cases hg : good7 D with
  | false => exact walk_no D p q w hD (by omega) hg
  | true => exact walk_ok D p q w hD (by omega) hg
/-! ### The row -/
theorem own : ownKnob Tryz.prog.godebug = none := by kernel_rfl
set_option maxRecDepth 100000 in
theorem lifted (os : Os) (started : os.Started) (H : Type) (enc : TypeId × Value → H) :
    ReturnsInHanded {} Tryz.checked os 11 .any (Rows.jourTwiceSpec.pre6 enc Tryz.prog Tryz.f11 Rows.jourTwiceRow.domain false) (Rows.jourTwiceSpec.post enc Tryz.prog Tryz.f11 false true false false) := by
  refine returnsInHanded_of_change_sized (C := Tryz.checked) own started (by kernel_rfl) Tryz.func11
    (ChangeSpec.witness6 (enc := enc) (C := Tryz.checked) false ⟨#[], #[.agg #[.string ByteArray.empty, .slice none 0 0, .int .i64 0, .bool false, .slice none 0 0]], []⟩ 8 (by kernel_rfl) (by kernel_rfl) (by kernel_rfl) (by kernel_rfl)) ?_
  intro W base args ds gs before hval0 hW hcnd hsz0 _
  have hval : ∀ (j : Nat) t v, Tryz.f11.params[j]? = some t → args[j]? = some v → Value.okWide Tryz.prog W .any base t v := hval0
  have hW' := hW
  obtain ⟨p, q, hA0, hV, rfl, hfz, hnd⟩ := hW
  have hA : DataW.TrodAll enc Tryz.prog W 0 (fun _ => true) true Tryz.f11.params.toList args.toList ds p := hA0
  have hAk := hA
  have hsz : (DataW.weightsEach Tryz.prog (Tryz.f11.params.toList ++ Rows.jourTwiceSpec.plain.varTypes Tryz.prog) (ds ++ gs)).all (· ≤ reachBytes) = true := hsz0
  rw [Tryz.params11] at hA hval hsz
  obtain ⟨v0, vs0, d0, ds0, p0, q0, hargs, rfl, rfl, h0, r0⟩ := trodAll_cons hA
  obtain ⟨rfl, rfl, rfl⟩ := trodAll_nil r0
  obtain rfl : args = #[v0] := by cases args; simp_all
  obtain ⟨rfl, rfl⟩ := trodVars_none hV
  obtain ⟨D0, P0, Q0, rfl, w0⟩ := open_dk_sized Tryz.underlying25 (by kernel_rfl) (by kernel_rfl) Tryz.underlying9 Tryz.underlying22 Tryz.underlying3 Tryz.underlying4 Tryz.underlying23 Tryz.underlying163 (by kernel_rfl) (by kernel_rfl) Tryz.underlying3 Tryz.underlying9 Tryz.underlying3 (by kernel_rfl) (hval 0 25 v0 rfl rfl) h0 (weights_each hsz (j := 0) rfl rfl)
  clear hA0 hval0
  simp only [List.append_nil] at hW'
  refine (walk W D0 P0 Q0 w0).mono fun e W' ⟨he, hb⟩ => ?_
  subst he
  exact ⟨_, rfl, post_of_below (pa := _) (pv := []) hW' (fun _ _ _ => (trodAll_cons_mk (shut_bool Tryz.underlying4 _) trodAll_mk0)) (fun sp hsp => trodAll_stays (by kernel_rfl) hb (by kernel_rfl) hAk (fun x hx => hW'.lt x (by simpa using hx)) (fun x hx => hsp x (by simpa using hx))) (fun _ _ => rfl) (by simp) hb (ok_one (by kernel_rfl) rfl (okWide_bool_mk Tryz.underlying4 _))⟩
theorem over_ : Rows.jourTwiceRow.holds Tryz.pinned (OpenSpec.ofChange Rows.jourTwiceSpec) :=
  OpenClaim.holds_of_wide 11 Tryz.f11 rfl rfl rfl rfl rfl rfl rfl ⟨rfl, rfl, rfl, rfl, rfl⟩ rfl rfl rfl rfl rfl (by kernel_rfl) Tryz.func11 (by kernel_rfl)
    (of_decide_eq_true (by kernel_rfl)) (by unfold Func.isWrapper; first | (rw [if_pos (by decide +kernel)]; kernel_rfl) | (rw [if_neg (by decide +kernel)]; exact ⟨rfl, rfl⟩))
    (fun os started H enc _ => lifted os started H enc)
/-- The statement. -/
theorem proved : Rows.JourTwiceSaid := over_
#print axioms proved
end Go.Proofs.YtplgmlcoeehnfaaGreat.jourTwice
