/- SpanJoins: extents joined twice are joined once; they have as many bytes as those that are not empty had: any extents. No condition. -/
import Derived.Test.YtlapjkbefkmohaaSjLaw15b
import Derived.Test.YtlapjkbefkmohaaSjOpens3
import Derived.Test.YtlapjkbefkmohaaSjRoot3
set_option linter.unusedVariables false
namespace Go.Proofs.Ytlapjkbefkmohaa.spanJoins
open Go.RowKit Go.Shelf Go.WideShapes Go.ChangeShapes Go.ChangeAt
open Go.ChangeMaps (open_string shut_string)
attribute [local go_sem] bs_mk bs_append bs_extract bs_size bs_toList bs_get
theorem joinAll_step (s : List Xt × Xt) (h : JoinOk s) (x : Xt) : (joinAll (joinStep s x)).length ≤ (joinAll s).length + 1 := by
  have hr := h.run
  have hf := h.first
  unfold joinStep
  split
  · omega
  split
  · rename_i h1 h2
    unfold joinAll
    rw [if_pos h2.1]
    split
    · simp
    · exact Nat.le_succ_of_le (by simp)
  split
  · rename_i h1 h2 h3
    unfold joinAll
    rw [if_pos h3]
    split
    · simp
    · exact Nat.le_succ_of_le (Nat.le_refl _)
  · rename_i h1 h2 h3
    have e : s.1 = [] := hf (by omega)
    unfold joinAll
    rw [if_neg h3, e]
    split <;> simp
theorem join_short (l : List Xt) : (join l).length ≤ l.length := by
  have H : ∀ n, n ≤ l.length → (joinAll (joinSt (l.take n))).length ≤ n := fun n => by
    induction n with
    | zero => intro _; simp [joinSt, joinAll]
    | succ n ih =>
      intro hn
      rw [List.take_succ_eq_append_getElem (by omega), joinSt_snoc]
      have := joinAll_step _ (joinOk (l.take n)) l[n]
      have := ih (by omega)
      omega
  have := H l.length (Nat.le_refl _)
  rwa [List.take_length] at this
theorem sumX_small {l : List Xt} (h : ∀ x ∈ l, x.1 ≤ 1073741824) : 0 ≤ sumX l ∧ sumX l ≤ 1073741824 * l.length := by
  refine ⟨sumX_nonneg l, ?_⟩
  induction l with
  | nil => exact Int.le_refl _
  | cons x l ih =>
    have h1 := h x List.mem_cons_self
    have h2 := ih fun y hy => h y (List.mem_cons_of_mem _ hy)
    show max x.1 0 + sumX l ≤ _
    rw [List.length_cons]
    omega
theorem lenX_small {l : List Xt} (h : ∀ x ∈ l, 1 ≤ x.1 ∧ x.1 ≤ most40) : 0 ≤ lenX l ∧ lenX l ≤ 1099511627776 * l.length := by
  induction l with
  | nil => exact ⟨Int.le_refl _, Int.le_refl _⟩
  | cons x l ih =>
    have h1 := h x List.mem_cons_self
    have h2 := ih fun y hy => h y (List.mem_cons_of_mem _ hy)
    unfold most40 at h1
    show 0 ≤ x.1 + lenX l ∧ x.1 + lenX l ≤ _
    rw [List.length_cons]
    omega
theorem cell_alloc_old {w : World} {a : Addr} {v : Value} (h : w.cell? a = some v) (o : Obj) : (w.alloc o).cell? a = some v := (World.cell?_of_block (Below.heap_alloc _ _ _ (World.block_lt_of_cell? w a h))).trans h
set_option maxRecDepth 100000 in
theorem walk_many (l : List Xt) (A : Option Addr) (c : Nat) (w : World) (h : 500 < l.length) :
    Calls Try.prog 3 #[.slice A l.length c] w fun e w' => e = .returned (.bool true) ∧ Below w.heap.size w w' := by
  have g1 : (500 : Int) < (l.length : Int) := by omega
  have hB := Below.refl w.heap.size w
  go_enter Try.func3, Try.ntmps3
  go_wp2_with fail
  go_at_call 4
  refine ((awake15 _)).mono ?_
  rintro e w1 ⟨rfl, hb1⟩
  replace hB := bt hB hb1
  go_wp2_with fail
  go_ret
  exact ⟨rfl, hB⟩
set_option maxRecDepth 100000 in
set_option maxHeartbeats 2000000 in
theorem walk_few (l : List Xt) (A : Option Addr) (c : Nat) (w : World) (hA : Cells w A (entCells l)) (h64 : ∀ x ∈ l, okInt x.1 ∧ okInt x.2) (h : l.length ≤ 500) :
    Calls Try.prog 3 #[.slice A l.length c] w fun e w' => e = .returned (.bool true) ∧ Below w.heap.size w w' := by
  have g1 : (l.length : Int) ≤ 500 := by omega
  have hj := fun (W : World) (hb : Below w.heap.size w W) => sp_join l A c (by omega) (fun x hx => (h64 x hx).1) W (hA.below hb)
  have hjl : (join l).length ≤ 500 := Nat.le_trans (join_short l) h
  have hap := join_apart l
  have hj2 := fun (W : World) (B : Option Addr) (d : Nat) (hB : Cells W B (entCells (join l))) => sp_join (join l) B d (by omega) (fun x hx => by have := hap.1 x hx; unfold most40 at this; omega) W hB
  rw [join_join] at hj2
  have hrow := fun (W : World) (B C : Option Addr) (b d : Nat) (hB : Cells W B (entCells (join l))) (hC : Cells W C (entCells (join l))) => r15_row (join l) B C b d W hB hC (by omega)
  have Hlen := hid (fun (hs : ∀ x ∈ l, x.1 ≤ 1073741824) => join_len (l := l) (by have := (sumX_small hs).2; unfold most40; omega))
  have HA := hid (fun (W : World) (hb : Below w.heap.size w W) => hA.below hb)
  have H64 := hid h64
  have Hap := hid hap
  have Hsm := hid (fun (n : Nat) (hs : ∀ x ∈ l.take n, x.1 ≤ 1073741824) => show 0 ≤ sumX (l.take n) ∧ sumX (l.take n) ≤ 536870912000 by
    have h1 := sumX_small hs
    have h2 : (l.take n).length ≤ 500 := by rw [List.length_take]; omega
    omega)
  have Hlm := hid (fun (n : Nat) => show 0 ≤ lenX ((join l).take n) ∧ lenX ((join l).take n) ≤ 549755813888000 by
    have h1 := lenX_small (l := (join l).take n) (fun x hx => hap.1 x (List.mem_of_mem_take hx))
    have h2 : ((join l).take n).length ≤ 500 := by rw [List.length_take]; omega
    omega)
  clear hA h64 hap
  generalize join l = Q at *
  have hB := Below.refl w.heap.size w
  go_enter Try.func3, Try.ntmps3
  go_wp2_with fail
  go_at_call 5
  refine ((hj _ hB)).mono ?_
  rintro e w1 ⟨⟨v, rfl, hv⟩, hb1⟩
  replace hB := bt hB hb1
  obtain ⟨A1, a1, rfl, _, _, _⟩ := own_slice hv
  have cv := Cells.of_own hv
  have HC := hid (fun (W : World) (hb : Below w1.heap.size w1 W) => cv.below hb)
  have hBw := hB
  clear hv cv
  go_wp2_with fail
  go_loopw [4, 18] (fun s x W => ∃ m : Nat, m ≤ l.length ∧ x = .int .i64 m ∧ s = .int .i64 (sumX (l.take m)) ∧ Hid (∀ x ∈ l.take m, x.1 ≤ 1073741824) ∧ Below w1.heap.size w1 W) (fun _ x _ => l.length - (intOf x).toNat)
  case atStart => exact ⟨0, Nat.zero_le _, rfl, rfl, hid (fun x hx => by cases hx), Below.refl _ _⟩
  case round =>
    obtain ⟨m, hm, rfl, rfl, hs, hb⟩ := hrel
    have hbw := hBw.trans (hb.mono hBw.size)
    by_cases hlt : m < l.length
    · obtain ⟨gA, oA, e1, hc⟩ := (HA.out _ hbw).ent hlt
      replace hc := hc m hlt
      obtain ⟨⟨xl, xf⟩, hx⟩ : ∃ x, l[m] = x := ⟨_, rfl⟩
      have hxr := (H64.out _ (List.getElem_mem hlt)).1
      rw [hx] at hc hxr
      simp only at hc hxr
      have hs0 := Hsm.out m hs.out
      obtain ⟨S, hS⟩ : ∃ S, sumX (l.take m) = S := ⟨_, rfl⟩
      have HS1 := hid (show sumX (l.take (m + 1)) = S + max xl 0 by rw [List.take_succ_eq_append_getElem hlt, sumX_append, sumX_one, hx, hS])
      have HS2 := hid (fun (hle : xl ≤ 1073741824) (x : Xt) (hx' : x ∈ l.take (m + 1)) => show x.1 ≤ 1073741824 by
        rw [List.take_succ_eq_append_getElem hlt, List.mem_append, List.mem_singleton, hx] at hx'
        rcases hx' with h | h
        · exact hs.out x h
        · rw [h]; exact hle)
      rw [hS] at hs0 ⊢
      clear hx hS hs
      subst e1
      have x1 := Blk.new wr 26 #[.int .i64 xl, .int .i64 xf]
      have kx := blk2 x1
      have hb2 := hb.alloc hb.size (.cells #[.int .i64 xl, .int .i64 xf] 26)
      have hbw2 := hbw.alloc hbw.size (.cells #[.int .i64 xl, .int .i64 xf] 26)
      by_cases hbig : 1073741824 < xl
      · go_wp2_with fail
        go_at_call 5
        refine (hj2 _ _ _ (HC.out _ hb2)).mono ?_
        rintro e w2 ⟨⟨v, rfl, hv⟩, hb3⟩
        obtain ⟨A2, a2, rfl, _, _, _⟩ := own_slice hv
        have cv := Cells.of_own hv
        go_wp2_with fail
        go_at_call 6
        refine (hrow _ _ _ _ _ cv (HC.out _ (bt hb2 hb3))).mono ?_
        rintro e w3 ⟨rfl, hb4⟩
        go_wp2_with fail
        go_at_call 4
        refine (awake15 _).mono ?_
        rintro e w4 ⟨rfl, hb5⟩
        go_wp2_with fail
        go_ret
        exact ⟨rfl, bt (bt (bt hbw2 hb3) hb4) hb5⟩
      · have wz := i64w (x := S + max xl 0) (by omega)
        obtain ⟨M, hM⟩ : ∃ M, max xl 0 = M := ⟨_, rfl⟩
        rw [hM] at wz HS1
        go_wp2_with fail
        go_roundw
        case rel => exact ⟨m + 1, by omega, by go_num, by rw [HS1.out], hid (HS2.out (by omega)), hb2⟩
        case measure => simp [intOf]; omega
    · obtain rfl : m = l.length := by omega
      rw [List.take_length] at hs ⊢
      have Hl := hid (Hlen.out hs.out)
      clear hs
      generalize sumX l = S at *
      go_wp2_with fail
      go_loopw [5, 40] (fun s x W => ∃ m : Nat, m ≤ Q.length ∧ x = .int .i64 m ∧ s = .int .i64 (lenX (Q.take m)) ∧ Below w1.heap.size w1 W) (fun _ x _ => Q.length - (intOf x).toNat)
      case atStart => exact ⟨0, Nat.zero_le _, rfl, rfl, hb⟩
      case round =>
        clear hb hbw
        obtain ⟨m, hm, rfl, rfl, hb⟩ := hrel
        have hbw := hBw.trans (hb.mono hBw.size)
        by_cases hlt : m < Q.length
        · obtain ⟨gA, oA, e1, hc⟩ := (HC.out _ hb).ent hlt
          have hc1 := hc m hlt
          obtain ⟨⟨xl, xf⟩, hx⟩ : ∃ x, Q[m] = x := ⟨_, rfl⟩
          have hxr := Hap.out.1 _ (List.getElem_mem hlt)
          rw [hx] at hc1 hxr
          simp only [most40] at hc1 hxr
          have hs0 := Hlm.out m
          obtain ⟨T, hT⟩ : ∃ T, lenX (Q.take m) = T := ⟨_, rfl⟩
          have HS1 := hid (show lenX (Q.take (m + 1)) = T + xl by rw [List.take_succ_eq_append_getElem hlt, lenX_append, lenX_one, hx, hT])
          rw [hT] at hs0 ⊢
          subst e1
          have x1 := Blk.new wr 26 #[.int .i64 xl, .int .i64 xf]
          have kx := blk2 x1
          have hb2 := hb.alloc hb.size (.cells #[.int .i64 xl, .int .i64 xf] 26)
          have wz := i64w (x := T + xl) (by omega)
          have n1 : ¬ xl < 1 := by omega
          have n2 : decide (xl < 1) = false := by simp; omega
          clear hT
          by_cases h0 : m = 0
          · have d0 : decide ((0 : Int) < (m : Int)) = false := by simp; omega
            have p0 : ¬ (0 : Int) < (m : Int) := by omega
            have p9 : ¬ 0 < m := by omega
            have d9 : decide (0 < m) = false := by simp; omega
            clear hx hc h0
            go_wp2_with fail
            go_quiet (fail)
            go_wp2_with fail
            go_roundw
            case rel => exact ⟨m + 1, by omega, by go_num, by rw [HS1.out], by first | exact hb2 | exact below_drewN hb2 _⟩
            case measure => simp [intOf]; omega
          · obtain ⟨k, hmk⟩ : ∃ k, m = k + 1 := ⟨m - 1, by omega⟩
            have hk : k < Q.length := by omega
            have hc0 := hc k hk
            have hne := Hap.out.2 k (by omega)
            obtain ⟨⟨yl, yf⟩, hy⟩ : ∃ x, Q[k] = x := ⟨_, rfl⟩
            have hx2 : Q[k + 1]'(by omega) = (xl, xf) := by simp only [← hmk]; exact hx
            rw [hx2, hy] at hne
            rw [hy] at hc0
            simp only at hc0 hne
            have hq : (yf == xf) = false := by simpa using hne
            have hc9 := cell_alloc_old hc0.1 (.cells #[.int .i64 xl, .int .i64 xf] 26)
            have hc8 := cell_alloc_old hc0.2 (.cells #[.int .i64 xl, .int .i64 xf] 26)
            have wk := i64w (x := (m : Int) - 1) (by omega)
            have ek : (m : Int) - 1 = (k : Int) := by omega
            have d1 : decide ((0 : Int) < (m : Int)) = true := by simp; omega
            have p1 : (0 : Int) < (m : Int) := by omega
            have p9 : 0 < m := by omega
            have d9 : decide (0 < m) = true := by simp; omega
            have Hmk := hid hmk
            clear hx hc hy hne h0 hmk hx2
            go_wp2_with fail
            go_quiet (fail)
            go_wp2_with fail
            go_roundw
            case rel => exact ⟨m + 1, by omega, by go_num, by rw [HS1.out], by first | exact hb2 | exact below_drewN hb2 _⟩
            case measure => simp [intOf]; omega
        · obtain rfl : m = Q.length := by omega
          rw [List.take_length, Hl.out]
          have hS : (S == S) = true := by simp
          go_wp2_with fail
          go_at_call 5
          refine (hj2 _ _ _ (HC.out _ hb)).mono ?_
          rintro e w2 ⟨⟨v, rfl, hv⟩, hb3⟩
          obtain ⟨A2, a2, rfl, _, _, _⟩ := own_slice hv
          have cv := Cells.of_own hv
          go_wp2_with fail
          go_at_call 6
          refine (hrow _ _ _ _ _ cv (HC.out _ (bt hb hb3))).mono ?_
          rintro e w3 ⟨rfl, hb4⟩
          go_wp2_with fail
          go_at_call 4
          refine (awake15 _).mono ?_
          rintro e w4 ⟨rfl, hb5⟩
          go_wp2_with fail
          go_ret
          exact ⟨rfl, bt (bt (bt hbw hb3) hb4) hb5⟩
theorem walk (w : World) (A : Option Addr) (c : Nat) (l : List Xt) (h : Cells w A (entCells l) ∧ (A = none → c = 0) ∧ l.length ≤ c ∧ c ≤ maxLen ∧ ∀ x ∈ l, okInt x.1 ∧ okInt x.2) :
    Calls Try.prog 3 #[.slice A l.length c] w fun e w' => e = .returned (.bool true) ∧ Below w.heap.size w w' := by
  by_cases h5 : 500 < l.length
  · exact walk_many l A c w h5
  · exact walk_few l A c w h.1 h.2.2.2.2 (by omega)
/-! ### The row -/
theorem own : ownKnob Try.prog.godebug = none := by kernel_rfl
set_option maxRecDepth 100000 in
theorem lifted (os : Os) (started : os.Started) (H : Type) (enc : TypeId × Value → H) :
    ReturnsInHanded {} Try.checked os 3 .any (Rows.spanJoinsSpec.pre6 enc Try.prog Try.f3 Rows.spanJoinsRow.domain false) (Rows.spanJoinsSpec.post enc Try.prog Try.f3 false true false false) := by
  refine returnsInHanded_of_change (C := Try.checked) own started (by kernel_rfl) Try.func3
    (ChangeSpec.witness6 (enc := enc) (C := Try.checked) false ⟨#[], #[.slice none 0 0], []⟩ 8 (by kernel_rfl) (by kernel_rfl) (by kernel_rfl) (by kernel_rfl)) ?_
  intro W base args ds gs before hval0 hW hcnd _
  have hval : ∀ (j : Nat) t v, Try.f3.params[j]? = some t → args[j]? = some v → Value.okWide Try.prog W .any base t v := hval0
  have hW' := hW
  obtain ⟨p, q, hA0, hV, rfl, hfz, hnd⟩ := hW
  have hA : DataW.TrodAll enc Try.prog W 0 (fun _ => true) true Try.f3.params.toList args.toList ds p := hA0
  have hAk := hA
  rw [Try.params3] at hA hval
  obtain ⟨v0, vs0, d0, ds0, p0, q0, hargs, rfl, rfl, h0, r0⟩ := trodAll_cons hA
  obtain ⟨rfl, rfl, rfl⟩ := trodAll_nil r0
  obtain rfl : args = #[v0] := by cases args; simp_all
  obtain ⟨rfl, rfl⟩ := trodVars_none hV
  obtain ⟨A0, n0, c0, rfl⟩ := okWide_slice Try.underlying22 (hval 0 22 v0 rfl rfl)
  obtain ⟨_, h0'⟩ := h0
  obtain ⟨B0, e0, l0, hB0, w0⟩ := open_xts Try.underlying22 Try.underlying26 (by kernel_rfl) (by kernel_rfl) rfl Try.underlying3 Try.underlying3 h0'
  rw [hB0] at hW' hAk ⊢
  clear hA0 hval0
  simp only [List.append_nil] at hW'
  refine (walk W B0 e0 l0 w0).mono fun e W' ⟨he, hb⟩ => ?_
  subst he
  exact ⟨_, rfl, post_of_below (pa := _) (pv := []) hW' (fun _ _ _ => (trodAll_cons_mk (shut_bool Try.underlying4 _) trodAll_mk0)) (fun sp hsp => trodAll_stays (by kernel_rfl) hb (by kernel_rfl) hAk (fun x hx => hW'.lt x (by simpa using hx)) (fun x hx => hsp x (by simpa using hx))) (fun _ _ => rfl) (by simp) hb (ok_one (by kernel_rfl) rfl (okWide_bool_mk Try.underlying4 _))⟩
theorem over_ : Rows.spanJoinsRow.holds Try.pinned (OpenSpec.ofChange Rows.spanJoinsSpec) :=
  OpenClaim.holds_of_wide 3 Try.f3 rfl rfl rfl rfl rfl rfl rfl ⟨rfl, rfl, rfl, rfl, rfl⟩ rfl rfl rfl rfl rfl (by kernel_rfl) Try.func3 (by kernel_rfl)
    (of_decide_eq_true (by kernel_rfl)) (by unfold Func.isWrapper; first | (rw [if_pos (by decide +kernel)]; kernel_rfl) | (rw [if_neg (by decide +kernel)]; exact ⟨rfl, rfl⟩))
    (fun os started H enc _ => lifted os started H enc)
/-- The statement. -/
theorem proved : Rows.SpanJoinsSaid := over_
#print axioms proved
end Go.Proofs.Ytlapjkbefkmohaa.spanJoins
