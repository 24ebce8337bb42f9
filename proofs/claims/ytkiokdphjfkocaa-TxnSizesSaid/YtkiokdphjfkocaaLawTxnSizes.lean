/- TxnSizes: a transaction of a target more has one or two sectors more: any number. No condition. -/
import Derived.Test.YtkiokdphjfkocaaLaw06b
import Derived.Test.YtkiokdphjfkocaaOpen
import Derived.Test.YtkiokdphjfkocaaShut
set_option linter.unusedVariables false
namespace Go.Proofs.Ytkiokdphjfkocaa.txnSizes
open Go.RowKit Go.Shelf Go.WideShapes Go.ChangeShapes Go.ChangeAt
open Go.ChangeMaps (open_string shut_string)
attribute [local go_sem] bs_mk bs_append bs_extract bs_size bs_toList bs_get
theorem walk (n : Int) (wn : (Lit.int .i64 n).wf = true) (w : World) : Calls Try.prog 6 #[.int .i64 n] w fun e w' => e = .returned (.bool true) ∧ Below w.heap.size w w' := by
  have hn : okI n := okInt_of wn
  have c1 := fun W => tx_size n hn W
  unfold okI at hn
  by_cases h : n < 1 ∨ 24 < n
  · rw [show txSizeI n = 0 by unfold txSizeI; rw [if_pos h]] at c1
    rcases h with h | h
    · go_enter Try.func6, Try.ntmps6
      have hB := Below.refl w.heap.size w
      go_wp2_with fail
      go_at_call 16
      refine ((c1 _)).mono ?_
      rintro e w1 ⟨rfl, hb1⟩
      replace hB := bt hB hb1
      go_wp2_with fail
      go_at_call 9
      refine ((awake06 _)).mono ?_
      rintro e w2 ⟨rfl, hb2⟩
      replace hB := bt hB hb2
      go_wp2_with fail
      go_ret
      exact ⟨rfl, hB⟩
    · have h1 : ¬ n < 1 := by omega
      go_enter Try.func6, Try.ntmps6
      have hB := Below.refl w.heap.size w
      go_wp2_with fail
      go_at_call 16
      refine ((c1 _)).mono ?_
      rintro e w1 ⟨rfl, hb1⟩
      replace hB := bt hB hb1
      go_wp2_with fail
      go_at_call 9
      refine ((awake06 _)).mono ?_
      rintro e w2 ⟨rfl, hb2⟩
      replace hB := bt hB hb2
      go_wp2_with fail
      go_ret
      exact ⟨rfl, hB⟩
  · have h1 : ¬ n < 1 := by omega
    have h2 : ¬ 24 < n := by omega
    have c2 := fun W => tx_size (n + 1) (by unfold okI; omega) W
    have w1 := i64w (x := n + 1) ⟨by omega, by omega⟩
    have w2 := i64w (x := n + 2) ⟨by omega, by omega⟩
    have w3 := i64w (x := n + 3) ⟨by omega, by omega⟩
    have ea : txSizeI n = n + (n - 1) / 16 + 2 := by unfold txSizeI; rw [if_neg h]
    have eb : txSizeI (n + 1) = if n = 24 then 0 else n + 1 + n / 16 + 2 := by
      unfold txSizeI
      by_cases h3 : n = 24
      · rw [if_pos h3, if_pos (by omega)]
      · rw [if_neg h3, if_neg (by omega)]; omega
    have a1 : n + 2 ≤ txSizeI n := by omega
    have a2 : txSizeI n ≤ n + 3 := by omega
    have w4 := i64w (x := txSizeI n + 1) ⟨by omega, by omega⟩
    have w5 := i64w (x := txSizeI n + 2) ⟨by omega, by omega⟩
    by_cases h3 : n = 24
    · rw [if_pos h3] at eb
      rw [eb] at c2
      have g : (n == 24) = true := by rw [h3]; rfl
      generalize txSizeI n = a at *
      clear h3 ea eb h
      go_enter Try.func6, Try.ntmps6
      have hB := Below.refl w.heap.size w
      go_wp2_with fail
      go_at_call 16
      refine ((c1 _)).mono ?_
      rintro e w1 ⟨rfl, hb1⟩
      replace hB := bt hB hb1
      go_wp2_with fail
      go_at_call 16
      refine ((c2 _)).mono ?_
      rintro e w2 ⟨rfl, hb2⟩
      replace hB := bt hB hb2
      go_wp2_with fail
      go_at_call 9
      refine ((awake06 _)).mono ?_
      rintro e w3 ⟨rfl, hb3⟩
      replace hB := bt hB hb3
      go_wp2_with fail
      go_ret
      exact ⟨rfl, hB⟩
    · rw [if_neg h3] at eb
      have g : (n == 24) = false := by rw [beq_eq_false_iff_ne]; exact h3
      have hb : txSizeI (n + 1) = txSizeI n + 1 ∨ txSizeI (n + 1) = txSizeI n + 2 := by omega
      generalize txSizeI n = a at *
      generalize txSizeI (n + 1) = b at *
      clear ea eb h
      rcases hb with rfl | rfl
      · go_enter Try.func6, Try.ntmps6
        have hB := Below.refl w.heap.size w
        go_wp2_with fail
        go_at_call 16
        refine ((c1 _)).mono ?_
        rintro e w1 ⟨rfl, hb1⟩
        replace hB := bt hB hb1
        go_wp2_with fail
        go_at_call 16
        refine ((c2 _)).mono ?_
        rintro e w2 ⟨rfl, hb2⟩
        replace hB := bt hB hb2
        go_wp2_with fail
        go_at_call 9
        refine ((awake06 _)).mono ?_
        rintro e w3 ⟨rfl, hb3⟩
        replace hB := bt hB hb3
        go_wp2_with fail
        go_ret
        exact ⟨rfl, hB⟩
      · have g2 : (a + 2 == a + 1) = false := by rw [beq_eq_false_iff_ne]; omega
        go_enter Try.func6, Try.ntmps6
        have hB := Below.refl w.heap.size w
        go_wp2_with fail
        go_at_call 16
        refine ((c1 _)).mono ?_
        rintro e w1 ⟨rfl, hb1⟩
        replace hB := bt hB hb1
        go_wp2_with fail
        go_at_call 16
        refine ((c2 _)).mono ?_
        rintro e w2 ⟨rfl, hb2⟩
        replace hB := bt hB hb2
        go_wp2_with fail
        go_at_call 9
        refine ((awake06 _)).mono ?_
        rintro e w3 ⟨rfl, hb3⟩
        replace hB := bt hB hb3
        go_wp2_with fail
        go_ret
        exact ⟨rfl, hB⟩
/-! ### The row -/
theorem own : ownKnob Try.prog.godebug = none := by kernel_rfl
set_option maxRecDepth 100000 in
theorem lifted (os : Os) (started : os.Started) (H : Type) (enc : TypeId × Value → H) :
    ReturnsInHanded {} Try.checked os 6 .any (Rows.txnSizesSpec.pre6 enc Try.prog Try.f6 Rows.txnSizesRow.domain false) (Rows.txnSizesSpec.post enc Try.prog Try.f6 false true false false) := by
  refine returnsInHanded_of_change (C := Try.checked) own started (by kernel_rfl) Try.func6
    (ChangeSpec.witness6 (enc := enc) (C := Try.checked) false ⟨#[], #[.int .i64 0], []⟩ 8 (by kernel_rfl) (by kernel_rfl) (by kernel_rfl) (by kernel_rfl)) ?_
  intro W base args ds gs before hval0 hW hcnd _
  have hval : ∀ (j : Nat) t v, Try.f6.params[j]? = some t → args[j]? = some v → Value.okWide Try.prog W .any base t v := hval0
  have hW' := hW
  obtain ⟨p, q, hA0, hV, rfl, hfz, hnd⟩ := hW
  have hA : DataW.TrodAll enc Try.prog W 0 (fun _ => true) true Try.f6.params.toList args.toList ds p := hA0
  rw [Try.params6] at hA hval
  obtain ⟨v0, vs0, d0, ds0, p0, q0, hargs, rfl, rfl, h0, r0⟩ := trodAll_cons hA
  obtain ⟨rfl, rfl, rfl⟩ := trodAll_nil r0
  obtain rfl : args = #[v0] := by cases args; simp_all
  obtain ⟨rfl, rfl⟩ := trodVars_none hV
  obtain ⟨a0, rfl, rfl, rfl, w0⟩ := open_int Try.underlying3 (hval 0 3 v0 rfl rfl) h0
  clear hA0 hval0
  simp only [List.append_nil] at hW'
  refine (walk a0 w0 W).mono fun e W' ⟨he, hb⟩ => ?_
  subst he
  exact ⟨_, rfl, post_of_below (pa := []) (pv := []) hW' (fun _ _ _ => (trodAll_cons_mk (shut_bool Try.underlying4 _) trodAll_mk0)) (fun sp _ => (trodAll_cons_mk (shut_int Try.underlying3 w0) trodAll_mk0)) (fun _ _ => rfl) rfl hb (ok_one (by kernel_rfl) rfl (okWide_bool_mk Try.underlying4 _))⟩
theorem over_ : Rows.txnSizesRow.holds Try.pinned (OpenSpec.ofChange Rows.txnSizesSpec) :=
  OpenClaim.holds_of_wide 6 Try.f6 rfl rfl rfl rfl rfl rfl rfl ⟨rfl, rfl, rfl, rfl, rfl⟩ rfl rfl rfl rfl rfl (by kernel_rfl) Try.func6 (by kernel_rfl)
    (of_decide_eq_true (by kernel_rfl)) (by unfold Func.isWrapper; first | (rw [if_pos (by decide +kernel)]; kernel_rfl) | (rw [if_neg (by decide +kernel)]; exact ⟨rfl, rfl⟩))
    (fun os started H enc _ => lifted os started H enc)
/-- The statement. -/
theorem proved : Rows.TxnSizesSaid := over_
#print axioms proved
end Go.Proofs.Ytkiokdphjfkocaa.txnSizes
