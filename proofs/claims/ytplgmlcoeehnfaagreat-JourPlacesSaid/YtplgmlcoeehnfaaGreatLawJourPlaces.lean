/- JourPlaces: a record lies within the journal, and never meets the one ahead of it: any places, any sizes of at most 27 sectors. No condition. -/
import Derived.Test.YtplgmlcoeehnfaaGreatLaw07a
import Derived.Test.YtplgmlcoeehnfaaGreatOpens
set_option linter.unusedVariables false
namespace Go.Proofs.YtplgmlcoeehnfaaGreat.jourPlaces
open Go.RowKit Go.Shelf Go.WideShapes Go.ChangeShapes Go.ChangeAt
open Go.ChangeMaps (open_string shut_string)
attribute [local go_sem] bs_mk bs_append bs_extract bs_size bs_toList bs_get
theorem walk_no (a b c : Int) (h : a < 0 ∨ 81 < a ∨ b < 1 ∨ 27 < b ∨ c < 1 ∨ 27 < c) (w : World) : Calls Tryz.prog 8 #[.int .i64 a, .int .i64 b, .int .i64 c] w fun e w' => e = .returned (.bool true) ∧ Below w.heap.size w w' := by
  by_cases h1 : a < 0
  · clear h
    go_enter Tryz.func8, Tryz.ntmps8
    go_wp2_with fail
    go_at_call 32
    refine (awake07 _).mono ?_
    rintro e w1 ⟨rfl, hb⟩
    go_wp2_with fail
    go_ret
    exact ⟨rfl, hb⟩
  by_cases h2 : 81 < a
  · clear h
    go_enter Tryz.func8, Tryz.ntmps8
    go_wp2_with fail
    go_at_call 32
    refine (awake07 _).mono ?_
    rintro e w1 ⟨rfl, hb⟩
    go_wp2_with fail
    go_ret
    exact ⟨rfl, hb⟩
  by_cases h3 : b < 1
  · clear h
    go_enter Tryz.func8, Tryz.ntmps8
    go_wp2_with fail
    go_at_call 32
    refine (awake07 _).mono ?_
    rintro e w1 ⟨rfl, hb⟩
    go_wp2_with fail
    go_ret
    exact ⟨rfl, hb⟩
  by_cases h4 : 27 < b
  · clear h
    go_enter Tryz.func8, Tryz.ntmps8
    go_wp2_with fail
    go_at_call 32
    refine (awake07 _).mono ?_
    rintro e w1 ⟨rfl, hb⟩
    go_wp2_with fail
    go_ret
    exact ⟨rfl, hb⟩
  by_cases h5 : c < 1
  · clear h
    go_enter Tryz.func8, Tryz.ntmps8
    go_wp2_with fail
    go_at_call 32
    refine (awake07 _).mono ?_
    rintro e w1 ⟨rfl, hb⟩
    go_wp2_with fail
    go_ret
    exact ⟨rfl, hb⟩
  have h6 : 27 < c := by omega
  clear h
  go_enter Tryz.func8, Tryz.ntmps8
  go_wp2_with fail
  go_at_call 32
  refine (awake07 _).mono ?_
  rintro e w1 ⟨rfl, hb⟩
  go_wp2_with fail
  go_ret
  exact ⟨rfl, hb⟩
set_option maxRecDepth 100000 in
theorem walk_yes (a b c : Int) (h : ¬ (a < 0 ∨ 81 < a ∨ b < 1 ∨ 27 < b ∨ c < 1 ∨ 27 < c)) (w : World) : Calls Tryz.prog 8 #[.int .i64 a, .int .i64 b, .int .i64 c] w fun e w' => e = .returned (.bool true) ∧ Below w.heap.size w w' := by
  obtain ⟨h1, h2, h3, h4, h5, h6⟩ : ¬ a < 0 ∧ ¬ 81 < a ∧ ¬ b < 1 ∧ ¬ 27 < b ∧ ¬ c < 1 ∧ ¬ 27 < c := by omega
  obtain ⟨x1, x2⟩ := jrPlace_bound (pos := a) (size := b) (by omega) (by omega)
  have c1 := fun W => j_place a b (by omega) (by omega) W
  generalize jrPlace a b = x at *
  obtain ⟨y1, y2⟩ := jrPlace_bound (pos := x + b) (size := c) (by omega) (by omega)
  have hd : x + b ≤ jrPlace (x + b) c ∨ (jrPlace (x + b) c < x + b ∧ jrPlace (x + b) c + c ≤ x) := by
    unfold jrPlace; split <;> omega
  have c2 := fun W => j_place (x + b) c (by omega) (by omega) W
  generalize jrPlace (x + b) c = y at *
  have w1 := i64w (x := x + b) ⟨by omega, by omega⟩
  have w2 := i64w (x := y + c) ⟨by omega, by omega⟩
  have d1 : decide (0 ≤ x) = true := decide_eq_true x1
  have d2 : decide (x + b ≤ 81) = true := decide_eq_true x2
  have d3 : decide (0 ≤ y) = true := decide_eq_true y1
  have d4 : decide (y + c ≤ 81) = true := decide_eq_true y2
  clear h
  rcases hd with h7 | ⟨h7, h8⟩
  · have d5 : decide (x + b ≤ y) = true := decide_eq_true h7
    go_enter Tryz.func8, Tryz.ntmps8
    have hB := Below.refl w.heap.size w
    go_wp2_with fail
    go_at_call 33
    refine ((c1 _)).mono ?_
    rintro e w3 ⟨rfl, hb3⟩
    replace hB := bt hB hb3
    go_wp2_with fail
    go_at_call 33
    refine ((c2 _)).mono ?_
    rintro e w4 ⟨rfl, hb4⟩
    replace hB := bt hB hb4
    go_wp2_with fail
    go_at_call 32
    refine ((awake07 _)).mono ?_
    rintro e w5 ⟨rfl, hb5⟩
    replace hB := bt hB hb5
    go_wp2_with fail
    go_ret
    exact ⟨rfl, hB⟩
  · have d5 : decide (x + b ≤ y) = false := decide_eq_false (by omega)
    have d6 : decide (y + c ≤ x) = true := decide_eq_true h8
    go_enter Tryz.func8, Tryz.ntmps8
    have hB := Below.refl w.heap.size w
    go_wp2_with fail
    go_at_call 33
    refine ((c1 _)).mono ?_
    rintro e w3 ⟨rfl, hb3⟩
    replace hB := bt hB hb3
    go_wp2_with fail
    go_at_call 33
    refine ((c2 _)).mono ?_
    rintro e w4 ⟨rfl, hb4⟩
    replace hB := bt hB hb4
    go_wp2_with fail
    go_at_call 32
    refine ((awake07 _)).mono ?_
    rintro e w5 ⟨rfl, hb5⟩
    replace hB := bt hB hb5
    go_wp2_with fail
    go_ret
    exact ⟨rfl, hB⟩
theorem walk (a b c : Int) (wa : (Lit.int .i64 a).wf = true) (wb : (Lit.int .i64 b).wf = true) (wc : (Lit.int .i64 c).wf = true) (w : World) : Calls Tryz.prog 8 #[.int .i64 a, .int .i64 b, .int .i64 c] w fun e w' => e = .returned (.bool true) ∧ Below w.heap.size w w' := by
  by_cases h : a < 0 ∨ 81 < a ∨ b < 1 ∨ 27 < b ∨ c < 1 ∨ 27 < c
  · exact walk_no a b c h w
  · exact walk_yes a b c h w
/-! ### The row -/
theorem own : ownKnob Tryz.prog.godebug = none := by kernel_rfl
set_option maxRecDepth 100000 in
theorem lifted (os : Os) (started : os.Started) (H : Type) (enc : TypeId × Value → H) :
    ReturnsInHanded {} Tryz.checked os 8 .any (Rows.jourPlacesSpec.pre6 enc Tryz.prog Tryz.f8 Rows.jourPlacesRow.domain false) (Rows.jourPlacesSpec.post enc Tryz.prog Tryz.f8 false true false false) := by
  refine returnsInHanded_of_change (C := Tryz.checked) own started (by kernel_rfl) Tryz.func8
    (ChangeSpec.witness6 (enc := enc) (C := Tryz.checked) false ⟨#[], #[.int .i64 0, .int .i64 0, .int .i64 0], []⟩ 8 (by kernel_rfl) (by kernel_rfl) (by kernel_rfl) (by kernel_rfl)) ?_
  intro W base args ds gs before hval0 hW hcnd _
  have hval : ∀ (j : Nat) t v, Tryz.f8.params[j]? = some t → args[j]? = some v → Value.okWide Tryz.prog W .any base t v := hval0
  have hW' := hW
  obtain ⟨p, q, hA0, hV, rfl, hfz, hnd⟩ := hW
  have hA : DataW.TrodAll enc Tryz.prog W 0 (fun _ => true) true Tryz.f8.params.toList args.toList ds p := hA0
  rw [Tryz.params8] at hA hval
  obtain ⟨v0, vs0, d0, ds0, p0, q0, hargs, rfl, rfl, h0, r0⟩ := trodAll_cons hA
  obtain ⟨v1, vs1, d1, ds1, p1, q1, rfl, rfl, rfl, h1, r1⟩ := trodAll_cons r0
  obtain ⟨v2, vs2, d2, ds2, p2, q2, rfl, rfl, rfl, h2, r2⟩ := trodAll_cons r1
  obtain ⟨rfl, rfl, rfl⟩ := trodAll_nil r2
  obtain rfl : args = #[v0, v1, v2] := by cases args; simp_all
  obtain ⟨rfl, rfl⟩ := trodVars_none hV
  obtain ⟨a0, rfl, rfl, rfl, w0⟩ := open_int Tryz.underlying3 (hval 0 3 v0 rfl rfl) h0
  obtain ⟨a1, rfl, rfl, rfl, w1⟩ := open_int Tryz.underlying3 (hval 1 3 v1 rfl rfl) h1
  obtain ⟨a2, rfl, rfl, rfl, w2⟩ := open_int Tryz.underlying3 (hval 2 3 v2 rfl rfl) h2
  clear hA0 hval0
  simp only [List.append_nil] at hW'
  refine (walk a0 a1 a2 w0 w1 w2 W).mono fun e W' ⟨he, hb⟩ => ?_
  subst he
  exact ⟨_, rfl, post_of_below (pa := []) (pv := []) hW' (fun _ _ _ => (trodAll_cons_mk (shut_bool Tryz.underlying4 _) trodAll_mk0)) (fun sp _ => (trodAll_cons_mk (shut_int Tryz.underlying3 w0) (trodAll_cons_mk (shut_int Tryz.underlying3 w1) (trodAll_cons_mk (shut_int Tryz.underlying3 w2) trodAll_mk0)))) (fun _ _ => rfl) rfl hb (ok_one (by kernel_rfl) rfl (okWide_bool_mk Tryz.underlying4 _))⟩
theorem over_ : Rows.jourPlacesRow.holds Tryz.pinned (OpenSpec.ofChange Rows.jourPlacesSpec) :=
  OpenClaim.holds_of_wide 8 Tryz.f8 rfl rfl rfl rfl rfl rfl rfl ⟨rfl, rfl, rfl, rfl, rfl⟩ rfl rfl rfl rfl rfl (by kernel_rfl) Tryz.func8 (by kernel_rfl)
    (of_decide_eq_true (by kernel_rfl)) (by unfold Func.isWrapper; first | (rw [if_pos (by decide +kernel)]; kernel_rfl) | (rw [if_neg (by decide +kernel)]; exact ⟨rfl, rfl⟩))
    (fun os started H enc _ => lifted os started H enc)
/-- The statement. -/
theorem proved : Rows.JourPlacesSaid := over_
#print axioms proved
end Go.Proofs.YtplgmlcoeehnfaaGreat.jourPlaces
