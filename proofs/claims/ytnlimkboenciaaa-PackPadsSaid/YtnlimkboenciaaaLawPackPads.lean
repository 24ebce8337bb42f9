/- PackPads: for every input the law returns true and its arguments read as they did: a padded text begins with the text, all behind it are bytes 0; numbers of more bytes begin with noughts. No condition. -/
import Derived.Test.YtnlimkboenciaaaPackAwake
import Derived.Test.YtnlimkboenciaaaShut
set_option linter.unusedVariables false
namespace Go.Proofs.Ytnlimkboenciaaa.packPads
open Go.ChangeShapes Go.WideShapes Go.ChangeAt Go.RowKit Go.Shelf Go.Lib
open Go.ChangeMaps (open_string shut_string)
attribute [local go_sem] bs_mk bs_append bs_extract bs_size bs_toList bs_get

theorem be_more (n : Nat) (h : n < 4294967296) : be 8 n = [0, 0, 0, 0] ++ be 4 n := by
  have h1 : n / 256 ^ 7 = 0 := Nat.div_eq_of_lt (by omega)
  have h2 : n / 256 ^ 6 = 0 := Nat.div_eq_of_lt (by omega)
  have h3 : n / 256 ^ 5 = 0 := Nat.div_eq_of_lt (by omega)
  have h4 : n / 256 ^ 4 = 0 := Nat.div_eq_of_lt (by omega)
  simp only [be, h1, h2, h3, h4]
  rfl

theorem walk_bad (l : List UInt8) (k : Int) (n : Nat) (hl : l.length ≤ maxLen) (h : k < l.length ∨ 65536 < k) (w : World) :
    Calls Try.prog 4 #[.string (bs l), .int .i64 k, .int .u32 n] w fun e w' => e = .returned (.bool true) ∧ Below w.heap.size w w' := by
  have hl' := hl
  unfold maxLen at hl'
  by_cases h0 : k < l.length
  · go_enter Try.func4, Try.ntmps4
    go_wp2_with fail
    refine (pad_bad l hl k (.inl h0) _).mono ?_
    rintro e w1 ⟨rfl, rfl⟩
    go_wp2_with fail
    refine (awake03 _).mono ?_
    rintro e w5 ⟨rfl, hb5⟩
    go_wp2_with fail
    go_ret
    exact ⟨rfl, hb5⟩
  · have h1 : 65536 < k := by omega
    go_enter Try.func4, Try.ntmps4
    go_wp2_with fail
    refine (pad_bad l hl k (.inr h1) _).mono ?_
    rintro e w1 ⟨rfl, rfl⟩
    go_wp2_with fail
    refine (awake03 _).mono ?_
    rintro e w5 ⟨rfl, hb5⟩
    go_wp2_with fail
    go_ret
    exact ⟨rfl, hb5⟩

set_option maxHeartbeats 400000 in
theorem walk_ok (l : List UInt8) (k : Int) (n : Nat) (hn : n < 4294967296) (hl : l.length ≤ maxLen) (h1 : (l.length : Int) ≤ k) (h2 : k ≤ 65536) (w : World) :
    Calls Try.prog 4 #[.string (bs l), .int .i64 k, .int .u32 n] w fun e w' => e = .returned (.bool true) ∧ Below w.heap.size w w' := by
  have hl' := hl
  unfold maxLen at hl'
  have Hbe := hid (be_more n hn)
  go_enter Try.func4, Try.ntmps4
  go_wp2_with fail
  refine (pad_ok l hl k h1 h2 _).mono ?_
  rintro e w1 ⟨rfl, hb1⟩
  obtain ⟨k, rfl⟩ := Int.eq_ofNat_of_zero_le (show 0 ≤ k by omega)
  rw [Int.toNat_natCast]
  obtain ⟨z, hz⟩ : ∃ z, l ++ List.replicate (k - l.length) 0 = z := ⟨_, rfl⟩
  have hzl : z.length = k := by rw [← hz]; simp; omega
  have hzt : z.take l.length = l := by rw [← hz]; simp
  have hz0 : ∀ j (hj : j < z.length), l.length ≤ j → z[j] = 0 := by
    intro j hj h; subst hz; rw [List.getElem_append_right h]; simp
  rw [hz]
  clear hz
  subst hzl
  have Hz0 := hid hz0; clear hz0
  have hzk : z.length ≤ 65536 := by omega
  have hln : ¬ (z.length : Int) < l.length := by omega
  go_wp2_with fail
  go_loop [9] (fun i => ∃ j : Nat, l.length ≤ j ∧ j ≤ z.length ∧ i = .int .i64 j) (fun i => z.length - (intOf i).toNat)
  case atStart => exact ⟨l.length, Nat.le_refl _, by omega, rfl⟩
  case round =>
    obtain ⟨j, hj1, hj2, rfl⟩ := hrel
    by_cases hlt : j < z.length
    · have hzj := Hz0.out j hlt hj1
      go_wp2_with fail
      go_round
      case rel => exact ⟨j + 1, by omega, by omega, by go_num⟩
      case measure => simp [intOf]; omega
    · go_wp2_with fail
      refine (put_ok n 8 (by omega) (by omega) (by omega) _).mono ?_
      rintro e w2 ⟨rfl, hb2⟩
      replace hb1 := bt hb1 hb2
      clear hb2
      rw [Hbe.out]
      go_wp2_with fail
      refine (put_ok n 4 (by omega) (by omega) (by omega) _).mono ?_
      rintro e w3 ⟨rfl, hb3⟩
      replace hb1 := bt hb1 hb3
      clear hb3
      go_wp2_with fail
      refine (awake03 _).mono ?_
      rintro e w5 ⟨rfl, hb5⟩
      go_wp2_with fail
      go_ret
      exact ⟨rfl, bt hb1 hb5⟩
theorem walk (a0 : ByteArray) (a1 a2 : Int) (w0 : a0.size ≤ maxLen) (w1 : (Lit.int .i64 a1).wf = true) (w2 : (Lit.int .u32 a2).wf = true) (w : World) :
    Calls Try.prog 4 #[.string a0, .int .i64 a1, .int .u32 a2] w fun e w' => e = .returned (.bool true) ∧ Below w.heap.size w w' := by
  obtain ⟨l, rfl⟩ := bs_of a0
  rw [bs_size] at w0
  have q2 := bounds_u32 w2
  obtain ⟨n, rfl⟩ := Int.eq_ofNat_of_zero_le q2.1
  by_cases h : a1 < l.length ∨ 65536 < a1
  · exact walk_bad l a1 n w0 h w
  · exact walk_ok l a1 n (by omega) w0 (by omega) (by omega) w
/-! ### The row -/
theorem own : ownKnob Try.prog.godebug = none := by kernel_rfl
set_option maxRecDepth 100000 in
theorem lifted (os : Os) (started : os.Started) (H : Type) (enc : TypeId × Value → H) :
    ReturnsInHanded {} Try.checked os 4 .any (Rows.packPadsSpec.pre6 enc Try.prog Try.f4 Rows.packPadsRow.domain false) (Rows.packPadsSpec.post enc Try.prog Try.f4 false true false false) := by
  refine returnsInHanded_of_change (C := Try.checked) own started (by kernel_rfl) Try.func4
    (ChangeSpec.witness6 (enc := enc) (C := Try.checked) false ⟨#[], #[.string ByteArray.empty, .int .i64 0, .int .u32 0], []⟩ 8 (by kernel_rfl) (by kernel_rfl) (by kernel_rfl) (by kernel_rfl)) ?_
  intro W base args ds gs before hval0 hW hcnd _
  have hval : ∀ (j : Nat) t v, Try.f4.params[j]? = some t → args[j]? = some v → Value.okWide Try.prog W .any base t v := hval0
  have hW' := hW
  obtain ⟨p, q, hA0, hV, rfl, hfz, hnd⟩ := hW
  have hA : DataW.TrodAll enc Try.prog W 0 (fun _ => true) true Try.f4.params.toList args.toList ds p := hA0
  rw [Try.params4] at hA hval
  obtain ⟨v0, vs0, d0, ds0, p0, q0, hargs, rfl, rfl, h0, r0⟩ := trodAll_cons hA
  obtain ⟨v1, vs1, d1, ds1, p1, q1, rfl, rfl, rfl, h1, r1⟩ := trodAll_cons r0
  obtain ⟨v2, vs2, d2, ds2, p2, q2, rfl, rfl, rfl, h2, r2⟩ := trodAll_cons r1
  obtain ⟨rfl, rfl, rfl⟩ := trodAll_nil r2
  obtain rfl : args = #[v0, v1, v2] := by cases args; simp_all
  obtain ⟨rfl, rfl⟩ := trodVars_none hV
  obtain ⟨a0, rfl, rfl, rfl, w0⟩ := open_string Try.underlying9 (hval 0 9 v0 rfl rfl) h0
  obtain ⟨a1, rfl, rfl, rfl, w1⟩ := open_int Try.underlying3 (hval 1 3 v1 rfl rfl) h1
  obtain ⟨a2, rfl, rfl, rfl, w2⟩ := open_int Try.underlying29 (hval 2 29 v2 rfl rfl) h2
  clear hA0 hval0
  simp only [List.append_nil] at hW'
  refine (walk a0 a1 a2 w0 w1 w2 W).mono fun e W' ⟨he, hb⟩ => ?_
  subst he
  exact ⟨_, rfl, post_of_below (pa := []) (pv := []) hW' (fun _ _ _ => (trodAll_cons_mk (shut_bool Try.underlying4 _) trodAll_mk0)) (fun sp _ => (trodAll_cons_mk (shut_string Try.underlying9 w0) (trodAll_cons_mk (shut_int Try.underlying3 w1) (trodAll_cons_mk (shut_int Try.underlying29 w2) trodAll_mk0)))) (fun _ _ => rfl) rfl hb (ok_one (by kernel_rfl) rfl (okWide_bool_mk Try.underlying4 _))⟩
theorem over_ : Rows.packPadsRow.holds Try.pinned (OpenSpec.ofChange Rows.packPadsSpec) :=
  OpenClaim.holds_of_wide 4 Try.f4 rfl rfl rfl rfl rfl rfl rfl ⟨rfl, rfl, rfl, rfl, rfl⟩ rfl rfl rfl rfl rfl (by kernel_rfl) Try.func4 (by kernel_rfl)
    (of_decide_eq_true (by kernel_rfl)) (by unfold Func.isWrapper; first | (rw [if_pos (by decide +kernel)]; kernel_rfl) | (rw [if_neg (by decide +kernel)]; exact ⟨rfl, rfl⟩))
    (fun os started H enc _ => lifted os started H enc)
/-- The statement. -/
theorem proved : Rows.PackPadsSaid := over_
#print axioms proved
end Go.Proofs.Ytnlimkboenciaaa.packPads
