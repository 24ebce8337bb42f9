/- PackNumbers: for every input the law returns true and its arguments read as they did: numbers as bytes, bytes as numbers, and texts filled up, are the document's. No condition. -/
import Derived.Test.YtnlimkboenciaaaPackAwake
import Derived.Test.YtnlimkboenciaaaPackNum
import Derived.Test.YtnlimkboenciaaaShut
set_option linter.unusedVariables false
namespace Go.Proofs.Ytnlimkboenciaaa.packNumbers
open Go.ChangeShapes Go.WideShapes Go.ChangeAt Go.RowKit Go.Shelf Go.Lib
open Go.ChangeMaps (open_string shut_string)
attribute [local go_sem] bs_mk bs_append bs_extract bs_size bs_toList bs_get

set_option maxHeartbeats 400000 in
theorem walk (a0 a1 : Int) (a2 : ByteArray) (w0 : (Lit.int .u64 a0).wf = true) (w1 : (Lit.int .i64 a1).wf = true) (w2 : a2.size ≤ maxLen) (w : World) :
    Calls Try.prog 5 #[.int .u64 a0, .int .i64 a1, .string a2] w fun e w' => e = .returned (.bool true) ∧ Below w.heap.size w w' := by
  obtain ⟨l, rfl⟩ := bs_of a2
  rw [bs_size] at w2
  have q0 := bounds_u64 w0
  have h0 : 0 ≤ a0 := q0.1
  have h1 : a0 < 18446744073709551616 := by omega
  clear q0 w0 w1
  go_enter Try.func5, Try.ntmps5
  go_wp2_with fail
  refine (take_any l w2 a1 _).mono ?_
  rintro e w1 ⟨rfl, hb1⟩
  generalize hT : takeR l a1 = T
  have HT := hid hT; clear hT
  go_wp2_with fail
  refine (rtake_any l w2 a1 _).mono ?_
  rintro e w2 ⟨rfl, hb2⟩
  rw [HT.out]
  replace hb1 := bt hb1 hb2; clear hb2
  go_wp2_with fail
  refine (pad_any l (by assumption) a1 _).mono ?_
  rintro e w2 ⟨rfl, hb2⟩
  generalize hU : padR l a1 = U
  have HU := hid hU; clear hU
  replace hb1 := bt hb1 hb2; clear hb2
  go_wp2_with fail
  refine (rpad_any l (by assumption) a1 _).mono ?_
  rintro e w2 ⟨rfl, hb2⟩
  rw [HU.out]
  replace hb1 := bt hb1 hb2; clear hb2
  go_wp2_with fail
  refine (put_any a0 a1 h0 h1 _).mono ?_
  rintro e w2 ⟨rfl, hb2⟩
  generalize hV : putS a0.toNat a1 = V
  have HV := hid hV; clear hV
  replace hb1 := bt hb1 hb2; clear hb2
  go_wp2_with fail
  refine (rput_any a0 a1 h0 h1 _).mono ?_
  rintro e w2 ⟨rfl, hb2⟩
  rw [HV.out]
  replace hb1 := bt hb1 hb2; clear hb2
  go_wp2_with fail
  refine (awake03 _).mono ?_
  rintro e w2 ⟨rfl, hb2⟩
  go_wp2_with fail
  go_ret
  exact ⟨rfl, bt hb1 hb2⟩
/-! ### The row -/
theorem own : ownKnob Try.prog.godebug = none := by kernel_rfl
set_option maxRecDepth 100000 in
theorem lifted (os : Os) (started : os.Started) (H : Type) (enc : TypeId × Value → H) :
    ReturnsInHanded {} Try.checked os 5 .any (Rows.packNumbersSpec.pre6 enc Try.prog Try.f5 Rows.packNumbersRow.domain false) (Rows.packNumbersSpec.post enc Try.prog Try.f5 false true false false) := by
  refine returnsInHanded_of_change (C := Try.checked) own started (by kernel_rfl) Try.func5
    (ChangeSpec.witness6 (enc := enc) (C := Try.checked) false ⟨#[], #[.int .u64 0, .int .i64 0, .string ByteArray.empty], []⟩ 8 (by kernel_rfl) (by kernel_rfl) (by kernel_rfl) (by kernel_rfl)) ?_
  intro W base args ds gs before hval0 hW hcnd _
  have hval : ∀ (j : Nat) t v, Try.f5.params[j]? = some t → args[j]? = some v → Value.okWide Try.prog W .any base t v := hval0
  have hW' := hW
  obtain ⟨p, q, hA0, hV, rfl, hfz, hnd⟩ := hW
  have hA : DataW.TrodAll enc Try.prog W 0 (fun _ => true) true Try.f5.params.toList args.toList ds p := hA0
  rw [Try.params5] at hA hval
  obtain ⟨v0, vs0, d0, ds0, p0, q0, hargs, rfl, rfl, h0, r0⟩ := trodAll_cons hA
  obtain ⟨v1, vs1, d1, ds1, p1, q1, rfl, rfl, rfl, h1, r1⟩ := trodAll_cons r0
  obtain ⟨v2, vs2, d2, ds2, p2, q2, rfl, rfl, rfl, h2, r2⟩ := trodAll_cons r1
  obtain ⟨rfl, rfl, rfl⟩ := trodAll_nil r2
  obtain rfl : args = #[v0, v1, v2] := by cases args; simp_all
  obtain ⟨rfl, rfl⟩ := trodVars_none hV
  obtain ⟨a0, rfl, rfl, rfl, w0⟩ := open_int Try.underlying22 (hval 0 22 v0 rfl rfl) h0
  obtain ⟨a1, rfl, rfl, rfl, w1⟩ := open_int Try.underlying3 (hval 1 3 v1 rfl rfl) h1
  obtain ⟨a2, rfl, rfl, rfl, w2⟩ := open_string Try.underlying9 (hval 2 9 v2 rfl rfl) h2
  clear hA0 hval0
  simp only [List.append_nil] at hW'
  refine (walk a0 a1 a2 w0 w1 w2 W).mono fun e W' ⟨he, hb⟩ => ?_
  subst he
  exact ⟨_, rfl, post_of_below (pa := []) (pv := []) hW' (fun _ _ _ => (trodAll_cons_mk (shut_bool Try.underlying4 _) trodAll_mk0)) (fun sp _ => (trodAll_cons_mk (shut_int Try.underlying22 w0) (trodAll_cons_mk (shut_int Try.underlying3 w1) (trodAll_cons_mk (shut_string Try.underlying9 w2) trodAll_mk0)))) (fun _ _ => rfl) rfl hb (ok_one (by kernel_rfl) rfl (okWide_bool_mk Try.underlying4 _))⟩
theorem over_ : Rows.packNumbersRow.holds Try.pinned (OpenSpec.ofChange Rows.packNumbersSpec) :=
  OpenClaim.holds_of_wide 5 Try.f5 rfl rfl rfl rfl rfl rfl rfl ⟨rfl, rfl, rfl, rfl, rfl⟩ rfl rfl rfl rfl rfl (by kernel_rfl) Try.func5 (by kernel_rfl)
    (of_decide_eq_true (by kernel_rfl)) (by unfold Func.isWrapper; first | (rw [if_pos (by decide +kernel)]; kernel_rfl) | (rw [if_neg (by decide +kernel)]; exact ⟨rfl, rfl⟩))
    (fun os started H enc _ => lifted os started H enc)
/-- The statement. -/
theorem proved : Rows.PackNumbersSaid := over_
#print axioms proved
end Go.Proofs.Ytnlimkboenciaaa.packNumbers
