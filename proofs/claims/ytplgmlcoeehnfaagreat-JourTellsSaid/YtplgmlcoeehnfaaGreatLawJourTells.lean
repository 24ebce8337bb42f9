/- JourTells: where a record goes, and where a journal can go on, is the document's: any numbers. No condition. -/
import Derived.Test.YtplgmlcoeehnfaaGreatLaw07a
import Derived.Test.YtplgmlcoeehnfaaGreatOpens
set_option linter.unusedVariables false
namespace Go.Proofs.YtplgmlcoeehnfaaGreat.jourTells
open Go.RowKit Go.Shelf Go.WideShapes Go.ChangeShapes Go.ChangeAt
open Go.ChangeMaps (open_string shut_string)
attribute [local go_sem] bs_mk bs_append bs_extract bs_size bs_toList bs_get
set_option maxRecDepth 100000 in
theorem walk (w : World) (s : Nat) (p : Int) (wj : s < 18446744073709551616 ∧ okInt p) (a : Int) (wa : (Lit.int .i64 a).wf = true) (b : Int) (wb : (Lit.int .i64 b).wf = true) : Calls Tryz.prog 9 #[.agg #[.int .u64 s, .int .i64 p], .int .i64 a, .int .i64 b] w fun e w' => e = .returned (.bool true) ∧ Below w.heap.size w w' := by
  have ha := okInt_of wa
  have hbb := okInt_of wb
  obtain ⟨hs, hp⟩ := wj
  have d1 := fun W => j_fit ⟨s, p⟩ hs hp W
  have d2 := fun W => r7_fit ⟨s, p⟩ hs hp W
  have d3 := fun W => j_place a b ha hbb W
  have d4 := fun W => r7_place a b ha hbb W
  generalize jrFit ⟨s, p⟩ = f at *
  generalize jrPlace a b = q at *
  have hB := Below.refl w.heap.size w
  have x := Blk.new w 72 #[.int .u64 s, .int .i64 p]
  have xk := blk2 x
  have hB_1 := hB.alloc hB.size (.cells #[.int .u64 s, .int .i64 p] 72)
  go_enter Tryz.func9, Tryz.ntmps9
  go_wp2_with fail
  generalize (w.alloc (.cells #[.int .u64 s, .int .i64 p] 72)) = V at hB_1 x xk ⊢
  clear hB
  have hB := hB_1
  clear hB_1
  have X2 := ext2 x
  have D1 := fun e : Ext V => d1 e.world
  have D2 := fun e : Ext V => d2 e.world
  have D3 := fun e : Ext V => d3 e.world
  have D4 := fun e : Ext V => d4 e.world
  have D5 := fun e : Ext V => awake07 e.world
  have e1 : (f == f) = true := by simp
  refine wp_region_ext mixed (by kernel_rfl) ?_
  repeat (go_big_quiet_step (((first | (go_at_call 34; with_reducible exact ext_of (D1 _)) | (go_at_call 35; with_reducible exact ext_of (D2 _)) | (go_at_call 33; with_reducible exact ext_of (D3 _)) | (go_at_call 36; with_reducible exact ext_of (D4 _)) | (go_at_call 32; with_reducible exact ext_of (D5 _))))))
  refine wpQuiet_nil ?_
  rintro W ⟨pq_, hpq_⟩
  have hW := pq_.below
  rw [← hpq_] at hW
  clear hpq_ pq_
  go_wp2_with fail
  go_ret
  exact ⟨rfl, bt hB hW⟩
/-! ### The row -/
theorem own : ownKnob Tryz.prog.godebug = none := by kernel_rfl
set_option maxRecDepth 100000 in
theorem lifted (os : Os) (started : os.Started) (H : Type) (enc : TypeId × Value → H) :
    ReturnsInHanded {} Tryz.checked os 9 .any (Rows.jourTellsSpec.pre6 enc Tryz.prog Tryz.f9 Rows.jourTellsRow.domain false) (Rows.jourTellsSpec.post enc Tryz.prog Tryz.f9 false true false false) := by
  refine returnsInHanded_of_change (C := Tryz.checked) own started (by kernel_rfl) Tryz.func9
    (ChangeSpec.witness6 (enc := enc) (C := Tryz.checked) false ⟨#[], #[.agg #[.int .u64 0, .int .i64 0], .int .i64 0, .int .i64 0], []⟩ 8 (by kernel_rfl) (by kernel_rfl) (by kernel_rfl) (by kernel_rfl)) ?_
  intro W base args ds gs before hval0 hW hcnd _
  have hval : ∀ (j : Nat) t v, Tryz.f9.params[j]? = some t → args[j]? = some v → Value.okWide Tryz.prog W .any base t v := hval0
  have hW' := hW
  obtain ⟨p, q, hA0, hV, rfl, hfz, hnd⟩ := hW
  have hA : DataW.TrodAll enc Tryz.prog W 0 (fun _ => true) true Tryz.f9.params.toList args.toList ds p := hA0
  have hAk := hA
  rw [Tryz.params9] at hA hval
  obtain ⟨v0, vs0, d0, ds0, p0, q0, hargs, rfl, rfl, h0, r0⟩ := trodAll_cons hA
  obtain ⟨v1, vs1, d1, ds1, p1, q1, rfl, rfl, rfl, h1, r1⟩ := trodAll_cons r0
  obtain ⟨v2, vs2, d2, ds2, p2, q2, rfl, rfl, rfl, h2, r2⟩ := trodAll_cons r1
  obtain ⟨rfl, rfl, rfl⟩ := trodAll_nil r2
  obtain rfl : args = #[v0, v1, v2] := by cases args; simp_all
  obtain ⟨rfl, rfl⟩ := trodVars_none hV
  obtain ⟨a0, b0, rfl, w0⟩ := open_jour Tryz.underlying72 (by kernel_rfl) (by kernel_rfl) Tryz.underlying70 Tryz.underlying3 (hval 0 72 v0 rfl rfl) h0
  obtain ⟨a1, rfl, rfl, rfl, w1⟩ := open_int Tryz.underlying3 (hval 1 3 v1 rfl rfl) h1
  obtain ⟨a2, rfl, rfl, rfl, w2⟩ := open_int Tryz.underlying3 (hval 2 3 v2 rfl rfl) h2
  clear hA0 hval0
  simp only [List.append_nil] at hW'
  refine (walk W a0 b0 w0 a1 w1 a2 w2).mono fun e W' ⟨he, hb⟩ => ?_
  subst he
  exact ⟨_, rfl, post_of_below (pa := _) (pv := []) hW' (fun _ _ _ => (trodAll_cons_mk (shut_bool Tryz.underlying4 _) trodAll_mk0)) (fun sp hsp => trodAll_stays (by kernel_rfl) hb (by kernel_rfl) hAk (fun x hx => hW'.lt x (by simpa using hx)) (fun x hx => hsp x (by simpa using hx))) (fun _ _ => rfl) (by simp) hb (ok_one (by kernel_rfl) rfl (okWide_bool_mk Tryz.underlying4 _))⟩
theorem over_ : Rows.jourTellsRow.holds Tryz.pinned (OpenSpec.ofChange Rows.jourTellsSpec) :=
  OpenClaim.holds_of_wide 9 Tryz.f9 rfl rfl rfl rfl rfl rfl rfl ⟨rfl, rfl, rfl, rfl, rfl⟩ rfl rfl rfl rfl rfl (by kernel_rfl) Tryz.func9 (by kernel_rfl)
    (of_decide_eq_true (by kernel_rfl)) (by unfold Func.isWrapper; first | (rw [if_pos (by decide +kernel)]; kernel_rfl) | (rw [if_neg (by decide +kernel)]; exact ⟨rfl, rfl⟩))
    (fun os started H enc _ => lifted os started H enc)
/-- The statement. -/
theorem proved : Rows.JourTellsSaid := over_
#print axioms proved
end Go.Proofs.YtplgmlcoeehnfaaGreat.jourTells
