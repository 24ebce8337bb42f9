/- PlanTells: which plans can be, and which are the same, is the document's: any plans. No condition. -/
import Derived.Test.YtjpjpiejcpeepaaLaw05a
import Derived.Test.YtjpjpiejcpeepaaPlanFit
import Derived.Test.YtjpjpiejcpeepaaPlan6
import Derived.Test.YtjpjpiejcpeepaaOpen4
import Derived.Test.YtjpjpiejcpeepaaShut
set_option linter.unusedVariables false
namespace Go.Proofs.Ytjpjpiejcpeepaa.planTells
open Go.RowKit Go.Shelf Go.WideShapes Go.ChangeShapes Go.ChangeAt
open Go.ChangeMaps (open_string shut_string)
attribute [local go_sem] bs_mk bs_append bs_extract bs_size bs_toList bs_get

set_option maxRecDepth 100000 in
theorem walk_many (L M : Pn) (p q p' q' : Pl) (w : World) (hm : L.targets.length ≤ 1152921504606846976 ∧ L.data.length ≤ 1152921504606846976 ∧ M.targets.length ≤ 1152921504606846976 ∧ M.data.length ≤ 1152921504606846976) (h : 2000 < L.targets.length + L.data.length + M.targets.length + M.data.length) :
    Calls Try.prog 7 #[pval L p q, pval M p' q'] w fun e w' => e = .returned (.bool true) ∧ Below w.heap.size w w' := by
  obtain ⟨m1, m2, m3, m4⟩ := hm
  have g1 : (2000 : Int) < (L.targets.length : Int) + (L.data.length : Int) + (M.targets.length : Int) + (M.data.length : Int) := by omega
  clear h
  obtain ⟨A1, a1⟩ := p
  obtain ⟨A2, a2⟩ := q
  obtain ⟨B1, b1⟩ := p'
  obtain ⟨B2, b2⟩ := q'
  have hB := Below.refl w.heap.size w
  have x := Blk.new w 28 #[.slice A1 L.targets.length a1, .slice A2 L.data.length a2]
  have xk := blk2 x
  have hB_1 := hB.alloc hB.size (.cells #[.slice A1 L.targets.length a1, .slice A2 L.data.length a2] 28)
  have z := Blk.new (w.alloc (.cells #[.slice A1 L.targets.length a1, .slice A2 L.data.length a2] 28)) 28 #[.slice B1 M.targets.length b1, .slice B2 M.data.length b2]
  simp only [World.size_alloc] at z
  have zk := blk2 z
  have hB_2 := hB_1.alloc hB_1.size (.cells #[.slice B1 M.targets.length b1, .slice B2 M.data.length b2] 28)
  have x_3 := x.alloc (.cells #[.slice B1 M.targets.length b1, .slice B2 M.data.length b2] 28)
  have xk_3 := blk2 x_3
  go_enter Try.func7, Try.ntmps7
  go_wp2_with fail
  go_at_call 14
  refine ((awake05 _)).mono ?_
  rintro e w1 ⟨rfl, hb1⟩
  replace hB := bt hB_2 hb1
  replace x := x_3.below hb1 x_3.lt
  replace xk := blk2 x
  replace z := z.below hb1 z.lt
  replace zk := blk2 z
  clear hB_1 hB_2 xk_3 x_3
  go_wp2_with fail
  go_ret
  exact ⟨rfl, hB⟩
set_option maxRecDepth 100000 in
set_option maxHeartbeats 1000000 in
theorem walk_few (L M : Pn) (p q p' q' : Pl) (w : World) (hL : IsPn w L p q) (hM : IsPn w M p' q') (h : L.targets.length + L.data.length + M.targets.length + M.data.length ≤ 2000) :
    Calls Try.prog 7 #[pval L p q, pval M p' q'] w fun e w' => e = .returned (.bool true) ∧ Below w.heap.size w w' := by
  have g1 : (L.targets.length : Int) + (L.data.length : Int) + (M.targets.length : Int) + (M.data.length : Int) ≤ 2000 := by omega
  have m1 : L.targets.length ≤ 2000 := by omega
  have m2 : L.data.length ≤ 2000 := by omega
  have m3 : M.targets.length ≤ 2000 := by omega
  have m4 : M.data.length ≤ 2000 := by omega
  have c1 := fun (W : World) (hb : Below w.heap.size w W) => pl_fit L p q W (hL.below hb)
  have c2 := fun (W : World) (hb : Below w.heap.size w W) => r5_fit L p q W (hL.below hb)
  have c3 := fun (W : World) (hb : Below w.heap.size w W) => pl_same L M p q p' q' W (hL.below hb) (hM.below hb) (by omega) (by omega)
  have c4 := fun (W : World) (hb : Below w.heap.size w W) => r5_same L M p q p' q' W (hL.below hb) (hM.below hb) (by omega) (by omega) (by omega) (by omega)
  have c5 := fun (W : World) (hb : Below w.heap.size w W) => pl_same L L p q p q W (hL.below hb) (hL.below hb) (by omega) (by omega)
  rw [Pn.same_self] at c5
  generalize L.fit = fL at c1 c2
  generalize L.same M = sLM at c3 c4
  clear h hL hM
  obtain ⟨A1, a1⟩ := p
  obtain ⟨A2, a2⟩ := q
  obtain ⟨B1, b1⟩ := p'
  obtain ⟨B2, b2⟩ := q'
  have hB := Below.refl w.heap.size w
  have x := Blk.new w 28 #[.slice A1 L.targets.length a1, .slice A2 L.data.length a2]
  have xk := blk2 x
  have hB_1 := hB.alloc hB.size (.cells #[.slice A1 L.targets.length a1, .slice A2 L.data.length a2] 28)
  have z := Blk.new (w.alloc (.cells #[.slice A1 L.targets.length a1, .slice A2 L.data.length a2] 28)) 28 #[.slice B1 M.targets.length b1, .slice B2 M.data.length b2]
  simp only [World.size_alloc] at z
  have zk := blk2 z
  have hB_2 := hB_1.alloc hB_1.size (.cells #[.slice B1 M.targets.length b1, .slice B2 M.data.length b2] 28)
  have x_3 := x.alloc (.cells #[.slice B1 M.targets.length b1, .slice B2 M.data.length b2] 28)
  have xk_3 := blk2 x_3
  go_enter Try.func7, Try.ntmps7
  go_wp2_with fail
  generalize ((w.alloc (.cells #[.slice A1 L.targets.length a1, .slice A2 L.data.length a2] 28)).alloc (.cells #[.slice B1 M.targets.length b1, .slice B2 M.data.length b2] 28)) = V at hB_2 x_3 xk_3 z zk ⊢
  clear hB_1 hB x xk
  have hB := hB_2
  have x := x_3
  have xk := xk_3
  clear hB_2 x_3 xk_3
  have X := ext2 x
  have Z := ext2 z
  have e1 := fun e : Ext V => c1 e.world (bt hB e.below)
  have e2 := fun e : Ext V => c2 e.world (bt hB e.below)
  have e3 := fun e : Ext V => c3 e.world (bt hB e.below)
  have e4 := fun e : Ext V => c4 e.world (bt hB e.below)
  have e5 := fun e : Ext V => c5 e.world (bt hB e.below)
  clear c1 c2 c3 c4 c5
  refine wp_region_ext mixed (by kernel_rfl) ?_
  repeat (go_big_quiet_step ((first | (go_at_call 29; with_reducible exact ext_of (e1 _)) | (go_at_call 18; with_reducible exact ext_of (e2 _)) | (go_at_call 30; with_reducible (first | exact ext_of (e3 _) | exact ext_of (e5 _))) | (go_at_call 16; with_reducible exact ext_of (e4 _)) | (go_at_call 14; with_reducible exact ext_of (awake05 _)))))
  refine wpQuiet_nil ?_
  rintro W ⟨pq_, hpq_⟩
  have hW := pq_.below
  rw [← hpq_] at hW
  clear hpq_ pq_
  go_wp2_with fail
  go_ret
  exact ⟨rfl, bt hB hW⟩
theorem walk (w : World) (L : Pn) (p q : Pl) (hL : IsPn w L p q ∧ L.targets.length * Try.prog.bytesOf 3 ≤ reachBytes ∧ L.data.length * Try.prog.bytesOf 9 ≤ reachBytes) (M : Pn) (p' q' : Pl) (hM : IsPn w M p' q' ∧ M.targets.length * Try.prog.bytesOf 3 ≤ reachBytes ∧ M.data.length * Try.prog.bytesOf 9 ≤ reachBytes) :
    Calls Try.prog 7 #[pval L p q, pval M p' q'] w fun e w' => e = .returned (.bool true) ∧ Below w.heap.size w w' := by
  obtain ⟨hL, l1, l2⟩ := hL
  obtain ⟨hM, m1, m2⟩ := hM
  rw [show Try.prog.bytesOf 3 = 8 by kernel_rfl] at l1 m1
  rw [show Try.prog.bytesOf 9 = 16 by kernel_rfl] at l2 m2
  unfold reachBytes at l1 l2 m1 m2
  by_cases h : 2000 < L.targets.length + L.data.length + M.targets.length + M.data.length
  · exact walk_many L M p q p' q' w (by omega) h
  · exact walk_few L M p q p' q' w hL hM (by omega)
/-! ### The row -/
theorem own : ownKnob Try.prog.godebug = none := by kernel_rfl
set_option maxRecDepth 100000 in
theorem lifted (os : Os) (started : os.Started) (H : Type) (enc : TypeId × Value → H) :
    ReturnsInHanded {} Try.checked os 7 .any (Rows.planTellsSpec.pre6 enc Try.prog Try.f7 Rows.planTellsRow.domain false) (Rows.planTellsSpec.post enc Try.prog Try.f7 false true false false) := by
  refine returnsInHanded_of_change_sized (C := Try.checked) own started (by kernel_rfl) Try.func7
    (ChangeSpec.witness6 (enc := enc) (C := Try.checked) false ⟨#[], #[.agg #[.slice none 0 0, .slice none 0 0], .agg #[.slice none 0 0, .slice none 0 0]], []⟩ 8 (by kernel_rfl) (by kernel_rfl) (by kernel_rfl) (by kernel_rfl)) ?_
  intro W base args ds gs before hval0 hW hcnd hsz0 _
  have hval : ∀ (j : Nat) t v, Try.f7.params[j]? = some t → args[j]? = some v → Value.okWide Try.prog W .any base t v := hval0
  have hW' := hW
  obtain ⟨p, q, hA0, hV, rfl, hfz, hnd⟩ := hW
  have hA : DataW.TrodAll enc Try.prog W 0 (fun _ => true) true Try.f7.params.toList args.toList ds p := hA0
  have hAk := hA
  have hsz : (DataW.weightsEach Try.prog (Try.f7.params.toList ++ Rows.planTellsSpec.plain.varTypes Try.prog) (ds ++ gs)).all (· ≤ reachBytes) = true := hsz0
  rw [Try.params7] at hA hval hsz
  obtain ⟨v0, vs0, d0, ds0, p0, q0, hargs, rfl, rfl, h0, r0⟩ := trodAll_cons hA
  obtain ⟨v1, vs1, d1, ds1, p1, q1, rfl, rfl, rfl, h1, r1⟩ := trodAll_cons r0
  obtain ⟨rfl, rfl, rfl⟩ := trodAll_nil r1
  obtain rfl : args = #[v0, v1] := by cases args; simp_all
  obtain ⟨rfl, rfl⟩ := trodVars_none hV
  obtain ⟨D0, P0, Q0, rfl, w0⟩ := open_plan_sized Try.underlying28 (by kernel_rfl) (by kernel_rfl) Try.underlying23 Try.underlying26 Try.underlying3 (by kernel_rfl) Try.underlying9 (by kernel_rfl) (hval 0 28 v0 rfl rfl) h0 (weights_each hsz (j := 0) rfl rfl)
  obtain ⟨D1, P1, Q1, rfl, w1⟩ := open_plan_sized Try.underlying28 (by kernel_rfl) (by kernel_rfl) Try.underlying23 Try.underlying26 Try.underlying3 (by kernel_rfl) Try.underlying9 (by kernel_rfl) (hval 1 28 v1 rfl rfl) h1 (weights_each hsz (j := 1) rfl rfl)
  clear hA0 hval0
  simp only [List.append_nil] at hW'
  refine (walk W D0 P0 Q0 w0 D1 P1 Q1 w1).mono fun e W' ⟨he, hb⟩ => ?_
  subst he
  exact ⟨_, rfl, post_of_below (pa := _) (pv := []) hW' (fun _ _ _ => (trodAll_cons_mk (shut_bool Try.underlying4 _) trodAll_mk0)) (fun sp hsp => trodAll_stays (by kernel_rfl) hb (by kernel_rfl) hAk (fun x hx => hW'.lt x (by simpa using hx)) (fun x hx => hsp x (by simpa using hx))) (fun _ _ => rfl) (by simp) hb (ok_one (by kernel_rfl) rfl (okWide_bool_mk Try.underlying4 _))⟩
theorem over_ : Rows.planTellsRow.holds Try.pinned (OpenSpec.ofChange Rows.planTellsSpec) :=
  OpenClaim.holds_of_wide 7 Try.f7 rfl rfl rfl rfl rfl rfl rfl ⟨rfl, rfl, rfl, rfl, rfl⟩ rfl rfl rfl rfl rfl (by kernel_rfl) Try.func7 (by kernel_rfl)
    (of_decide_eq_true (by kernel_rfl)) (by unfold Func.isWrapper; first | (rw [if_pos (by decide +kernel)]; kernel_rfl) | (rw [if_neg (by decide +kernel)]; exact ⟨rfl, rfl⟩))
    (fun os started H enc _ => lifted os started H enc)
/-- The statement. -/
theorem proved : Rows.PlanTellsSaid := over_
#print axioms proved
end Go.Proofs.Ytjpjpiejcpeepaa.planTells
