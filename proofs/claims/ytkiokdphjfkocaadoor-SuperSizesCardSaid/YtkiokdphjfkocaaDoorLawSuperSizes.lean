/- SuperSizes: an image with a cluster more has just two sectors more, all of which are that cluster's: any geometry. The listed variables of unicode/utf8 start as the program's text lays them (a tied card). -/
import Derived.Test.YtkiokdphjfkocaaDoorSuper1
import Derived.Test.YtkiokdphjfkocaaDoorOpen
import Derived.Test.YtkiokdphjfkocaaDoorCards
import Derived.Test.YtkiokdphjfkocaaDoorTie
import Derived.ProofKit
import Derived.LaidMore
import Derived.Stop.Joined
import Derived.SevenTiedAt
set_option linter.unusedVariables false
namespace Go.Proofs.YtkiokdphjfkocaaDoor.superSizes
open Go.RowKit Go.Shelf Go.WideShapes Go.ChangeShapes Go.ChangeAt Go.Joins
open Go.ChangeMaps (open_string shut_string)
attribute [local go_sem] bs_mk bs_append bs_extract bs_size bs_toList bs_get

theorem mixed_ : Tryd.prog.follows .mixedOrders = true := by kernel_rfl
set_option maxRecDepth 100000 in
theorem walk_bad (g h : Int) (hk : geomOk g h = false) (w : World) : Calls Tryd.prog 3 #[gval g h] w fun e w' => e = .returned (.bool true) ∧ Below w.heap.size w w' := by
  have hf := fun W => r4_fit g h W
  rw [hk] at hf
  have hb := (Below.refl w.heap.size w).alloc (Nat.le_refl _) (.cells #[.int .i64 g, .int .i64 h] 23)
  go_enter Tryd.func3, Tryd.ntmps3
  go_wp2_with fail
  go_at_call 8
  refine (hf _).mono ?_
  rintro e w1 ⟨rfl, hb1⟩
  go_wp2_with fail
  go_at_call 9
  refine (awake04 _).mono ?_
  rintro e w2 ⟨rfl, hb2⟩
  go_wp2_with fail
  go_ret
  exact ⟨rfl, bt (bt hb hb1) hb2⟩
set_option maxRecDepth 100000 in
theorem walk_most (g : Int) (hg : 0 < g ∧ g ≤ 64) (w : World) : Calls Tryd.prog 3 #[gval g 256] w fun e w' => e = .returned (.bool true) ∧ Below w.heap.size w w' := by
  have hf := fun W => r4_fit g 256 W
  rw [show geomOk g 256 = true from geomOk_iff.2 ⟨hg.1, hg.2, by omega, by omega⟩] at hf
  have hf2 := fun W => s_fit g 257 W
  rw [show geomOk g 257 = false by simp [geomOk]] at hf2
  have hb := (Below.refl w.heap.size w).alloc (Nat.le_refl _) (.cells #[.int .i64 g, .int .i64 256] 23)
  have x0 := Blk.new w 23 #[.int .i64 g, .int .i64 256]
  go_enter Tryd.func3, Tryd.ntmps3
  go_wp2_with fail
  go_at_call 8
  refine (hf _).mono ?_
  rintro e w1 ⟨rfl, hb1⟩
  have x1 := x0.below hb1 x0.lt
  have b1 := bt hb hb1
  have y0 := x1.cell 0
  have y1 := x1.cell 1
  have ne1 : ¬ w1.heap.size = w.heap.size := by have := x1.lt; omega
  have ne2 : ¬ w.heap.size = w1.heap.size := by omega
  go_wp2_with fail
  go_at_call 10
  refine (hf2 _).mono ?_
  rintro e w2 ⟨rfl, hb2⟩
  have x2 := (x1.alloc (.cells #[.int .i64 g, .int .i64 257] 23)).below hb2 (x1.alloc _).lt
  have b2 := bt (b1.alloc b1.size (.cells #[.int .i64 g, .int .i64 257] 23)) hb2
  have y2 := x2.cell 1
  go_wp2_with fail
  go_at_call 9
  refine (awake04 _).mono ?_
  rintro e w3 ⟨rfl, hb3⟩
  go_wp2_with fail
  go_ret
  exact ⟨rfl, bt b2 hb3⟩
set_option maxRecDepth 100000 in
theorem walk_ok (g h : Int) (hg : 0 < g ∧ g ≤ 64 ∧ 8 ≤ h ∧ h ≤ 255) (w : World) : Calls Tryd.prog 3 #[gval g h] w fun e w' => e = .returned (.bool true) ∧ Below w.heap.size w w' := by
  have k1 : geomOk g h = true := geomOk_iff.2 ⟨by omega, by omega, by omega, by omega⟩
  have k2 : geomOk g (h + 1) = true := geomOk_iff.2 ⟨by omega, by omega, by omega, by omega⟩
  have hf := fun W => r4_fit g h W
  rw [k1] at hf
  have hf2 := fun W => s_fit g (h + 1) W
  rw [k2] at hf2
  have hS := fun W => s_sectors g h W
  rw [k1] at hS
  have hS2 := fun W => s_sectors g (h + 1) W
  rw [k2] at hS2
  simp only [if_true, show (96 : Int) + 2 * (h + 1) = 96 + 2 * h + 2 by omega] at hS hS2
  have m1 : (96 : Int) + 2 * h + 2 ≤ 1024 := by omega
  have m2 : decide ((96 : Int) + 2 * h + 2 ≤ 1024) = true := by simpa using m1
  have hA := fun W => s_at h (by omega) (by omega) W
  clear k1 k2
  have hb := (Below.refl w.heap.size w).alloc (Nat.le_refl _) (.cells #[.int .i64 g, .int .i64 h] 23)
  have x0 := Blk.new w 23 #[.int .i64 g, .int .i64 h]
  go_enter Tryd.func3, Tryd.ntmps3
  go_wp2_with fail
  go_at_call 8
  refine (hf _).mono ?_
  rintro e w1 ⟨rfl, hb1⟩
  have x1 := x0.below hb1 x0.lt
  have b1 := bt hb hb1
  have y0 := x1.cell 0
  have y1 := x1.cell 1
  have ne1 : ¬ w1.heap.size = w.heap.size := by have := x1.lt; omega
  have ne2 : ¬ w.heap.size = w1.heap.size := by omega
  go_wp2_with fail
  go_at_call 10
  refine (hf2 _).mono ?_
  rintro e w2 ⟨rfl, hb2⟩
  have x2 := (x1.alloc (.cells #[.int .i64 g, .int .i64 (h + 1)] 23)).below hb2 (x1.alloc _).lt
  have z2 := (Blk.new w1 23 #[.int .i64 g, .int .i64 (h + 1)]).below hb2 (Blk.new w1 _ _).lt
  have b2 := bt (b1.alloc b1.size (.cells #[.int .i64 g, .int .i64 (h + 1)] 23)) hb2
  have X0 := fun e : Ext w2 => e.cell (x2.cell 0)
  have X1 := fun e : Ext w2 => e.cell (x2.cell 1)
  have Z0 := fun e : Ext w2 => e.cell (z2.cell 0)
  have Z1 := fun e : Ext w2 => e.cell (z2.cell 1)
  have c1 := fun e : Ext w2 => hS2 e.world
  have c2 := fun e : Ext w2 => hS e.world
  have c3 := fun e : Ext w2 => hA e.world
  have c4 := fun e : Ext w2 => awake04 e.world
  clear hb1 hb2 hb x0 x1 y0 y1
  go_wp2_with fail
  refine wp_region_ext mixed_ (by kernel_rfl) ?_
  repeat (go_big_quiet_step (first | (go_at_call 11; with_reducible exact ext_of (c1 _)) | (go_at_call 11; with_reducible exact ext_of (c2 _)) | (go_at_call 12; with_reducible exact ext_of (c3 _)) | (go_at_call 9; with_reducible exact ext_of (c4 _))))
  refine wpQuiet_nil ?_
  rintro _ ⟨⟨w3, hb3⟩, rfl⟩
  go_wp2_with fail
  go_ret
  exact ⟨rfl, bt b2 hb3⟩
theorem walk (w : World) (g h : Int) (_ : (Lit.int .i64 g).wf = true) (_ : (Lit.int .i64 h).wf = true) : Calls Tryd.prog 3 #[gval g h] w fun e w' => e = .returned (.bool true) ∧ Below w.heap.size w w' := by
  by_cases hk : geomOk g h = true
  · obtain ⟨h1, h2, h3, h4⟩ := geomOk_iff.1 hk
    by_cases h5 : h = 256
    · subst h5; exact walk_most g ⟨h1, h2⟩ w
    · exact walk_ok g h ⟨h1, h2, h3, by omega⟩ w
  · exact walk_bad g h (by simpa using hk) w
/-! ### The row: the listed variables lie in the witness's world as the condition says -/
theorem own : ownKnob Tryd.prog.godebug = none := by kernel_rfl
/-- Utf8's table of first bytes, cell by cell. -/
def firstCells : Array Value := match Go.Pinned.utf8First with | .agg l => (l.map fun | .lit (.int k m) => Value.int k m | _ => undef).toArray | _ => #[]
/-- The heap that the door's own run leaves, with the pinned table laid. -/
noncomputable def laidWorld (os : Os) : World :=
  let w0 := World.doorLaid Tryd.prog 4000 os
  { w0 with heap := w0.heap.modify 0 fun | .cells _ t fr => .cells firstCells t fr | o => o }
set_option maxRecDepth 100000 in
theorem door_met (os : Os) (args : Array Value) : laidMetH Tryd.prog Rows.superSizesRow.laid ((laidWorld os).forCall (fun _ _ => 0) ⟨#[], args, []⟩).memory :=
  laidMetH_of_parts3 (fuel := 8) (laidMet_of_run' 8 (by kernel_rfl) (by kernel_rfl)) (by kernel_rfl) (by kernel_rfl)
set_option maxRecDepth 100000 in
theorem lifted (os : Os) (started : os.Started) (H : Type) (enc : TypeId × Value → H) :
    ReturnsInHanded {} Tryd.checked os 3 .any (fun w args => (Rows.superSizesSpec.pre enc Tryd.prog Tryd.f3 [] false w args ∧ laidMetH Tryd.prog Rows.superSizesRow.laid w) ∧ sizedMet enc Tryd.prog Tryd.f3 (OpenSpec.ofChange Rows.superSizesSpec) false w args)
      (Rows.superSizesSpec.post enc Tryd.prog Tryd.f3 false true false false) := by
  refine returnsInHanded_of_change_and (C := Tryd.checked) (X := fun w _ => laidMetH Tryd.prog Rows.superSizesRow.laid w) (fun _ _ _ hh h => h.of_heap hh) own started (by kernel_rfl) Tryd.func3
    (ChangeSpec.witness_shaped (enc := enc) (C := Tryd.checked) (os := os) (X := fun w _ => laidMetH Tryd.prog Rows.superSizesRow.laid w) false (laidWorld os) #[.agg #[.int .i64 0, .int .i64 0]] 8 rfl (World.shaped_of_RefB (by kernel_rfl) (by kernel_rfl)) (by kernel_rfl) (by kernel_rfl) (by kernel_rfl) (door_met os _)) ?_
  intro W base args ds gs before hval0 hW _ _ hL _
  have hval : ∀ (j : Nat) t v, Tryd.f3.params[j]? = some t → args[j]? = some v → Value.okWide Tryd.prog W .any base t v := hval0
  have hW' := hW
  obtain ⟨p, q, hA0, hV, rfl, hfz, hnd⟩ := hW
  have hA : DataW.TrodAll enc Tryd.prog W 0 (fun _ => true) true Tryd.f3.params.toList args.toList ds p := hA0
  have hAk := hA
  rw [Tryd.params3] at hA hval
  obtain ⟨v0, vs0, d0, ds0, p0, q0, hargs, rfl, rfl, h0, r0⟩ := trodAll_cons hA
  obtain ⟨rfl, rfl, rfl⟩ := trodAll_nil r0
  obtain rfl : args = #[v0] := by cases args; simp_all
  obtain ⟨rfl, rfl⟩ := trodVars_none hV
  obtain ⟨u0, x0, y0, z0, m0, rfl, _, _, t0, s0⟩ := open_agg2 Tryd.underlying23 (by kernel_rfl) (by kernel_rfl) (hval 0 23 v0 rfl rfl) h0
  obtain ⟨g0, e0, _, w0⟩ := DataW.trod_int Tryd.underlying3 t0
  obtain ⟨k0, f0, _, v0⟩ := DataW.trod_int Tryd.underlying3 s0
  injection e0 with e0
  injection f0 with f0
  subst e0; subst f0
  clear hA0 hval0
  simp only [List.append_nil] at hW'
  refine (walk W g0 k0 w0 v0).mono fun e W' ⟨he, hb⟩ => ?_
  subst he
  exact ⟨_, rfl, post_of_below (pa := _) (pv := []) hW' (fun _ _ _ => (trodAll_cons_mk (shut_bool Tryd.underlying4 _) trodAll_mk0)) (fun sp hsp => trodAll_stays (by kernel_rfl) hb (by kernel_rfl) hAk (fun x hx => hW'.lt x (by simpa using hx)) (fun x hx => hsp x (by simpa using hx))) (fun _ _ => rfl) (by simp) hb (ok_one (by kernel_rfl) rfl (okWide_bool_mk Tryd.underlying4 _))⟩
theorem row_ : Rows.SuperSizesSaid :=
  OpenClaim.holds_of_wide 3 Tryd.f3 rfl rfl rfl rfl rfl rfl rfl ⟨rfl, rfl, rfl, rfl, rfl⟩ rfl rfl rfl rfl rfl (by kernel_rfl) Tryd.func3 (by kernel_rfl)
    (of_decide_eq_true (by kernel_rfl)) (by unfold Func.isWrapper; first | (rw [if_pos (by decide +kernel)]; kernel_rfl) | (rw [if_neg (by decide +kernel)]; exact ⟨rfl, rfl⟩))
    (fun os started H enc _ => lifted os started H enc)
/-- The statement: the tied card. -/
theorem proved : Rows.SuperSizesCardSaid :=
  Claim7.holds_tied_plain_at .later [] [.data, .pinned] true (true, "b795209f8e7f0a9d5cc7c2730c89a80d3d8e1f435cbe53d2da0227eaffed61d6") false
    row_ (fun _ h => by cases h) (by kernel_rfl) (fun _ h => by cases h) superSizes_row_tie rfl ⟨rfl, rfl⟩ (by kernel_rfl) rfl
    (fun f fn hf hfn => by
      obtain rfl : f = 3 := Option.some.inj ((show Tryd.prog.funcNamed "cofferdam/cofferdamlaw04.SuperSizes" = some 3 by kernel_rfl).symm.trans hf) |>.symm
      obtain rfl : fn = Tryd.f3 := (Option.some.inj (Tryd.func3.symm.trans hfn)).symm
      exact ⟨by kernel_rfl, fun j t ht => by
        rw [Tryd.params3] at ht
        have hm : t ∈ [23] := by have := Array.mem_of_getElem? ht; simp at this ⊢; omega
        have hall : ([23].all fun u => !Tryd.prog.wantsStandIn u) = true := by kernel_rfl
        exact (show Tryd.prog.wantsStandIn t = false by simpa using List.all_eq_true.1 hall t hm)⟩)
    (by kernel_rfl)
#print axioms proved
end Go.Proofs.YtkiokdphjfkocaaDoor.superSizes
