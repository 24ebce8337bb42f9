/- SuperBack: a geometry written and read is the same, and what is read is written as it stood: any geometry, any text. The listed variables of unicode/utf8 start as the program's text lays them (a tied card). -/
import Derived.Test.YtkiokdphjfkocaaDoorSuper5
import Derived.Test.YtkiokdphjfkocaaDoorOpen
import Derived.Test.YtkiokdphjfkocaaDoorCards
import Derived.Test.YtkiokdphjfkocaaDoorTie
import Derived.ProofKit
import Derived.LaidMore
import Derived.Stop.Joined
import Derived.SevenTiedAt
set_option linter.unusedVariables false
namespace Go.Proofs.YtkiokdphjfkocaaDoor.superBack
open Go.RowKit Go.Shelf Go.WideShapes Go.ChangeShapes Go.ChangeAt Go.Joins
open Go.ChangeMaps (open_string shut_string)
attribute [local go_sem] bs_mk bs_append bs_extract bs_size bs_toList bs_get
theorem bs_of (b : ByteArray) : ∃ l, b = bs l := ⟨b.data.toList, by cases b; rfl⟩
theorem bs_ln (l : List UInt8) : (bs l).size = l.length := bs_size l

set_option maxRecDepth 100000 in
set_option maxHeartbeats 1000000 in
/-- Behind the first half. -/
theorem walk_l (w : World) (g h : Int) (s : List UInt8) (hs : s.length ≤ maxLen) :
    Calls Tryd.prog 6 #[gval g h, .string (bs s)] w fun e w' => e = .returned (.bool true) ∧ Below w.heap.size w w' := by
  have hb := (Below.refl w.heap.size w).alloc (Nat.le_refl _) (.cells #[.int .i64 g, .int .i64 h] 23)
  have x0 := Blk.new w 23 #[.int .i64 g, .int .i64 h]
  have c1 := fun W => s_write g h W
  have c3 := fun W => s_read s hs W
  have cf := fun W => s_fit g h W
  by_cases h0 : readE s = 0
  · obtain ⟨q1, q2, q3, -⟩ := read_write h0
    have c2 := fun W => s_write (readG s) (readH s) W
    rw [q2, q3] at c2
    rw [h0] at c3
    clear q1 q2 q3 h0
    generalize readG s = rg at *
    generalize readH s = rh at *
    cases hk : geomOk g h with
    | false =>
      have e1 : writeW g h = [] := by simp [writeW, hk]
      have e2 : writeE g h = 25 := by simp [writeE, hk]
      rw [e1, e2] at c1
      rw [hk] at cf
      clear e1 e2 hk
      go_enter Tryd.func6, Tryd.ntmps6
      go_wp2_with fail
      go_at_call 20
      refine (c3 _).mono ?_
      rintro e w1 ⟨rfl, hb1⟩
      have b1' := bt hb hb1
      have b1 := b1'.alloc b1'.size (.cells #[.int .i64 rg, .int .i64 rh] 23)
      have x1 := (x0.below hb1 x0.lt).alloc (.cells #[.int .i64 rg, .int .i64 rh] 23)
      have y1 := Blk.new w1 23 #[.int .i64 rg, .int .i64 rh]
      have k1 := blk2 y1
      go_wp2_with fail
      go_at_call 18
      refine (c2 _).mono ?_
      rintro e w2 ⟨rfl, hb2⟩
      have b2 := bt b1 hb2
      have x2 := x1.below hb2 x1.lt
      have k2 := blk2 x2
      clear k1 y1 b1' b1 x1 hb1 hb2 c2 c3
      go_wp2_with fail
      go_at_call 18
      refine (c1 _).mono ?_
      rintro e w3 ⟨rfl, hb3⟩
      have b3 := bt b2 hb3
      have x3 := x2.below hb3 x2.lt
      have k3' := blk2 x3
      go_wp2_with fail
      go_at_call 10
      refine (cf _).mono ?_
      rintro e w4 ⟨rfl, hb4⟩
      have b4 := bt b3 hb4
      go_wp2_with fail
      go_at_call 9
      refine (awake04 _).mono ?_
      rintro e w5 ⟨rfl, hb5⟩
      go_wp2_with fail
      go_ret
      exact ⟨rfl, bt b4 hb5⟩
    | true =>
      obtain ⟨r1, r2, r3, r4⟩ := write_read hk
      have c4 := fun W => s_read (writeW g h) (by rw [r4]; decide) W
      have e2 : writeE g h = 0 := by simp [writeE, hk]
      rw [r1, r2, r3] at c4
      rw [e2] at c1
      rw [hk] at cf
      have l64 : ((writeW g h).length : Int) = 64 := by rw [r4]; rfl
      clear e2 hk r1 r2 r3
      generalize writeW g h = ww at *
      go_enter Tryd.func6, Tryd.ntmps6
      go_wp2_with fail
      go_at_call 20
      refine (c3 _).mono ?_
      rintro e w1 ⟨rfl, hb1⟩
      have b1' := bt hb hb1
      have b1 := b1'.alloc b1'.size (.cells #[.int .i64 rg, .int .i64 rh] 23)
      have x1 := (x0.below hb1 x0.lt).alloc (.cells #[.int .i64 rg, .int .i64 rh] 23)
      have y1 := Blk.new w1 23 #[.int .i64 rg, .int .i64 rh]
      have k1 := blk2 y1
      go_wp2_with fail
      go_at_call 18
      refine (c2 _).mono ?_
      rintro e w2 ⟨rfl, hb2⟩
      have b2 := bt b1 hb2
      have x2 := x1.below hb2 x1.lt
      have k2 := blk2 x2
      clear k1 y1 b1' b1 x1 hb1 hb2 c2 c3
      go_wp2_with fail
      go_at_call 18
      refine (c1 _).mono ?_
      rintro e w3 ⟨rfl, hb3⟩
      have b3 := bt b2 hb3
      have x3 := x2.below hb3 x2.lt
      have k3' := blk2 x3
      go_wp2_with fail
      go_at_call 10
      refine (cf _).mono ?_
      rintro e w4 ⟨rfl, hb4⟩
      have b4 := bt b3 hb4
      have x4 := x3.below hb4 x3.lt
      go_wp2_with fail
      go_at_call 20
      refine (c4 _).mono ?_
      rintro e w5 ⟨rfl, hb5⟩
      have b5' := bt b4 hb5
      have b5 := b5'.alloc b5'.size (.cells #[.int .i64 g, .int .i64 h] 23)
      have x5 := (x4.below hb5 x4.lt).alloc (.cells #[.int .i64 g, .int .i64 h] 23)
      have k5 := blk2 x5
      have y5 := blk2 (Blk.new w5 23 #[.int .i64 g, .int .i64 h])
      go_wp2_with fail
      go_at_call 9
      refine (awake04 _).mono ?_
      rintro e w6 ⟨rfl, hb6⟩
      go_wp2_with fail
      go_ret
      exact ⟨rfl, bt b5 hb6⟩
  · have n1 : (readE s == 0) = false := by simpa using h0
    generalize readE s = re at *
    generalize readG s = rg at *
    generalize readH s = rh at *
    clear h0
    cases hk : geomOk g h with
    | false =>
      have e1 : writeW g h = [] := by simp [writeW, hk]
      have e2 : writeE g h = 25 := by simp [writeE, hk]
      rw [e1, e2] at c1
      rw [hk] at cf
      clear e1 e2 hk
      go_enter Tryd.func6, Tryd.ntmps6
      go_wp2_with fail
      go_at_call 20
      refine (c3 _).mono ?_
      rintro e w2 ⟨rfl, hb1⟩
      have b1' := bt hb hb1
      have b2 := b1'.alloc b1'.size (.cells #[.int .i64 rg, .int .i64 rh] 23)
      have x2 := (x0.below hb1 x0.lt).alloc (.cells #[.int .i64 rg, .int .i64 rh] 23)
      have k2 := blk2 x2
      clear b1' hb1 c3
      go_wp2_with fail
      go_at_call 18
      refine (c1 _).mono ?_
      rintro e w3 ⟨rfl, hb3⟩
      have b3 := bt b2 hb3
      have x3 := x2.below hb3 x2.lt
      have k3' := blk2 x3
      go_wp2_with fail
      go_at_call 10
      refine (cf _).mono ?_
      rintro e w4 ⟨rfl, hb4⟩
      have b4 := bt b3 hb4
      go_wp2_with fail
      go_at_call 9
      refine (awake04 _).mono ?_
      rintro e w5 ⟨rfl, hb5⟩
      go_wp2_with fail
      go_ret
      exact ⟨rfl, bt b4 hb5⟩
    | true =>
      obtain ⟨r1, r2, r3, r4⟩ := write_read hk
      have c4 := fun W => s_read (writeW g h) (by rw [r4]; decide) W
      have e2 : writeE g h = 0 := by simp [writeE, hk]
      rw [r1, r2, r3] at c4
      rw [e2] at c1
      rw [hk] at cf
      have l64 : ((writeW g h).length : Int) = 64 := by rw [r4]; rfl
      clear e2 hk r1 r2 r3
      generalize writeW g h = ww at *
      go_enter Tryd.func6, Tryd.ntmps6
      go_wp2_with fail
      go_at_call 20
      refine (c3 _).mono ?_
      rintro e w2 ⟨rfl, hb1⟩
      have b1' := bt hb hb1
      have b2 := b1'.alloc b1'.size (.cells #[.int .i64 rg, .int .i64 rh] 23)
      have x2 := (x0.below hb1 x0.lt).alloc (.cells #[.int .i64 rg, .int .i64 rh] 23)
      have k2 := blk2 x2
      clear b1' hb1 c3
      go_wp2_with fail
      go_at_call 18
      refine (c1 _).mono ?_
      rintro e w3 ⟨rfl, hb3⟩
      have b3 := bt b2 hb3
      have x3 := x2.below hb3 x2.lt
      have k3' := blk2 x3
      go_wp2_with fail
      go_at_call 10
      refine (cf _).mono ?_
      rintro e w4 ⟨rfl, hb4⟩
      have b4 := bt b3 hb4
      have x4 := x3.below hb4 x3.lt
      go_wp2_with fail
      go_at_call 20
      refine (c4 _).mono ?_
      rintro e w5 ⟨rfl, hb5⟩
      have b5' := bt b4 hb5
      have b5 := b5'.alloc b5'.size (.cells #[.int .i64 g, .int .i64 h] 23)
      have x5 := (x4.below hb5 x4.lt).alloc (.cells #[.int .i64 g, .int .i64 h] 23)
      have k5 := blk2 x5
      have y5 := blk2 (Blk.new w5 23 #[.int .i64 g, .int .i64 h])
      go_wp2_with fail
      go_at_call 9
      refine (awake04 _).mono ?_
      rintro e w6 ⟨rfl, hb6⟩
      go_wp2_with fail
      go_ret
      exact ⟨rfl, bt b5 hb6⟩
theorem walk (w : World) (g h : Int) (_ : (Lit.int .i64 g).wf = true) (_ : (Lit.int .i64 h).wf = true) (s0 : ByteArray) (hs : s0.size ≤ maxLen) :
    Calls Tryd.prog 6 #[gval g h, .string s0] w fun e w' => e = .returned (.bool true) ∧ Below w.heap.size w w' := by
  obtain ⟨s, rfl⟩ := bs_of s0
  exact walk_l w g h s (by rwa [bs_ln] at hs)
/-! ### The row: the listed variables lie in the witness's world as the condition says -/
theorem own : ownKnob Tryd.prog.godebug = none := by kernel_rfl
/-- Utf8's table of first bytes, cell by cell. -/
def firstCells : Array Value := match Go.Pinned.utf8First with | .agg l => (l.map fun | .lit (.int k m) => Value.int k m | _ => undef).toArray | _ => #[]
/-- The heap that the door's own run leaves, with the pinned table laid. -/
noncomputable def laidWorld (os : Os) : World :=
  let w0 := World.doorLaid Tryd.prog 4000 os
  { w0 with heap := w0.heap.modify 0 fun | .cells _ t fr => .cells firstCells t fr | o => o }
set_option maxRecDepth 100000 in
theorem door_met (os : Os) (args : Array Value) : laidMetH Tryd.prog Rows.superBackRow.laid ((laidWorld os).forCall (fun _ _ => 0) ⟨#[], args, []⟩).memory :=
  laidMetH_of_parts3 (fuel := 8) (laidMet_of_run' 8 (by kernel_rfl) (by kernel_rfl)) (by kernel_rfl) (by kernel_rfl)
set_option maxRecDepth 100000 in
theorem lifted (os : Os) (started : os.Started) (H : Type) (enc : TypeId × Value → H) :
    ReturnsInHanded {} Tryd.checked os 6 .any (fun w args => (Rows.superBackSpec.pre enc Tryd.prog Tryd.f6 [] false w args ∧ laidMetH Tryd.prog Rows.superBackRow.laid w) ∧ sizedMet enc Tryd.prog Tryd.f6 (OpenSpec.ofChange Rows.superBackSpec) false w args)
      (Rows.superBackSpec.post enc Tryd.prog Tryd.f6 false true false false) := by
  refine returnsInHanded_of_change_and (C := Tryd.checked) (X := fun w _ => laidMetH Tryd.prog Rows.superBackRow.laid w) (fun _ _ _ hh h => h.of_heap hh) own started (by kernel_rfl) Tryd.func6
    (ChangeSpec.witness_shaped (enc := enc) (C := Tryd.checked) (os := os) (X := fun w _ => laidMetH Tryd.prog Rows.superBackRow.laid w) false (laidWorld os) #[.agg #[.int .i64 0, .int .i64 0], .string ByteArray.empty] 8 rfl (World.shaped_of_RefB (by kernel_rfl) (by kernel_rfl)) (by kernel_rfl) (by kernel_rfl) (by kernel_rfl) (door_met os _)) ?_
  intro W base args ds gs before hval0 hW _ _ hL _
  have hval : ∀ (j : Nat) t v, Tryd.f6.params[j]? = some t → args[j]? = some v → Value.okWide Tryd.prog W .any base t v := hval0
  have hW' := hW
  obtain ⟨p, q, hA0, hV, rfl, hfz, hnd⟩ := hW
  have hA : DataW.TrodAll enc Tryd.prog W 0 (fun _ => true) true Tryd.f6.params.toList args.toList ds p := hA0
  have hAk := hA
  rw [Tryd.params6] at hA hval
  obtain ⟨v0, vs0, d0, ds0, p0, q0, hargs, rfl, rfl, h0, r0⟩ := trodAll_cons hA
  obtain ⟨v1, vs1, d1, ds1, p1, q1, rfl, rfl, rfl, h1, r1⟩ := trodAll_cons r0
  obtain ⟨rfl, rfl, rfl⟩ := trodAll_nil r1
  obtain rfl : args = #[v0, v1] := by cases args; simp_all
  obtain ⟨rfl, rfl⟩ := trodVars_none hV
  obtain ⟨u0, x0, y0, z0, m0, rfl, _, _, t0, s0⟩ := open_agg2 Tryd.underlying23 (by kernel_rfl) (by kernel_rfl) (hval 0 23 v0 rfl rfl) h0
  obtain ⟨g0, e0, _, w0⟩ := DataW.trod_int Tryd.underlying3 t0
  obtain ⟨k0, f0, _, v0⟩ := DataW.trod_int Tryd.underlying3 s0
  injection e0 with e0
  injection f0 with f0
  subst e0; subst f0
  obtain ⟨a1, rfl, rfl, rfl, w1⟩ := open_string Tryd.underlying9 (hval 1 9 v1 rfl rfl) h1
  clear hA0 hval0
  simp only [List.append_nil] at hW'
  refine (walk W g0 k0 w0 v0 a1 w1).mono fun e W' ⟨he, hb⟩ => ?_
  subst he
  exact ⟨_, rfl, post_of_below (pa := _) (pv := []) hW' (fun _ _ _ => (trodAll_cons_mk (shut_bool Tryd.underlying4 _) trodAll_mk0)) (fun sp hsp => trodAll_stays (by kernel_rfl) hb (by kernel_rfl) hAk (fun x hx => hW'.lt x (by simpa using hx)) (fun x hx => hsp x (by simpa using hx))) (fun _ _ => rfl) (by simp) hb (ok_one (by kernel_rfl) rfl (okWide_bool_mk Tryd.underlying4 _))⟩
theorem row_ : Rows.SuperBackSaid :=
  OpenClaim.holds_of_wide 6 Tryd.f6 rfl rfl rfl rfl rfl rfl rfl ⟨rfl, rfl, rfl, rfl, rfl⟩ rfl rfl rfl rfl rfl (by kernel_rfl) Tryd.func6 (by kernel_rfl)
    (of_decide_eq_true (by kernel_rfl)) (by unfold Func.isWrapper; first | (rw [if_pos (by decide +kernel)]; kernel_rfl) | (rw [if_neg (by decide +kernel)]; exact ⟨rfl, rfl⟩))
    (fun os started H enc _ => lifted os started H enc)
/-- The statement: the tied card. -/
theorem proved : Rows.SuperBackCardSaid :=
  Claim7.holds_tied_plain_at .later [] [.data, .pinned] true (true, "b795209f8e7f0a9d5cc7c2730c89a80d3d8e1f435cbe53d2da0227eaffed61d6") false
    row_ (fun _ h => by cases h) (by kernel_rfl) (fun _ h => by cases h) superBack_row_tie rfl ⟨rfl, rfl⟩ (by kernel_rfl) rfl
    (fun f fn hf hfn => by
      obtain rfl : f = 6 := Option.some.inj ((show Tryd.prog.funcNamed "cofferdam/cofferdamlaw04.SuperBack" = some 6 by kernel_rfl).symm.trans hf) |>.symm
      obtain rfl : fn = Tryd.f6 := (Option.some.inj (Tryd.func6.symm.trans hfn)).symm
      exact ⟨by kernel_rfl, fun j t ht => by
        rw [Tryd.params6] at ht
        have hm : t ∈ [23, 9] := by have := Array.mem_of_getElem? ht; simpa using this
        have hall : ([23, 9].all fun u => !Tryd.prog.wantsStandIn u) = true := by kernel_rfl
        exact (show Tryd.prog.wantsStandIn t = false by simpa using List.all_eq_true.1 hall t hm)⟩)
    (by kernel_rfl)
#print axioms proved
end Go.Proofs.YtkiokdphjfkocaaDoor.superBack
