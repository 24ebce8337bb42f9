/- RootGets: the root, the snapshots' and the dirty bitmaps' places are the document's: any fit device of few writes, any plan. The listed variables of unicode/utf8 start as the program's text lays them (a tied card). -/
import Derived.Test.YtjhnaeomaigimaaGreatDoorLaw10b
import Derived.Test.YtjhnaeomaigimaaGreatDoorOpens
import Derived.Test.YtjhnaeomaigimaaGreatDoorCards
import Derived.Test.YtjhnaeomaigimaaGreatDoorTie
import Derived.ProofKit
import Derived.LaidMore
import Derived.Stop.Joined
import Derived.SevenTiedAt
set_option linter.unusedVariables false
namespace Go.Proofs.YtjhnaeomaigimaaGreatDoor.rootGets
open Go.RowKit Go.Shelf Go.WideShapes Go.ChangeShapes Go.ChangeAt Go.Joins
open Go.ChangeMaps (open_string shut_string)
attribute [local go_sem] bs_mk bs_append bs_extract bs_size bs_toList bs_get

set_option maxRecDepth 100000 in
theorem walk_no (D : Dk) (L : Pn) (p q p' q' : Pl) (w : World) (h0 : IsDk0 w D p q) (hbl : D.bad.length ≤ 17592186044416) (hL : IsPn w L p' q') (hg : good D L = false) :
    Calls Tryz.prog 5 #[dval D p q, pval L p' q'] w fun e w' => e = .returned (.bool true) ∧ Below w.heap.size w w' := by
  have hG := fun (W : World) (hb : Below w.heap.size w W) => good10 D L p q p' q' W (h0.below hb) (hL.below hb) hbl
  rw [hg] at hG
  clear h0 hL hg
  obtain ⟨A1, a1⟩ := p
  obtain ⟨A2, a2⟩ := q
  obtain ⟨B1, b1⟩ := p'
  obtain ⟨B2, b2⟩ := q'
  have hB := Below.refl w.heap.size w
  have x := Blk.new w 25 #[.string (bs D.data), .slice A1 D.cache.length a1, .int .i64 D.fuse, .bool D.off, .slice A2 D.bad.length a2]
  have xk := blk5 x
  have hB_1 := hB.alloc hB.size (.cells #[.string (bs D.data), .slice A1 D.cache.length a1, .int .i64 D.fuse, .bool D.off, .slice A2 D.bad.length a2] 25)
  have z := Blk.new (w.alloc (.cells #[.string (bs D.data), .slice A1 D.cache.length a1, .int .i64 D.fuse, .bool D.off, .slice A2 D.bad.length a2] 25)) 28 #[.slice B1 L.targets.length b1, .slice B2 L.data.length b2]
  simp only [World.size_alloc] at z
  have zk := blk2 z
  have hB_2 := hB_1.alloc hB_1.size (.cells #[.slice B1 L.targets.length b1, .slice B2 L.data.length b2] 28)
  have x_3 := x.alloc (.cells #[.slice B1 L.targets.length b1, .slice B2 L.data.length b2] 28)
  have xk_3 := blk5 x_3
  go_enter Tryz.func5, Tryz.ntmps5
  go_wp2_with fail
  go_at_call 9
  refine ((hG _ hB_2)).mono ?_
  rintro e w1 ⟨rfl, hb1⟩
  replace hB := bt hB_2 hb1
  replace x := x_3.below hb1 x_3.lt
  replace xk := blk5 x
  replace z := z.below hb1 z.lt
  replace zk := blk2 z
  clear hB_1 hB_2 xk_3 x_3
  go_wp2_with fail
  go_at_call 10
  refine ((awake10 _)).mono ?_
  rintro e w2 ⟨rfl, hb2⟩
  replace hB := bt hB hb2
  replace x := x.below hb2 x.lt
  replace xk := blk5 x
  replace z := z.below hb2 z.lt
  replace zk := blk2 z
  go_wp2_with fail
  go_ret
  exact ⟨rfl, hB⟩

set_option maxRecDepth 100000 in
set_option maxHeartbeats 2000000 in
theorem walk_ok (D : Dk) (L : Pn) (p q p' q' : Pl) (w : World) (h0 : IsDk0 w D p q) (hbl : D.bad.length ≤ 17592186044416) (hL : IsPn w L p' q') (hg : good D L = true) :
    Calls Tryz.prog 5 #[dval D p q, pval L p' q'] w fun e w' => e = .returned (.bool true) ∧ Below w.heap.size w w' := by
  obtain ⟨g1, g2, g3, g4⟩ := good_iff.1 hg
  have hD := h0.full (by omega) hbl (by omega)
  have hG := fun (W : World) (hb : Below w.heap.size w W) => good10 D L p q p' q' W (h0.below hb) (hL.below hb) hbl
  rw [hg] at hG
  have hdl := (Dk.fit_parts g3).2.2.1
  have h1 := fun (W : World) (hb : Below w.heap.size w W) => rt_get D L p q p' q' W (hD.below hb) (hL.below hb) g3 g4
  have h2 := fun (W : World) (hb : Below w.heap.size w W) => r10_get D L p q p' q' W (hD.below hb) (hL.below hb) g3 g4
  have h3 := fun (W : World) (hb : Below w.heap.size w W) => rt_snaps D L p q p' q' W (hD.below hb) (hL.below hb) g3 g4
  have h4 := fun (W : World) (hb : Below w.heap.size w W) => r10_snaps D L p q p' q' W (hD.below hb) (hL.below hb) g3 g4
  have h5 := fun (W : World) (hb : Below w.heap.size w W) => rt_maps D L p q p' q' W (hD.below hb) (hL.below hb) g3 g4
  have h6 := fun (W : World) (hb : Below w.heap.size w W) => r10_maps D L p q p' q' W (hD.below hb) (hL.below hb) g3 g4
  have hls := snaps_small D L
  obtain ⟨hlm, hm64, hmnm⟩ := maps_small D L
  generalize Pn.rtGet D L = S1 at *
  generalize Pn.snaps D L = S2 at *
  generalize Pn.maps D L = S3 at *
  obtain ⟨⟨l0, n0⟩, x1⟩ := S1
  obtain ⟨LS, x2⟩ := S2
  obtain ⟨LM, x3⟩ := S3
  simp only at h1 h2 h3 h4 h5 h6 hls hlm hm64 hmnm
  have hsr := fun (W : World) (A B : Option Addr) (c d : Nat) (hA : Cells W A (snCells LS)) (hB : Cells W B (snCells LS)) => r10_snapRow LS A B c d W hA hB (by omega)
  have hmr := fun (W : World) (A B : Option Addr) (c d : Nat) (hA : Cells W A (dmRows LM)) (hB : Cells W B (dmRows LM)) => r10_mapRow LM hm64 hmnm A B c d W hA hB (by omega)
  clear h0 hL hg hD g1 g2 g3 g4 hdl hls hlm hm64 hmnm
  obtain ⟨A1, a1⟩ := p
  obtain ⟨A2, a2⟩ := q
  obtain ⟨B1, b1⟩ := p'
  obtain ⟨B2, b2⟩ := q'
  have hB := Below.refl w.heap.size w
  have x := Blk.new w 25 #[.string (bs D.data), .slice A1 D.cache.length a1, .int .i64 D.fuse, .bool D.off, .slice A2 D.bad.length a2]
  have xk := blk5 x
  have hB_1 := hB.alloc hB.size (.cells #[.string (bs D.data), .slice A1 D.cache.length a1, .int .i64 D.fuse, .bool D.off, .slice A2 D.bad.length a2] 25)
  have z := Blk.new (w.alloc (.cells #[.string (bs D.data), .slice A1 D.cache.length a1, .int .i64 D.fuse, .bool D.off, .slice A2 D.bad.length a2] 25)) 28 #[.slice B1 L.targets.length b1, .slice B2 L.data.length b2]
  simp only [World.size_alloc] at z
  have zk := blk2 z
  have hB_2 := hB_1.alloc hB_1.size (.cells #[.slice B1 L.targets.length b1, .slice B2 L.data.length b2] 28)
  have x_3 := x.alloc (.cells #[.slice B1 L.targets.length b1, .slice B2 L.data.length b2] 28)
  have xk_3 := blk5 x_3
  go_enter Tryz.func5, Tryz.ntmps5
  go_wp2_with fail
  go_at_call 9
  refine ((hG _ hB_2)).mono ?_
  rintro e w1 ⟨rfl, hb1⟩
  replace hB := bt hB_2 hb1
  replace x := x_3.below hb1 x_3.lt
  replace xk := blk5 x
  replace z := z.below hb1 z.lt
  replace zk := blk2 z
  clear hB_1 hB_2 xk_3 x_3
  go_wp2_with fail
  go_at_call 24
  refine ((h1 _ hB)).mono ?_
  rintro e w2 ⟨rfl, hb2⟩
  replace hB := bt hB hb2
  replace x := x.below hb2 x.lt
  replace xk := blk5 x
  replace z := z.below hb2 z.lt
  replace zk := blk2 z
  have r := Blk.new w2 31 #[.int .i64 l0, .int .u32 n0]
  have rk := blk2 r
  have hB_4 := hB.alloc hB.size (.cells #[.int .i64 l0, .int .u32 n0] 31)
  have x_5 := x.alloc (.cells #[.int .i64 l0, .int .u32 n0] 31)
  have xk_5 := blk5 x_5
  have z_6 := z.alloc (.cells #[.int .i64 l0, .int .u32 n0] 31)
  have zk_6 := blk2 z_6
  go_wp2_with fail
  go_at_call 19
  refine ((h2 _ hB_4)).mono ?_
  rintro e w3 ⟨rfl, hb3⟩
  replace hB := bt hB_4 hb3
  replace x := x_5.below hb3 x_5.lt
  replace xk := blk5 x
  replace z := z_6.below hb3 z_6.lt
  replace zk := blk2 z
  replace r := r.below hb3 r.lt
  replace rk := blk2 r
  clear hB_4 xk_5 x_5 zk_6 z_6
  have u := Blk.new w3 31 #[.int .i64 l0, .int .u32 n0]
  have uk := blk2 u
  have hB_7 := hB.alloc hB.size (.cells #[.int .i64 l0, .int .u32 n0] 31)
  have x_8 := x.alloc (.cells #[.int .i64 l0, .int .u32 n0] 31)
  have xk_8 := blk5 x_8
  have z_9 := z.alloc (.cells #[.int .i64 l0, .int .u32 n0] 31)
  have zk_9 := blk2 z_9
  have r_10 := r.alloc (.cells #[.int .i64 l0, .int .u32 n0] 31)
  have rk_10 := blk2 r_10
  go_wp2_with fail
  go_at_call 25
  refine ((h3 _ hB_7)).mono ?_
  rintro e w4 ⟨⟨v1, rfl, own1⟩, hb4⟩
  replace hB := bt hB_7 hb4
  replace x := x_8.below hb4 x_8.lt
  replace xk := blk5 x
  replace z := z_9.below hb4 z_9.lt
  replace zk := blk2 z
  replace r := r_10.below hb4 r_10.lt
  replace rk := blk2 r
  replace u := u.below hb4 u.lt
  replace uk := blk2 u
  clear hB_7 xk_8 x_8 zk_9 z_9 rk_10 r_10
  obtain ⟨C1, c1, rfl, _⟩ := own_slice own1
  have cc1 := Cells.of_own own1
  go_wp2_with fail
  go_at_call 21
  refine ((h4 _ hB)).mono ?_
  rintro e w5 ⟨⟨v2, rfl, own2⟩, hb5⟩
  replace hB := bt hB hb5
  replace x := x.below hb5 x.lt
  replace xk := blk5 x
  replace z := z.below hb5 z.lt
  replace zk := blk2 z
  replace r := r.below hb5 r.lt
  replace rk := blk2 r
  replace u := u.below hb5 u.lt
  replace uk := blk2 u
  replace cc1 := cc1.below hb5
  obtain ⟨C2, c2, rfl, _⟩ := own_slice own2
  have cc2 := Cells.of_own own2
  go_wp2_with fail
  go_at_call 26
  refine ((h5 _ hB)).mono ?_
  rintro e w6 ⟨⟨v3, rfl, own3⟩, hb6⟩
  replace hB := bt hB hb6
  replace x := x.below hb6 x.lt
  replace xk := blk5 x
  replace z := z.below hb6 z.lt
  replace zk := blk2 z
  replace r := r.below hb6 r.lt
  replace rk := blk2 r
  replace u := u.below hb6 u.lt
  replace uk := blk2 u
  replace cc1 := cc1.below hb6
  replace cc2 := cc2.below hb6
  obtain ⟨C3, c3, rfl, _⟩ := own_slice own3
  have cc3 := Cells.of_own own3
  go_wp2_with fail
  go_at_call 20
  refine ((h6 _ hB)).mono ?_
  rintro e w7 ⟨⟨v4, rfl, own4⟩, hb7⟩
  replace hB := bt hB hb7
  replace x := x.below hb7 x.lt
  replace xk := blk5 x
  replace z := z.below hb7 z.lt
  replace zk := blk2 z
  replace r := r.below hb7 r.lt
  replace rk := blk2 r
  replace u := u.below hb7 u.lt
  replace uk := blk2 u
  replace cc1 := cc1.below hb7
  replace cc2 := cc2.below hb7
  replace cc3 := cc3.below hb7
  obtain ⟨C4, c4, rfl, _⟩ := own_slice own4
  have cc4 := Cells.of_own own4
  clear own1 own2 own3 own4
  go_wp2_with fail
  go_at_call 23
  refine ((hsr _ C1 C2 c1 c2 cc1 cc2)).mono ?_
  rintro e w8 ⟨rfl, hb8⟩
  replace hB := bt hB hb8
  replace x := x.below hb8 x.lt
  replace xk := blk5 x
  replace z := z.below hb8 z.lt
  replace zk := blk2 z
  replace r := r.below hb8 r.lt
  replace rk := blk2 r
  replace u := u.below hb8 u.lt
  replace uk := blk2 u
  replace cc1 := cc1.below hb8
  replace cc2 := cc2.below hb8
  replace cc3 := cc3.below hb8
  replace cc4 := cc4.below hb8
  go_wp2_with fail
  go_at_call 22
  refine ((hmr _ C3 C4 c3 c4 cc3 cc4)).mono ?_
  rintro e w9 ⟨rfl, hb9⟩
  replace hB := bt hB hb9
  replace x := x.below hb9 x.lt
  replace xk := blk5 x
  replace z := z.below hb9 z.lt
  replace zk := blk2 z
  replace r := r.below hb9 r.lt
  replace rk := blk2 r
  replace u := u.below hb9 u.lt
  replace uk := blk2 u
  replace cc1 := cc1.below hb9
  replace cc2 := cc2.below hb9
  replace cc3 := cc3.below hb9
  replace cc4 := cc4.below hb9
  go_wp2_with fail
  go_at_call 10
  refine ((awake10 _)).mono ?_
  rintro e w10 ⟨rfl, hb10⟩
  replace hB := bt hB hb10
  replace x := x.below hb10 x.lt
  replace xk := blk5 x
  replace z := z.below hb10 z.lt
  replace zk := blk2 z
  replace r := r.below hb10 r.lt
  replace rk := blk2 r
  replace u := u.below hb10 u.lt
  replace uk := blk2 u
  replace cc1 := cc1.below hb10
  replace cc2 := cc2.below hb10
  replace cc3 := cc3.below hb10
  replace cc4 := cc4.below hb10
  go_wp2_with fail
  go_ret
  exact ⟨rfl, hB⟩
theorem walk (w : World) (D : Dk) (p q : Pl) (hD : IsDk0 w D p q ∧ D.cache.length * Tryz.prog.bytesOf 140 ≤ reachBytes ∧ D.bad.length * Tryz.prog.bytesOf 3 ≤ reachBytes) (L : Pn) (p' q' : Pl) (hL : IsPn w L p' q') :
    Calls Tryz.prog 5 #[dval D p q, pval L p' q'] w fun e w' => e = .returned (.bool true) ∧ Below w.heap.size w w' := by
  obtain ⟨hD, c1, b1⟩ := hD
  rw [show Tryz.prog.bytesOf 3 = 8 by kernel_rfl] at b1
  unfold reachBytes at b1
  cases hg : good D L with
  | false => exact walk_no D L p q p' q' w hD (by omega) hL hg
  | true => exact walk_ok D L p q p' q' w hD (by omega) hL hg
/-! ### The row: the listed variables lie in the witness's world as the condition says -/
theorem own : ownKnob Tryz.prog.godebug = none := by kernel_rfl
/-- Utf8's table of first bytes, cell by cell. -/
def firstCells : Array Value := match Go.Pinned.utf8First with | .agg l => (l.map fun | .lit (.int k m) => Value.int k m | _ => undef).toArray | _ => #[]
/-- The heap that the door's own run leaves, with the pinned table laid. -/
noncomputable def laidWorld (os : Os) : World :=
  let w0 := World.doorLaid Tryz.prog 4000 os
  { w0 with heap := w0.heap.modify 1 fun | .cells _ t fr => .cells firstCells t fr | o => o }
set_option maxRecDepth 100000 in
theorem door_met (os : Os) (args : Array Value) : laidMetH Tryz.prog Rows.rootGetsRow.laid ((laidWorld os).forCall (fun _ _ => 0) ⟨#[], args, []⟩).memory :=
  laidMetH_of_parts3 (fuel := 8) (laidMet_of_run' 8 (by kernel_rfl) (by kernel_rfl)) (by kernel_rfl) (by kernel_rfl)
set_option maxRecDepth 100000 in
theorem lifted (os : Os) (started : os.Started) (H : Type) (enc : TypeId × Value → H) :
    ReturnsInHanded {} Tryz.checked os 5 .any (fun w args => (Rows.rootGetsSpec.pre enc Tryz.prog Tryz.f5 [] false w args ∧ laidMetH Tryz.prog Rows.rootGetsRow.laid w) ∧ sizedMet enc Tryz.prog Tryz.f5 (OpenSpec.ofChange Rows.rootGetsSpec) false w args)
      (Rows.rootGetsSpec.post enc Tryz.prog Tryz.f5 false true false false) := by
  refine returnsInHanded_of_change_and (C := Tryz.checked) (X := fun w _ => laidMetH Tryz.prog Rows.rootGetsRow.laid w) (fun _ _ _ hh h => h.of_heap hh) own started (by kernel_rfl) Tryz.func5
    (ChangeSpec.witness_shaped (enc := enc) (C := Tryz.checked) (os := os) (X := fun w _ => laidMetH Tryz.prog Rows.rootGetsRow.laid w) false (laidWorld os) #[.agg #[.string ByteArray.empty, .slice none 0 0, .int .i64 0, .bool false, .slice none 0 0], .agg #[.slice none 0 0, .slice none 0 0]] 8 rfl (World.shaped_of_RefB (by kernel_rfl) (by kernel_rfl)) (by kernel_rfl) (by kernel_rfl) (by kernel_rfl) (door_met os _)) ?_
  intro W base args ds gs before hval0 hW _ hsz0 hL _
  have hval : ∀ (j : Nat) t v, Tryz.f5.params[j]? = some t → args[j]? = some v → Value.okWide Tryz.prog W .any base t v := hval0
  have hW' := hW
  obtain ⟨p, q, hA0, hV, rfl, hfz, hnd⟩ := hW
  have hA : DataW.TrodAll enc Tryz.prog W 0 (fun _ => true) true Tryz.f5.params.toList args.toList ds p := hA0
  have hAk := hA
  have hsz : (DataW.weightsEach Tryz.prog (Tryz.f5.params.toList ++ Rows.rootGetsSpec.plain.varTypes Tryz.prog) (ds ++ gs)).all (· ≤ reachBytes) = true := hsz0
  rw [Tryz.params5] at hA hval hsz
  obtain ⟨v0, vs0, d0, ds0, p0, q0, hargs, rfl, rfl, h0, r0⟩ := trodAll_cons hA
  obtain ⟨v1, vs1, d1, ds1, p1, q1, rfl, rfl, rfl, h1, r1⟩ := trodAll_cons r0
  obtain ⟨rfl, rfl, rfl⟩ := trodAll_nil r1
  obtain rfl : args = #[v0, v1] := by cases args; simp_all
  obtain ⟨rfl, rfl⟩ := trodVars_none hV
  obtain ⟨D0, P0, Q0, rfl, w0⟩ := open_dk_sized Tryz.underlying25 (by kernel_rfl) (by kernel_rfl) Tryz.underlying9 Tryz.underlying22 Tryz.underlying3 Tryz.underlying4 Tryz.underlying23 Tryz.underlying140 (by kernel_rfl) (by kernel_rfl) Tryz.underlying3 Tryz.underlying9 Tryz.underlying3 (by kernel_rfl) (hval 0 25 v0 rfl rfl) h0 (weights_each hsz (j := 0) rfl rfl)
  obtain ⟨D1, P1, Q1, rfl, w1⟩ := open_plan Tryz.underlying28 (by kernel_rfl) (by kernel_rfl) Tryz.underlying23 Tryz.underlying26 Tryz.underlying3 (by kernel_rfl) Tryz.underlying9 (by kernel_rfl) (hval 1 28 v1 rfl rfl) h1
  clear hA0 hval0
  simp only [List.append_nil] at hW'
  refine (walk W D0 P0 Q0 w0 D1 P1 Q1 w1).mono fun e W' ⟨he, hb⟩ => ?_
  subst he
  exact ⟨_, rfl, post_of_below (pa := _) (pv := []) hW' (fun _ _ _ => (trodAll_cons_mk (shut_bool Tryz.underlying4 _) trodAll_mk0)) (fun sp hsp => trodAll_stays (by kernel_rfl) hb (by kernel_rfl) hAk (fun x hx => hW'.lt x (by simpa using hx)) (fun x hx => hsp x (by simpa using hx))) (fun _ _ => rfl) (by simp) hb (ok_one (by kernel_rfl) rfl (okWide_bool_mk Tryz.underlying4 _))⟩
theorem row_ : Rows.RootGetsSaid :=
  OpenClaim.holds_of_wide 5 Tryz.f5 rfl rfl rfl rfl rfl rfl rfl ⟨rfl, rfl, rfl, rfl, rfl⟩ rfl rfl rfl rfl rfl (by kernel_rfl) Tryz.func5 (by kernel_rfl)
    (of_decide_eq_true (by kernel_rfl)) (by unfold Func.isWrapper; first | (rw [if_pos (by decide +kernel)]; kernel_rfl) | (rw [if_neg (by decide +kernel)]; exact ⟨rfl, rfl⟩))
    (fun os started H enc _ => lifted os started H enc)
/-- The statement: the tied card. -/
theorem proved : Rows.RootGetsCardSaid :=
  Claim7.holds_tied_plain_at .later [] [.data, .pinned] true (true, "6b9e7ce7de9a16d9785a7455bb3b5bc5435f0f7736f535da66369f5655d9ce2b") false
    row_ (fun _ h => by cases h) (by kernel_rfl) (fun _ h => by cases h) rootGets_row_tie rfl ⟨rfl, rfl⟩ (by kernel_rfl) rfl
    (fun f fn hf hfn => by
      obtain rfl : f = 5 := Option.some.inj ((show Tryz.prog.funcNamed "cofferdam/cofferdamlaw10.RootGets" = some 5 by kernel_rfl).symm.trans hf) |>.symm
      obtain rfl : fn = Tryz.f5 := (Option.some.inj (Tryz.func5.symm.trans hfn)).symm
      exact ⟨by kernel_rfl, fun j t ht => by
        rw [Tryz.params5] at ht
        have hm : t ∈ [25, 28] := by have := Array.mem_of_getElem? ht; simpa using this
        have hall : ([25, 28].all fun u => !Tryz.prog.wantsStandIn u) = true := by kernel_rfl
        exact (show Tryz.prog.wantsStandIn t = false by simpa using List.all_eq_true.1 hall t hm)⟩)
    (by kernel_rfl)
#print axioms proved
end Go.Proofs.YtjhnaeomaigimaaGreatDoor.rootGets
