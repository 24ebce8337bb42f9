/- TableGets: entries of tables, what a first table has of one of the guest's clusters, and of all, are the document's: any device, any plan, any numbers. No condition. -/
import Derived.Test.YtlajbmmhgflabaaLaw11a
import Derived.Test.YtlajbmmhgflabaaOpen
import Derived.Test.YtlajbmmhgflabaaShut
set_option linter.unusedVariables false
namespace Go.Proofs.Ytlajbmmhgflabaa.tableGets
open Go.RowKit Go.Shelf Go.WideShapes Go.ChangeShapes Go.ChangeAt
open Go.ChangeMaps (open_string shut_string)
attribute [local go_sem] bs_mk bs_append bs_extract bs_size bs_toList bs_get

set_option maxRecDepth 100000 in
theorem walk_no (D : Dk) (L : Pn) (p q p' q' : Pl) (t i : Int) (w : World) (h0 : IsDk0 w D p q) (hbl : D.bad.length ≤ 17592186044416) (hL : IsPn w L p' q') (hg : good D L = false) :
    Calls Try.prog 6 #[dval D p q, pval L p' q', .int .i64 t, .int .i64 i] w fun e w' => e = .returned (.bool true) ∧ Below w.heap.size w w' := by
  have hG := fun (W : World) (hb : Below w.heap.size w W) => good11 D L p q p' q' W (h0.below hb) (hL.below hb) hbl
  rw [hg] at hG
  clear h0 hL hg
  obtain ⟨A1, a1⟩ := p
  obtain ⟨A2, a2⟩ := q
  obtain ⟨B1, b1⟩ := p'
  obtain ⟨B2, b2⟩ := q'
  have hB := Below.refl w.heap.size w
  have x := Blk.new w 25 #[.string (bs D.data), .slice A1 D.cache.length a1, .int .i64 D.fuse, .bool D.off, .slice A2 D.bad.length a2]
  have xk := blk5 x
  have hB_1 := hB.alloc hB.size (.cells #[.string (bs D.data), .slice A1 D.cache.length a1, .int .i64 D.fuse, .bool D.off, .slice A2 D.bad.length a2] 25)
  have z := Blk.new (w.alloc (.cells #[.string (bs D.data), .slice A1 D.cache.length a1, .int .i64 D.fuse, .bool D.off, .slice A2 D.bad.length a2] 25)) 28 #[.slice B1 L.targets.length b1, .slice B2 L.data.length b2]
  simp only [World.size_alloc] at z
  have zk := blk2 z
  have hB_2 := hB_1.alloc hB_1.size (.cells #[.slice B1 L.targets.length b1, .slice B2 L.data.length b2] 28)
  have x_3 := x.alloc (.cells #[.slice B1 L.targets.length b1, .slice B2 L.data.length b2] 28)
  have xk_3 := blk5 x_3
  go_enter Try.func6, Try.ntmps6
  go_wp2_with fail
  go_at_call 23
  refine ((hG _ hB_2)).mono ?_
  rintro e w1 ⟨rfl, hb1⟩
  replace hB := bt hB_2 hb1
  replace x := x_3.below hb1 x_3.lt
  replace xk := blk5 x
  replace z := z.below hb1 z.lt
  replace zk := blk2 z
  clear hB_1 hB_2 xk_3 x_3
  go_wp2_with fail
  go_at_call 24
  refine ((awake11 _)).mono ?_
  rintro e w2 ⟨rfl, hb2⟩
  replace hB := bt hB hb2
  replace x := x.below hb2 x.lt
  replace xk := blk5 x
  replace z := z.below hb2 z.lt
  replace zk := blk2 z
  go_wp2_with fail
  go_ret
  exact ⟨rfl, hB⟩

set_option maxRecDepth 100000 in
set_option maxHeartbeats 1000000 in
theorem walk_ok (D : Dk) (L : Pn) (p q p' q' : Pl) (t i : Int) (w : World) (h0 : IsDk0 w D p q) (hbl : D.bad.length ≤ 17592186044416) (hL : IsPn w L p' q') (hg : good D L = true) :
    Calls Try.prog 6 #[dval D p q, pval L p' q', .int .i64 t, .int .i64 i] w fun e w' => e = .returned (.bool true) ∧ Below w.heap.size w w' := by
  obtain ⟨g1, g2, g3, g4⟩ := good_iff.1 hg
  have hD := h0.full (by omega) hbl (by omega)
  have hG := fun (W : World) (hb : Below w.heap.size w W) => good11 D L p q p' q' W (h0.below hb) (hL.below hb) hbl
  rw [hg] at hG
  have hdl := (Dk.fit_parts g3).2.2.1
  have h1 := fun (W : World) (hb : Below w.heap.size w W) => t_get D L p q p' q' W (hD.below hb) (hL.below hb) g3 g4 t i
  have h2 := fun (W : World) (hb : Below w.heap.size w W) => t11_get D L p q p' q' W (hD.below hb) (hL.below hb) g3 g4 t i
  have h3 := fun (W : World) (hb : Below w.heap.size w W) => t_find D L p q p' q' W (hD.below hb) (hL.below hb) g3 g4 t i
  have h4 := fun (W : World) (hb : Below w.heap.size w W) => t11_find D L p q p' q' W (hD.below hb) (hL.below hb) g3 g4 t i
  have h5 := fun (W : World) (hb : Below w.heap.size w W) => t_all D L p q p' q' W (hD.below hb) (hL.below hb) g3 g4 t
  have h6 := fun (W : World) (hb : Below w.heap.size w W) => t11_all D L p q p' q' W (hD.below hb) (hL.below hb) g3 g4 t
  have hln : (Pn.tabAll D L t).1.length ≤ 64 := allN_len _
  generalize Pn.tabAll D L t = U at h5 h6 hln
  generalize Pn.tabFind D L t i = X at h3 h4
  generalize Pn.tabGet D L t i = G at h1 h2
  obtain ⟨U, u⟩ := U
  obtain ⟨⟨X, Y⟩, x'⟩ := X
  obtain ⟨⟨G, H⟩, g⟩ := G
  simp only at h1 h2 h3 h4 h5 h6 hln
  have hi := fun (W : World) (A B : Option Addr) (c d : Nat) (hA : Cells W A (entCells U)) (hB : Cells W B (entCells U)) => t11_row U A B c d W hA hB (by omega)
  clear h0 hL hg hD g1 g2 g3 g4 hln hdl
  obtain ⟨A1, a1⟩ := p
  obtain ⟨A2, a2⟩ := q
  obtain ⟨B1, b1⟩ := p'
  obtain ⟨B2, b2⟩ := q'
  have hB := Below.refl w.heap.size w
  have x := Blk.new w 25 #[.string (bs D.data), .slice A1 D.cache.length a1, .int .i64 D.fuse, .bool D.off, .slice A2 D.bad.length a2]
  have xk := blk5 x
  have hB_1 := hB.alloc hB.size (.cells #[.string (bs D.data), .slice A1 D.cache.length a1, .int .i64 D.fuse, .bool D.off, .slice A2 D.bad.length a2] 25)
  have z := Blk.new (w.alloc (.cells #[.string (bs D.data), .slice A1 D.cache.length a1, .int .i64 D.fuse, .bool D.off, .slice A2 D.bad.length a2] 25)) 28 #[.slice B1 L.targets.length b1, .slice B2 L.data.length b2]
  simp only [World.size_alloc] at z
  have zk := blk2 z
  have hB_2 := hB_1.alloc hB_1.size (.cells #[.slice B1 L.targets.length b1, .slice B2 L.data.length b2] 28)
  have x_3 := x.alloc (.cells #[.slice B1 L.targets.length b1, .slice B2 L.data.length b2] 28)
  have xk_3 := blk5 x_3
  go_enter Try.func6, Try.ntmps6
  go_wp2_with fail
  go_at_call 23
  refine ((hG _ hB_2)).mono ?_
  rintro e w1 ⟨rfl, hb1⟩
  replace hB := bt hB_2 hb1
  replace x := x_3.below hb1 x_3.lt
  replace xk := blk5 x
  replace z := z.below hb1 z.lt
  replace zk := blk2 z
  clear hB_1 hB_2 xk_3 x_3
  go_wp2_with fail
  go_at_call 25
  refine ((h1 _ hB)).mono ?_
  rintro e w2 ⟨rfl, hb2⟩
  replace hB := bt hB hb2
  replace x := x.below hb2 x.lt
  replace xk := blk5 x
  replace z := z.below hb2 z.lt
  replace zk := blk2 z
  have ea := Blk.new w2 49 #[.int .i64 G, .int .i64 H]
  have eak := blk2 ea
  have hB_4 := hB.alloc hB.size (.cells #[.int .i64 G, .int .i64 H] 49)
  have x_5 := x.alloc (.cells #[.int .i64 G, .int .i64 H] 49)
  have xk_5 := blk5 x_5
  have z_6 := z.alloc (.cells #[.int .i64 G, .int .i64 H] 49)
  have zk_6 := blk2 z_6
  go_wp2_with fail
  go_at_call 26
  refine ((h2 _ hB_4)).mono ?_
  rintro e w3 ⟨rfl, hb3⟩
  replace hB := bt hB_4 hb3
  replace x := x_5.below hb3 x_5.lt
  replace xk := blk5 x
  replace z := z_6.below hb3 z_6.lt
  replace zk := blk2 z
  replace ea := ea.below hb3 ea.lt
  replace eak := blk2 ea
  clear hB_4 xk_5 x_5 zk_6 z_6
  have eb := Blk.new w3 49 #[.int .i64 G, .int .i64 H]
  have ebk := blk2 eb
  have hB_7 := hB.alloc hB.size (.cells #[.int .i64 G, .int .i64 H] 49)
  have x_8 := x.alloc (.cells #[.int .i64 G, .int .i64 H] 49)
  have xk_8 := blk5 x_8
  have z_9 := z.alloc (.cells #[.int .i64 G, .int .i64 H] 49)
  have zk_9 := blk2 z_9
  have ea_10 := ea.alloc (.cells #[.int .i64 G, .int .i64 H] 49)
  have eak_10 := blk2 ea_10
  go_wp2_with fail
  go_at_call 27
  refine ((h3 _ hB_7)).mono ?_
  rintro e w4 ⟨rfl, hb4⟩
  replace hB := bt hB_7 hb4
  replace x := x_8.below hb4 x_8.lt
  replace xk := blk5 x
  replace z := z_9.below hb4 z_9.lt
  replace zk := blk2 z
  replace ea := ea_10.below hb4 ea_10.lt
  replace eak := blk2 ea
  replace eb := eb.below hb4 eb.lt
  replace ebk := blk2 eb
  clear hB_7 xk_8 x_8 zk_9 z_9 eak_10 ea_10
  have ec := Blk.new w4 49 #[.int .i64 X, .int .i64 Y]
  have eck := blk2 ec
  have hB_11 := hB.alloc hB.size (.cells #[.int .i64 X, .int .i64 Y] 49)
  have x_12 := x.alloc (.cells #[.int .i64 X, .int .i64 Y] 49)
  have xk_12 := blk5 x_12
  have z_13 := z.alloc (.cells #[.int .i64 X, .int .i64 Y] 49)
  have zk_13 := blk2 z_13
  have ea_14 := ea.alloc (.cells #[.int .i64 X, .int .i64 Y] 49)
  have eak_14 := blk2 ea_14
  have eb_15 := eb.alloc (.cells #[.int .i64 X, .int .i64 Y] 49)
  have ebk_15 := blk2 eb_15
  go_wp2_with fail
  go_at_call 28
  refine ((h4 _ hB_11)).mono ?_
  rintro e w5 ⟨rfl, hb5⟩
  replace hB := bt hB_11 hb5
  replace x := x_12.below hb5 x_12.lt
  replace xk := blk5 x
  replace z := z_13.below hb5 z_13.lt
  replace zk := blk2 z
  replace ea := ea_14.below hb5 ea_14.lt
  replace eak := blk2 ea
  replace eb := eb_15.below hb5 eb_15.lt
  replace ebk := blk2 eb
  replace ec := ec.below hb5 ec.lt
  replace eck := blk2 ec
  clear hB_11 xk_12 x_12 zk_13 z_13 eak_14 ea_14 ebk_15 eb_15
  have ed := Blk.new w5 49 #[.int .i64 X, .int .i64 Y]
  have edk := blk2 ed
  have hB_16 := hB.alloc hB.size (.cells #[.int .i64 X, .int .i64 Y] 49)
  have x_17 := x.alloc (.cells #[.int .i64 X, .int .i64 Y] 49)
  have xk_17 := blk5 x_17
  have z_18 := z.alloc (.cells #[.int .i64 X, .int .i64 Y] 49)
  have zk_18 := blk2 z_18
  have ea_19 := ea.alloc (.cells #[.int .i64 X, .int .i64 Y] 49)
  have eak_19 := blk2 ea_19
  have eb_20 := eb.alloc (.cells #[.int .i64 X, .int .i64 Y] 49)
  have ebk_20 := blk2 eb_20
  have ec_21 := ec.alloc (.cells #[.int .i64 X, .int .i64 Y] 49)
  have eck_21 := blk2 ec_21
  go_wp2_with fail
  go_at_call 29
  refine ((h5 _ hB_16)).mono ?_
  rintro e w6 ⟨⟨v1, rfl, own1⟩, hb6⟩
  replace hB := bt hB_16 hb6
  replace x := x_17.below hb6 x_17.lt
  replace xk := blk5 x
  replace z := z_18.below hb6 z_18.lt
  replace zk := blk2 z
  replace ea := ea_19.below hb6 ea_19.lt
  replace eak := blk2 ea
  replace eb := eb_20.below hb6 eb_20.lt
  replace ebk := blk2 eb
  replace ec := ec_21.below hb6 ec_21.lt
  replace eck := blk2 ec
  replace ed := ed.below hb6 ed.lt
  replace edk := blk2 ed
  clear hB_16 xk_17 x_17 zk_18 z_18 eak_19 ea_19 ebk_20 eb_20 eck_21 ec_21
  obtain ⟨C1, c1, rfl, _⟩ := own_slice own1
  have cc1 := Cells.of_own own1
  go_wp2_with fail
  go_at_call 30
  refine ((h6 _ hB)).mono ?_
  rintro e w7 ⟨⟨v2, rfl, own2⟩, hb7⟩
  replace hB := bt hB hb7
  replace x := x.below hb7 x.lt
  replace xk := blk5 x
  replace z := z.below hb7 z.lt
  replace zk := blk2 z
  replace ea := ea.below hb7 ea.lt
  replace eak := blk2 ea
  replace eb := eb.below hb7 eb.lt
  replace ebk := blk2 eb
  replace ec := ec.below hb7 ec.lt
  replace eck := blk2 ec
  replace ed := ed.below hb7 ed.lt
  replace edk := blk2 ed
  replace cc1 := cc1.below hb7
  obtain ⟨C2, c2, rfl, _⟩ := own_slice own2
  have cc2 := Cells.of_own own2
  go_wp2_with fail
  go_at_call 31
  refine ((hi _ C1 C2 c1 c2 cc1 cc2)).mono ?_
  rintro e w9 ⟨rfl, hb9⟩
  replace hB := bt hB hb9
  replace x := x.below hb9 x.lt
  replace xk := blk5 x
  replace z := z.below hb9 z.lt
  replace zk := blk2 z
  replace ea := ea.below hb9 ea.lt
  replace eak := blk2 ea
  replace eb := eb.below hb9 eb.lt
  replace ebk := blk2 eb
  replace ec := ec.below hb9 ec.lt
  replace eck := blk2 ec
  replace ed := ed.below hb9 ed.lt
  replace edk := blk2 ed
  replace cc1 := cc1.below hb9
  replace cc2 := cc2.below hb9
  go_wp2_with fail
  go_at_call 24
  refine ((awake11 _)).mono ?_
  rintro e w10 ⟨rfl, hb10⟩
  replace hB := bt hB hb10
  replace x := x.below hb10 x.lt
  replace xk := blk5 x
  replace z := z.below hb10 z.lt
  replace zk := blk2 z
  replace ea := ea.below hb10 ea.lt
  replace eak := blk2 ea
  replace eb := eb.below hb10 eb.lt
  replace ebk := blk2 eb
  replace ec := ec.below hb10 ec.lt
  replace eck := blk2 ec
  replace ed := ed.below hb10 ed.lt
  replace edk := blk2 ed
  replace cc1 := cc1.below hb10
  replace cc2 := cc2.below hb10
  go_wp2_with fail
  go_ret
  exact ⟨rfl, hB⟩
theorem walk (w : World) (D : Dk) (p q : Pl) (hD : IsDk0 w D p q ∧ D.cache.length * Try.prog.bytesOf 118 ≤ reachBytes ∧ D.bad.length * Try.prog.bytesOf 3 ≤ reachBytes) (L : Pn) (p' q' : Pl) (hL : IsPn w L p' q') (t : Int) (wt : (Lit.int .i64 t).wf = true) (i : Int) (wi : (Lit.int .i64 i).wf = true) :
    Calls Try.prog 6 #[dval D p q, pval L p' q', .int .i64 t, .int .i64 i] w fun e w' => e = .returned (.bool true) ∧ Below w.heap.size w w' := by
  obtain ⟨hD, c1, b1⟩ := hD
  rw [show Try.prog.bytesOf 3 = 8 by kernel_rfl] at b1
  unfold reachBytes at b1
  cases hg : good D L with
  | false => exact walk_no D L p q p' q' t i w hD (by omega) hL hg
  | true => exact walk_ok D L p q p' q' t i w hD (by omega) hL hg
/-! ### The row -/
theorem own : ownKnob Try.prog.godebug = none := by kernel_rfl
set_option maxRecDepth 100000 in
theorem lifted (os : Os) (started : os.Started) (H : Type) (enc : TypeId × Value → H) :
    ReturnsInHanded {} Try.checked os 6 .any (Rows.tableGetsSpec.pre6 enc Try.prog Try.f6 Rows.tableGetsRow.domain false) (Rows.tableGetsSpec.post enc Try.prog Try.f6 false true false false) := by
  refine returnsInHanded_of_change_sized (C := Try.checked) own started (by kernel_rfl) Try.func6
    (ChangeSpec.witness6 (enc := enc) (C := Try.checked) false ⟨#[], #[.agg #[.string ByteArray.empty, .slice none 0 0, .int .i64 0, .bool false, .slice none 0 0], .agg #[.slice none 0 0, .slice none 0 0], .int .i64 0, .int .i64 0], []⟩ 8 (by kernel_rfl) (by kernel_rfl) (by kernel_rfl) (by kernel_rfl)) ?_
  intro W base args ds gs before hval0 hW hcnd hsz0 _
  have hval : ∀ (j : Nat) t v, Try.f6.params[j]? = some t → args[j]? = some v → Value.okWide Try.prog W .any base t v := hval0
  have hW' := hW
  obtain ⟨p, q, hA0, hV, rfl, hfz, hnd⟩ := hW
  have hA : DataW.TrodAll enc Try.prog W 0 (fun _ => true) true Try.f6.params.toList args.toList ds p := hA0
  have hAk := hA
  have hsz : (DataW.weightsEach Try.prog (Try.f6.params.toList ++ Rows.tableGetsSpec.plain.varTypes Try.prog) (ds ++ gs)).all (· ≤ reachBytes) = true := hsz0
  rw [Try.params6] at hA hval hsz
  obtain ⟨v0, vs0, d0, ds0, p0, q0, hargs, rfl, rfl, h0, r0⟩ := trodAll_cons hA
  obtain ⟨v1, vs1, d1, ds1, p1, q1, rfl, rfl, rfl, h1, r1⟩ := trodAll_cons r0
  obtain ⟨v2, vs2, d2, ds2, p2, q2, rfl, rfl, rfl, h2, r2⟩ := trodAll_cons r1
  obtain ⟨v3, vs3, d3, ds3, p3, q3, rfl, rfl, rfl, h3, r3⟩ := trodAll_cons r2
  obtain ⟨rfl, rfl, rfl⟩ := trodAll_nil r3
  obtain rfl : args = #[v0, v1, v2, v3] := by cases args; simp_all
  obtain ⟨rfl, rfl⟩ := trodVars_none hV
  obtain ⟨D0, P0, Q0, rfl, w0⟩ := open_dk_sized Try.underlying25 (by kernel_rfl) (by kernel_rfl) Try.underlying9 Try.underlying22 Try.underlying3 Try.underlying4 Try.underlying23 Try.underlying118 (by kernel_rfl) (by kernel_rfl) Try.underlying3 Try.underlying9 Try.underlying3 (by kernel_rfl) (hval 0 25 v0 rfl rfl) h0 (weights_each hsz (j := 0) rfl rfl)
  obtain ⟨D1, P1, Q1, rfl, w1⟩ := open_plan Try.underlying28 (by kernel_rfl) (by kernel_rfl) Try.underlying23 Try.underlying26 Try.underlying3 (by kernel_rfl) Try.underlying9 (by kernel_rfl) (hval 1 28 v1 rfl rfl) h1
  obtain ⟨a2, rfl, rfl, rfl, w2⟩ := open_int Try.underlying3 (hval 2 3 v2 rfl rfl) h2
  obtain ⟨a3, rfl, rfl, rfl, w3⟩ := open_int Try.underlying3 (hval 3 3 v3 rfl rfl) h3
  clear hA0 hval0
  simp only [List.append_nil] at hW'
  refine (walk W D0 P0 Q0 w0 D1 P1 Q1 w1 a2 w2 a3 w3).mono fun e W' ⟨he, hb⟩ => ?_
  subst he
  exact ⟨_, rfl, post_of_below (pa := _) (pv := []) hW' (fun _ _ _ => (trodAll_cons_mk (shut_bool Try.underlying4 _) trodAll_mk0)) (fun sp hsp => trodAll_stays (by kernel_rfl) hb (by kernel_rfl) hAk (fun x hx => hW'.lt x (by simpa using hx)) (fun x hx => hsp x (by simpa using hx))) (fun _ _ => rfl) (by simp) hb (ok_one (by kernel_rfl) rfl (okWide_bool_mk Try.underlying4 _))⟩
theorem over_ : Rows.tableGetsRow.holds Try.pinned (OpenSpec.ofChange Rows.tableGetsSpec) :=
  OpenClaim.holds_of_wide 6 Try.f6 rfl rfl rfl rfl rfl rfl rfl ⟨rfl, rfl, rfl, rfl, rfl⟩ rfl rfl rfl rfl rfl (by kernel_rfl) Try.func6 (by kernel_rfl)
    (of_decide_eq_true (by kernel_rfl)) (by unfold Func.isWrapper; first | (rw [if_pos (by decide +kernel)]; kernel_rfl) | (rw [if_neg (by decide +kernel)]; exact ⟨rfl, rfl⟩))
    (fun os started H enc _ => lifted os started H enc)
/-- The statement. -/
theorem proved : Rows.TableGetsSaid := over_
#print axioms proved
end Go.Proofs.Ytlajbmmhgflabaa.tableGets
