/- RefcDoes: how often a cluster is counted, plans in which it is counted oftener, and all counts, are the document's: any device, any plan, any numbers. No condition. -/
import Derived.Test.YtlajbmmhgflabaaLaw08b
import Derived.Test.YtlajbmmhgflabaaOpen
import Derived.Test.YtlajbmmhgflabaaShut
set_option linter.unusedVariables false
namespace Go.Proofs.Ytlajbmmhgflabaa.refcDoes
open Go.RowKit Go.Shelf Go.WideShapes Go.ChangeShapes Go.ChangeAt
open Go.ChangeMaps (open_string shut_string)
attribute [local go_sem] bs_mk bs_append bs_extract bs_size bs_toList bs_get

set_option maxRecDepth 100000 in
theorem walk_no (D : Dk) (L : Pn) (p q p' q' : Pl) (k b n : Int) (w : World) (h0 : IsDk0 w D p q) (hbl : D.bad.length ≤ 17592186044416) (hL : IsPn w L p' q') (hg : good D L = false) :
    Calls Try.prog 4 #[dval D p q, pval L p' q', .int .i64 k, .int .i64 b, .int .i64 n] w fun e w' => e = .returned (.bool true) ∧ Below w.heap.size w w' := by
  have hG := fun (W : World) (hb : Below w.heap.size w W) => good08 D L p q p' q' W (h0.below hb) (hL.below hb) hbl
  rw [hg] at hG
  clear h0 hL hg
  obtain ⟨A1, a1⟩ := p
  obtain ⟨A2, a2⟩ := q
  obtain ⟨B1, b1⟩ := p'
  obtain ⟨B2, b2⟩ := q'
  have hB := Below.refl w.heap.size w
  have x := Blk.new w 25 #[.string (bs D.data), .slice A1 D.cache.length a1, .int .i64 D.fuse, .bool D.off, .slice A2 D.bad.length a2]
  have xk := blk5 x
  have hB_1 := hB.alloc hB.size (.cells #[.string (bs D.data), .slice A1 D.cache.length a1, .int .i64 D.fuse, .bool D.off, .slice A2 D.bad.length a2] 25)
  have z := Blk.new (w.alloc (.cells #[.string (bs D.data), .slice A1 D.cache.length a1, .int .i64 D.fuse, .bool D.off, .slice A2 D.bad.length a2] 25)) 28 #[.slice B1 L.targets.length b1, .slice B2 L.data.length b2]
  simp only [World.size_alloc] at z
  have zk := blk2 z
  have hB_2 := hB_1.alloc hB_1.size (.cells #[.slice B1 L.targets.length b1, .slice B2 L.data.length b2] 28)
  have x_3 := x.alloc (.cells #[.slice B1 L.targets.length b1, .slice B2 L.data.length b2] 28)
  have xk_3 := blk5 x_3
  go_enter Try.func4, Try.ntmps4
  go_wp2_with fail
  go_at_call 13
  refine ((hG _ hB_2)).mono ?_
  rintro e w1 ⟨rfl, hb1⟩
  replace hB := bt hB_2 hb1
  replace x := x_3.below hb1 x_3.lt
  replace xk := blk5 x
  replace z := z.below hb1 z.lt
  replace zk := blk2 z
  clear hB_1 hB_2 xk_3 x_3
  go_wp2_with fail
  go_at_call 14
  refine ((awake08 _)).mono ?_
  rintro e w2 ⟨rfl, hb2⟩
  replace hB := bt hB hb2
  replace x := x.below hb2 x.lt
  replace xk := blk5 x
  replace z := z.below hb2 z.lt
  replace zk := blk2 z
  go_wp2_with fail
  go_ret
  exact ⟨rfl, hB⟩

set_option maxRecDepth 100000 in
set_option maxHeartbeats 1000000 in
theorem walk_ok (D : Dk) (L : Pn) (p q p' q' : Pl) (k b n : Int) (w : World) (h0 : IsDk0 w D p q) (hbl : D.bad.length ≤ 17592186044416) (hL : IsPn w L p' q') (hg : good D L = true) (hb : okInt b) :
    Calls Try.prog 4 #[dval D p q, pval L p' q', .int .i64 k, .int .i64 b, .int .i64 n] w fun e w' => e = .returned (.bool true) ∧ Below w.heap.size w w' := by
  obtain ⟨g1, g2, g3, g4⟩ := good_iff.1 hg
  have hD := h0.full (by omega) hbl (by omega)
  have hG := fun (W : World) (hb : Below w.heap.size w W) => good08 D L p q p' q' W (h0.below hb) (hL.below hb) hbl
  rw [hg] at hG
  have hdl := (Dk.fit_parts g3).2.2.1
  have h1 := fun (W : World) (hb : Below w.heap.size w W) => rc_get D L p q p' q' W (hD.below hb) (hL.below hb) g3 g4 k
  have h2 := fun (W : World) (hb : Below w.heap.size w W) => r8_get D L p q p' q' W (hD.below hb) (hL.below hb) g3 g4 k
  have h3 := fun (W : World) (hb' : Below w.heap.size w W) => rc_add D L p q p' q' W (hD.below hb') (hL.below hb') g3 g4 k b hb
  have h4 := fun (W : World) (hb' : Below w.heap.size w W) => r8_add D L p q p' q' W (hD.below hb') (hL.below hb') g3 g4 k b hb
  have h5 := fun (W : World) (hb : Below w.heap.size w W) => rc_all D L p q p' q' W (hD.below hb) (hL.below hb) g3 g4 n
  have h6 := fun (W : World) (hb : Below w.heap.size w W) => r8_all D L p q p' q' W (hD.below hb) (hL.below hb) g3 g4 n
  have hXf : (Pn.cntAdd D L k b).1.Fit := by
    by_cases h : (Pn.cntAdd D L k b).2 = 0
    · exact (Pn.cntAdd_ok g3 g4 (X := (Pn.cntAdd D L k b).1) (Prod.ext rfl h)).2.2.2.2.2.1
    · rw [Pn.cntAdd_not h]; exact g4
  have hln := Pn.cntAll_len (D := D) (L := L) n
  generalize Pn.cntAll D L n = U at h5 h6 hln
  generalize Pn.cntAdd D L k b = X at h3 h4 hXf
  generalize Pn.cntGet D L k = G at h1 h2
  obtain ⟨U, u⟩ := U
  obtain ⟨X, x⟩ := X
  obtain ⟨G, g⟩ := G
  have hsm := fun (W : World) (p1 q1 p2 q2 : Pl) (h : IsPn W X p1 q1) (h' : IsPn W X p2 q2) => r5_same X X p1 q1 p2 q2 W h h' (by have := hXf.2.1; simp only at this; omega) (by have := hXf.2.1; have := hXf.1; simp only at *; omega) (by have := hXf.2.1; simp only at this; omega) (by have := hXf.2.1; have := hXf.1; simp only at *; omega)
  rw [Pn.same_self] at hsm
  have hi := fun (W : World) (A B : Option Addr) (c d : Nat) (hA : Cells W A (intCells U)) (hB : Cells W B (intCells U)) => ints08 U A B c d W hA hB (by simp only at hln; omega)
  clear h0 hL hg hD g1 g2 g3 g4 hXf hln hdl
  obtain ⟨A1, a1⟩ := p
  obtain ⟨A2, a2⟩ := q
  obtain ⟨B1, b1⟩ := p'
  obtain ⟨B2, b2⟩ := q'
  have hB := Below.refl w.heap.size w
  have x := Blk.new w 25 #[.string (bs D.data), .slice A1 D.cache.length a1, .int .i64 D.fuse, .bool D.off, .slice A2 D.bad.length a2]
  have xk := blk5 x
  have hB_1 := hB.alloc hB.size (.cells #[.string (bs D.data), .slice A1 D.cache.length a1, .int .i64 D.fuse, .bool D.off, .slice A2 D.bad.length a2] 25)
  have z := Blk.new (w.alloc (.cells #[.string (bs D.data), .slice A1 D.cache.length a1, .int .i64 D.fuse, .bool D.off, .slice A2 D.bad.length a2] 25)) 28 #[.slice B1 L.targets.length b1, .slice B2 L.data.length b2]
  simp only [World.size_alloc] at z
  have zk := blk2 z
  have hB_2 := hB_1.alloc hB_1.size (.cells #[.slice B1 L.targets.length b1, .slice B2 L.data.length b2] 28)
  have x_3 := x.alloc (.cells #[.slice B1 L.targets.length b1, .slice B2 L.data.length b2] 28)
  have xk_3 := blk5 x_3
  go_enter Try.func4, Try.ntmps4
  go_wp2_with fail
  go_at_call 13
  refine ((hG _ hB_2)).mono ?_
  rintro e w1 ⟨rfl, hb1⟩
  replace hB := bt hB_2 hb1
  replace x := x_3.below hb1 x_3.lt
  replace xk := blk5 x
  replace z := z.below hb1 z.lt
  replace zk := blk2 z
  clear hB_1 hB_2 xk_3 x_3
  go_wp2_with fail
  go_at_call 17
  refine ((h1 _ hB)).mono ?_
  rintro e w2 ⟨rfl, hb2⟩
  replace hB := bt hB hb2
  replace x := x.below hb2 x.lt
  replace xk := blk5 x
  replace z := z.below hb2 z.lt
  replace zk := blk2 z
  go_wp2_with fail
  go_at_call 18
  refine ((h2 _ hB)).mono ?_
  rintro e w3 ⟨rfl, hb3⟩
  replace hB := bt hB hb3
  replace x := x.below hb3 x.lt
  replace xk := blk5 x
  replace z := z.below hb3 z.lt
  replace zk := blk2 z
  go_wp2_with fail
  go_at_call 15
  refine ((h3 _ hB)).mono ?_
  rintro e w4 ⟨⟨p1, q1, rfl, i1, o1⟩, hb4⟩
  replace hB := bt hB hb4
  replace x := x.below hb4 x.lt
  replace xk := blk5 x
  replace z := z.below hb4 z.lt
  replace zk := blk2 z
  have y := Blk.new w4 28 #[.slice p1.a X.targets.length p1.c, .slice q1.a X.data.length q1.c]
  have yk := blk2 y
  have hB_4 := hB.alloc hB.size (.cells #[.slice p1.a X.targets.length p1.c, .slice q1.a X.data.length q1.c] 28)
  have x_5 := x.alloc (.cells #[.slice p1.a X.targets.length p1.c, .slice q1.a X.data.length q1.c] 28)
  have xk_5 := blk5 x_5
  have z_6 := z.alloc (.cells #[.slice p1.a X.targets.length p1.c, .slice q1.a X.data.length q1.c] 28)
  have zk_6 := blk2 z_6
  have i1_7 := i1.below ((Below.refl _ _).alloc (Nat.le_refl _) (.cells #[.slice p1.a X.targets.length p1.c, .slice q1.a X.data.length q1.c] 28))
  go_wp2_with fail
  go_at_call 19
  refine ((h4 _ hB_4)).mono ?_
  rintro e w5 ⟨⟨p2, q2, rfl, i2, o2⟩, hb5⟩
  replace hB := bt hB_4 hb5
  replace x := x_5.below hb5 x_5.lt
  replace xk := blk5 x
  replace z := z_6.below hb5 z_6.lt
  replace zk := blk2 z
  replace i1 := i1_7.below hb5
  replace y := y.below hb5 y.lt
  replace yk := blk2 y
  clear hB_4 xk_5 x_5 zk_6 z_6 i1_7
  have s := Blk.new w5 28 #[.slice p2.a X.targets.length p2.c, .slice q2.a X.data.length q2.c]
  have sk := blk2 s
  have hB_8 := hB.alloc hB.size (.cells #[.slice p2.a X.targets.length p2.c, .slice q2.a X.data.length q2.c] 28)
  have x_9 := x.alloc (.cells #[.slice p2.a X.targets.length p2.c, .slice q2.a X.data.length q2.c] 28)
  have xk_9 := blk5 x_9
  have z_10 := z.alloc (.cells #[.slice p2.a X.targets.length p2.c, .slice q2.a X.data.length q2.c] 28)
  have zk_10 := blk2 z_10
  have i1_11 := i1.below ((Below.refl _ _).alloc (Nat.le_refl _) (.cells #[.slice p2.a X.targets.length p2.c, .slice q2.a X.data.length q2.c] 28))
  have y_12 := y.alloc (.cells #[.slice p2.a X.targets.length p2.c, .slice q2.a X.data.length q2.c] 28)
  have yk_12 := blk2 y_12
  have i2_13 := i2.below ((Below.refl _ _).alloc (Nat.le_refl _) (.cells #[.slice p2.a X.targets.length p2.c, .slice q2.a X.data.length q2.c] 28))
  go_wp2_with fail
  go_at_call 20
  refine ((h5 _ hB_8)).mono ?_
  rintro e w6 ⟨⟨v1, rfl, own1⟩, hb6⟩
  replace hB := bt hB_8 hb6
  replace x := x_9.below hb6 x_9.lt
  replace xk := blk5 x
  replace z := z_10.below hb6 z_10.lt
  replace zk := blk2 z
  replace i1 := i1_11.below hb6
  replace y := y_12.below hb6 y_12.lt
  replace yk := blk2 y
  replace i2 := i2_13.below hb6
  replace s := s.below hb6 s.lt
  replace sk := blk2 s
  clear hB_8 xk_9 x_9 zk_10 z_10 i1_11 yk_12 y_12 i2_13
  obtain ⟨C1, c1, rfl, _⟩ := own_slice own1
  have cc1 := Cells.of_own own1
  go_wp2_with fail
  go_at_call 21
  refine ((h6 _ hB)).mono ?_
  rintro e w7 ⟨⟨v2, rfl, own2⟩, hb7⟩
  replace hB := bt hB hb7
  replace x := x.below hb7 x.lt
  replace xk := blk5 x
  replace z := z.below hb7 z.lt
  replace zk := blk2 z
  replace i1 := i1.below hb7
  replace y := y.below hb7 y.lt
  replace yk := blk2 y
  replace i2 := i2.below hb7
  replace s := s.below hb7 s.lt
  replace sk := blk2 s
  replace cc1 := cc1.below hb7
  obtain ⟨C2, c2, rfl, _⟩ := own_slice own2
  have cc2 := Cells.of_own own2
  go_wp2_with fail
  go_at_call 16
  refine ((hsm _ p1 q1 p2 q2 i1 i2)).mono ?_
  rintro e w8 ⟨rfl, hb8⟩
  replace hB := bt hB hb8
  replace x := x.below hb8 x.lt
  replace xk := blk5 x
  replace z := z.below hb8 z.lt
  replace zk := blk2 z
  replace i1 := i1.below hb8
  replace y := y.below hb8 y.lt
  replace yk := blk2 y
  replace i2 := i2.below hb8
  replace s := s.below hb8 s.lt
  replace sk := blk2 s
  replace cc1 := cc1.below hb8
  replace cc2 := cc2.below hb8
  go_wp2_with fail
  go_at_call 22
  refine ((hi _ C1 C2 c1 c2 cc1 cc2)).mono ?_
  rintro e w9 ⟨rfl, hb9⟩
  replace hB := bt hB hb9
  replace x := x.below hb9 x.lt
  replace xk := blk5 x
  replace z := z.below hb9 z.lt
  replace zk := blk2 z
  replace i1 := i1.below hb9
  replace y := y.below hb9 y.lt
  replace yk := blk2 y
  replace i2 := i2.below hb9
  replace s := s.below hb9 s.lt
  replace sk := blk2 s
  replace cc1 := cc1.below hb9
  replace cc2 := cc2.below hb9
  go_wp2_with fail
  go_at_call 14
  refine ((awake08 _)).mono ?_
  rintro e w10 ⟨rfl, hb10⟩
  replace hB := bt hB hb10
  replace x := x.below hb10 x.lt
  replace xk := blk5 x
  replace z := z.below hb10 z.lt
  replace zk := blk2 z
  replace i1 := i1.below hb10
  replace y := y.below hb10 y.lt
  replace yk := blk2 y
  replace i2 := i2.below hb10
  replace s := s.below hb10 s.lt
  replace sk := blk2 s
  replace cc1 := cc1.below hb10
  replace cc2 := cc2.below hb10
  go_wp2_with fail
  go_ret
  exact ⟨rfl, hB⟩
theorem walk (w : World) (D : Dk) (p q : Pl) (hD : IsDk0 w D p q ∧ D.cache.length * Try.prog.bytesOf 118 ≤ reachBytes ∧ D.bad.length * Try.prog.bytesOf 3 ≤ reachBytes) (L : Pn) (p' q' : Pl) (hL : IsPn w L p' q') (k : Int) (wk : (Lit.int .i64 k).wf = true) (b : Int) (wb : (Lit.int .i64 b).wf = true) (n : Int) (wn : (Lit.int .i64 n).wf = true) :
    Calls Try.prog 4 #[dval D p q, pval L p' q', .int .i64 k, .int .i64 b, .int .i64 n] w fun e w' => e = .returned (.bool true) ∧ Below w.heap.size w w' := by
  obtain ⟨hD, c1, b1⟩ := hD
  rw [show Try.prog.bytesOf 3 = 8 by kernel_rfl] at b1
  unfold reachBytes at b1
  cases hg : good D L with
  | false => exact walk_no D L p q p' q' k b n w hD (by omega) hL hg
  | true => exact walk_ok D L p q p' q' k b n w hD (by omega) hL hg (okInt_of wb)
/-! ### The row -/
theorem own : ownKnob Try.prog.godebug = none := by kernel_rfl
set_option maxRecDepth 100000 in
theorem lifted (os : Os) (started : os.Started) (H : Type) (enc : TypeId × Value → H) :
    ReturnsInHanded {} Try.checked os 4 .any (Rows.refcDoesSpec.pre6 enc Try.prog Try.f4 Rows.refcDoesRow.domain false) (Rows.refcDoesSpec.post enc Try.prog Try.f4 false true false false) := by
  refine returnsInHanded_of_change_sized (C := Try.checked) own started (by kernel_rfl) Try.func4
    (ChangeSpec.witness6 (enc := enc) (C := Try.checked) false ⟨#[], #[.agg #[.string ByteArray.empty, .slice none 0 0, .int .i64 0, .bool false, .slice none 0 0], .agg #[.slice none 0 0, .slice none 0 0], .int .i64 0, .int .i64 0, .int .i64 0], []⟩ 8 (by kernel_rfl) (by kernel_rfl) (by kernel_rfl) (by kernel_rfl)) ?_
  intro W base args ds gs before hval0 hW hcnd hsz0 _
  have hval : ∀ (j : Nat) t v, Try.f4.params[j]? = some t → args[j]? = some v → Value.okWide Try.prog W .any base t v := hval0
  have hW' := hW
  obtain ⟨p, q, hA0, hV, rfl, hfz, hnd⟩ := hW
  have hA : DataW.TrodAll enc Try.prog W 0 (fun _ => true) true Try.f4.params.toList args.toList ds p := hA0
  have hAk := hA
  have hsz : (DataW.weightsEach Try.prog (Try.f4.params.toList ++ Rows.refcDoesSpec.plain.varTypes Try.prog) (ds ++ gs)).all (· ≤ reachBytes) = true := hsz0
  rw [Try.params4] at hA hval hsz
  obtain ⟨v0, vs0, d0, ds0, p0, q0, hargs, rfl, rfl, h0, r0⟩ := trodAll_cons hA
  obtain ⟨v1, vs1, d1, ds1, p1, q1, rfl, rfl, rfl, h1, r1⟩ := trodAll_cons r0
  obtain ⟨v2, vs2, d2, ds2, p2, q2, rfl, rfl, rfl, h2, r2⟩ := trodAll_cons r1
  obtain ⟨v3, vs3, d3, ds3, p3, q3, rfl, rfl, rfl, h3, r3⟩ := trodAll_cons r2
  obtain ⟨v4, vs4, d4, ds4, p4, q4, rfl, rfl, rfl, h4, r4⟩ := trodAll_cons r3
  obtain ⟨rfl, rfl, rfl⟩ := trodAll_nil r4
  obtain rfl : args = #[v0, v1, v2, v3, v4] := by cases args; simp_all
  obtain ⟨rfl, rfl⟩ := trodVars_none hV
  obtain ⟨D0, P0, Q0, rfl, w0⟩ := open_dk_sized Try.underlying25 (by kernel_rfl) (by kernel_rfl) Try.underlying9 Try.underlying22 Try.underlying3 Try.underlying4 Try.underlying23 Try.underlying118 (by kernel_rfl) (by kernel_rfl) Try.underlying3 Try.underlying9 Try.underlying3 (by kernel_rfl) (hval 0 25 v0 rfl rfl) h0 (weights_each hsz (j := 0) rfl rfl)
  obtain ⟨D1, P1, Q1, rfl, w1⟩ := open_plan Try.underlying28 (by kernel_rfl) (by kernel_rfl) Try.underlying23 Try.underlying26 Try.underlying3 (by kernel_rfl) Try.underlying9 (by kernel_rfl) (hval 1 28 v1 rfl rfl) h1
  obtain ⟨a2, rfl, rfl, rfl, w2⟩ := open_int Try.underlying3 (hval 2 3 v2 rfl rfl) h2
  obtain ⟨a3, rfl, rfl, rfl, w3⟩ := open_int Try.underlying3 (hval 3 3 v3 rfl rfl) h3
  obtain ⟨a4, rfl, rfl, rfl, w4⟩ := open_int Try.underlying3 (hval 4 3 v4 rfl rfl) h4
  clear hA0 hval0
  simp only [List.append_nil] at hW'
  refine (walk W D0 P0 Q0 w0 D1 P1 Q1 w1 a2 w2 a3 w3 a4 w4).mono fun e W' ⟨he, hb⟩ => ?_
  subst he
  exact ⟨_, rfl, post_of_below (pa := _) (pv := []) hW' (fun _ _ _ => (trodAll_cons_mk (shut_bool Try.underlying4 _) trodAll_mk0)) (fun sp hsp => trodAll_stays (by kernel_rfl) hb (by kernel_rfl) hAk (fun x hx => hW'.lt x (by simpa using hx)) (fun x hx => hsp x (by simpa using hx))) (fun _ _ => rfl) (by simp) hb (ok_one (by kernel_rfl) rfl (okWide_bool_mk Try.underlying4 _))⟩
theorem over_ : Rows.refcDoesRow.holds Try.pinned (OpenSpec.ofChange Rows.refcDoesSpec) :=
  OpenClaim.holds_of_wide 4 Try.f4 rfl rfl rfl rfl rfl rfl rfl ⟨rfl, rfl, rfl, rfl, rfl⟩ rfl rfl rfl rfl rfl (by kernel_rfl) Try.func4 (by kernel_rfl)
    (of_decide_eq_true (by kernel_rfl)) (by unfold Func.isWrapper; first | (rw [if_pos (by decide +kernel)]; kernel_rfl) | (rw [if_neg (by decide +kernel)]; exact ⟨rfl, rfl⟩))
    (fun os started H enc _ => lifted os started H enc)
/-- The statement. -/
theorem proved : Rows.RefcDoesSaid := over_
#print axioms proved
end Go.Proofs.Ytlajbmmhgflabaa.refcDoes
