/- PointReaches: what a first table reaches, and plans in which that is counted oftener, are the document's: any device, any plan, any table, any number. No condition. -/
import Derived.Test.YtplgmlcoeehnfaaGreatPtLaw12a
import Derived.Test.YtplgmlcoeehnfaaGreatPtPointsC
import Derived.Test.YtplgmlcoeehnfaaGreatPtPointsD
import Derived.Test.YtplgmlcoeehnfaaGreatPtGood3
import Derived.Test.YtplgmlcoeehnfaaGreatPtOpens
set_option linter.unusedVariables false
namespace Go.Proofs.YtplgmlcoeehnfaaGreat.pointReaches
open Go.RowKit Go.Shelf Go.WideShapes Go.ChangeShapes Go.ChangeAt
open Go.ChangeMaps (open_string shut_string)
attribute [local go_sem] bs_mk bs_append bs_extract bs_size bs_toList bs_get

set_option maxRecDepth 100000 in
theorem walk_no (D : Dk) (L : Pn) (p q p' q' : Pl) (t b : Int) (w : World) (h0 : IsDk0 w D p q) (hbl : D.bad.length ≤ 17592186044416) (hL : IsPn w L p' q') (hg : good D L = false) :
    Calls Tryz.prog 5 #[dval D p q, pval L p' q', .int .i64 t, .int .i64 b] w fun e w' => e = .returned (.bool true) ∧ Below w.heap.size w w' := by
  have hG := fun (W : World) (hb : Below w.heap.size w W) => good12 D L p q p' q' 1 8 W (h0.below hb) (hL.below hb) hbl
  rw [hg, Bool.false_and] at hG
  clear h0 hL hg
  obtain ⟨A1, a1⟩ := p
  obtain ⟨A2, a2⟩ := q
  obtain ⟨B1, b1⟩ := p'
  obtain ⟨B2, b2⟩ := q'
  have hB := Below.refl w.heap.size w
  have x := Blk.new w 25 #[.string (bs D.data), .slice A1 D.cache.length a1, .int .i64 D.fuse, .bool D.off, .slice A2 D.bad.length a2]
  have xk := blk5 x
  have hB_1 := hB.alloc hB.size (.cells #[.string (bs D.data), .slice A1 D.cache.length a1, .int .i64 D.fuse, .bool D.off, .slice A2 D.bad.length a2] 25)
  have z := Blk.new (w.alloc (.cells #[.string (bs D.data), .slice A1 D.cache.length a1, .int .i64 D.fuse, .bool D.off, .slice A2 D.bad.length a2] 25)) 28 #[.slice B1 L.targets.length b1, .slice B2 L.data.length b2]
  simp only [World.size_alloc] at z
  have zk := blk2 z
  have hB_2 := hB_1.alloc hB_1.size (.cells #[.slice B1 L.targets.length b1, .slice B2 L.data.length b2] 28)
  have x_3 := x.alloc (.cells #[.slice B1 L.targets.length b1, .slice B2 L.data.length b2] 28)
  have xk_3 := blk5 x_3
  go_enter Tryz.func5, Tryz.ntmps5
  go_wp2_with fail
  go_at_call 13
  refine ((hG _ hB_2)).mono ?_
  rintro e w1 ⟨rfl, hb1⟩
  replace hB := bt hB_2 hb1
  replace x := x_3.below hb1 x_3.lt
  replace xk := blk5 x
  replace z := z.below hb1 z.lt
  replace zk := blk2 z
  clear hB_1 hB_2 xk_3 x_3
  go_wp2_with fail
  go_at_call 14
  refine ((awake12 _)).mono ?_
  rintro e w2 ⟨rfl, hb2⟩
  replace hB := bt hB hb2
  replace x := x.below hb2 x.lt
  replace xk := blk5 x
  replace z := z.below hb2 z.lt
  replace zk := blk2 z
  go_wp2_with fail
  go_ret
  exact ⟨rfl, hB⟩

set_option maxRecDepth 100000 in
set_option maxHeartbeats 2000000 in
theorem walk_ok (D : Dk) (L : Pn) (p q p' q' : Pl) (t b : Int) (w : World) (h0 : IsDk0 w D p q) (hbl : D.bad.length ≤ 17592186044416) (hL : IsPn w L p' q') (hg : good D L = true) (hb : okInt b) :
    Calls Tryz.prog 5 #[dval D p q, pval L p' q', .int .i64 t, .int .i64 b] w fun e w' => e = .returned (.bool true) ∧ Below w.heap.size w w' := by
  obtain ⟨g1, g2, g3, g4⟩ := good_iff.1 hg
  have hD := h0.full (by omega) hbl (by omega)
  have hG := fun (W : World) (hb : Below w.heap.size w W) => good12 D L p q p' q' 1 8 W (h0.below hb) (hL.below hb) hbl
  rw [hg, show geomOk 1 8 = true from rfl, Bool.and_true] at hG
  have hdl := (Dk.fit_parts g3).2.2.1
  have h1 := fun (W : World) (hb : Below w.heap.size w W) => p_reach D L p q p' q' W (hD.below hb) (hL.below hb) g3 g4 t
  have h2 := fun (W : World) (hb : Below w.heap.size w W) => r12_reach D L p q p' q' W (hD.below hb) (hL.below hb) g3 g4 t
  have h3 := fun (W : World) (hb' : Below w.heap.size w W) => p_share D L p q p' q' W (hD.below hb') (hL.below hb') g3 g4 t b hb
  have h4 := fun (W : World) (hb' : Below w.heap.size w W) => r12_share D L p q p' q' W (hD.below hb') (hL.below hb') g3 g4 t b hb
  have hX2 := Pn.ptShare_fit (D := D) (L := L) g3 g4 t b
  have hrl := (Pn.ptReach_small (D := D) (L := L) t).2
  generalize Pn.ptReach D L t = S1 at h1 h2 hrl
  generalize Pn.ptShare D L t b = S2 at h3 h4 hX2
  obtain ⟨R, e1⟩ := S1
  obtain ⟨X2, e2⟩ := S2
  simp only at h1 h2 hX2 hrl
  have hs2 := fun (W : World) (p1 q1 p2 q2 : Pl) (h : IsPn W X2 p1 q1) (h' : IsPn W X2 p2 q2) => r5_same X2 X2 p1 q1 p2 q2 W h h' (by have := hX2.2.1; omega) (by have := hX2.2.1; have := hX2.1; omega) (by have := hX2.2.1; omega) (by have := hX2.2.1; have := hX2.1; omega)
  rw [Pn.same_self] at hs2
  have hi := fun (W : World) (A B : Option Addr) (c d : Nat) (hA : Cells W A (intCells R)) (hB : Cells W B (intCells R)) => ints12 R A B c d W hA hB (by omega)
  clear h0 hL hg hD g1 g2 g3 g4 hdl hX2 hb
  obtain ⟨A1, a1⟩ := p
  obtain ⟨A2, a2⟩ := q
  obtain ⟨B1, b1⟩ := p'
  obtain ⟨B2, b2⟩ := q'
  have hB := Below.refl w.heap.size w
  have x := Blk.new w 25 #[.string (bs D.data), .slice A1 D.cache.length a1, .int .i64 D.fuse, .bool D.off, .slice A2 D.bad.length a2]
  have xk := blk5 x
  have hB_1 := hB.alloc hB.size (.cells #[.string (bs D.data), .slice A1 D.cache.length a1, .int .i64 D.fuse, .bool D.off, .slice A2 D.bad.length a2] 25)
  have z := Blk.new (w.alloc (.cells #[.string (bs D.data), .slice A1 D.cache.length a1, .int .i64 D.fuse, .bool D.off, .slice A2 D.bad.length a2] 25)) 28 #[.slice B1 L.targets.length b1, .slice B2 L.data.length b2]
  simp only [World.size_alloc] at z
  have zk := blk2 z
  have hB_2 := hB_1.alloc hB_1.size (.cells #[.slice B1 L.targets.length b1, .slice B2 L.data.length b2] 28)
  have x_3 := x.alloc (.cells #[.slice B1 L.targets.length b1, .slice B2 L.data.length b2] 28)
  have xk_3 := blk5 x_3
  go_enter Tryz.func5, Tryz.ntmps5
  go_wp2_with fail
  go_at_call 13
  refine ((hG _ hB_2)).mono ?_
  rintro e w1 ⟨rfl, hb1⟩
  replace hB := bt hB_2 hb1
  replace x := x_3.below hb1 x_3.lt
  replace xk := blk5 x
  replace z := z.below hb1 z.lt
  replace zk := blk2 z
  clear hB_1 hB_2 xk_3 x_3
  go_wp2_with fail
  go_at_call 25
  refine ((h1 _ hB)).mono ?_
  rintro e w2 ⟨⟨v1, rfl, own1⟩, hb2⟩
  replace hB := bt hB hb2
  replace x := x.below hb2 x.lt
  replace xk := blk5 x
  replace z := z.below hb2 z.lt
  replace zk := blk2 z
  obtain ⟨C1, c1, rfl, _⟩ := own_slice own1
  have cc1 := Cells.of_own own1
  go_wp2_with fail
  go_at_call 26
  refine ((h2 _ hB)).mono ?_
  rintro e w3 ⟨⟨v2, rfl, own2⟩, hb3⟩
  replace hB := bt hB hb3
  replace x := x.below hb3 x.lt
  replace xk := blk5 x
  replace z := z.below hb3 z.lt
  replace zk := blk2 z
  replace cc1 := cc1.below hb3
  obtain ⟨C2, c2, rfl, _⟩ := own_slice own2
  have cc2 := Cells.of_own own2
  go_wp2_with fail
  go_at_call 27
  refine ((h3 _ hB)).mono ?_
  rintro e w4 ⟨⟨pc, qc, rfl, ic, oc⟩, hb4⟩
  replace hB := bt hB hb4
  replace x := x.below hb4 x.lt
  replace xk := blk5 x
  replace z := z.below hb4 z.lt
  replace zk := blk2 z
  replace cc1 := cc1.below hb4
  replace cc2 := cc2.below hb4
  have bic := Blk.new w4 28 #[.slice pc.a X2.targets.length pc.c, .slice qc.a X2.data.length qc.c]
  have bick := blk2 bic
  have hB_4 := hB.alloc hB.size (.cells #[.slice pc.a X2.targets.length pc.c, .slice qc.a X2.data.length qc.c] 28)
  have x_5 := x.alloc (.cells #[.slice pc.a X2.targets.length pc.c, .slice qc.a X2.data.length qc.c] 28)
  have xk_5 := blk5 x_5
  have z_6 := z.alloc (.cells #[.slice pc.a X2.targets.length pc.c, .slice qc.a X2.data.length qc.c] 28)
  have zk_6 := blk2 z_6
  have cc1_7 := cc1.below ((Below.refl _ _).alloc (Nat.le_refl _) (.cells #[.slice pc.a X2.targets.length pc.c, .slice qc.a X2.data.length qc.c] 28))
  have cc2_8 := cc2.below ((Below.refl _ _).alloc (Nat.le_refl _) (.cells #[.slice pc.a X2.targets.length pc.c, .slice qc.a X2.data.length qc.c] 28))
  have ic_9 := ic.below ((Below.refl _ _).alloc (Nat.le_refl _) (.cells #[.slice pc.a X2.targets.length pc.c, .slice qc.a X2.data.length qc.c] 28))
  go_wp2_with fail
  go_at_call 28
  refine ((h4 _ hB_4)).mono ?_
  rintro e w5 ⟨⟨pd, qd, rfl, ir, od⟩, hb5⟩
  replace hB := bt hB_4 hb5
  replace x := x_5.below hb5 x_5.lt
  replace xk := blk5 x
  replace z := z_6.below hb5 z_6.lt
  replace zk := blk2 z
  replace cc1 := cc1_7.below hb5
  replace cc2 := cc2_8.below hb5
  replace ic := ic_9.below hb5
  replace bic := bic.below hb5 bic.lt
  replace bick := blk2 bic
  clear hB_4 xk_5 x_5 zk_6 z_6 cc1_7 cc2_8 ic_9
  have bir := Blk.new w5 28 #[.slice pd.a X2.targets.length pd.c, .slice qd.a X2.data.length qd.c]
  have birk := blk2 bir
  have hB_10 := hB.alloc hB.size (.cells #[.slice pd.a X2.targets.length pd.c, .slice qd.a X2.data.length qd.c] 28)
  have x_11 := x.alloc (.cells #[.slice pd.a X2.targets.length pd.c, .slice qd.a X2.data.length qd.c] 28)
  have xk_11 := blk5 x_11
  have z_12 := z.alloc (.cells #[.slice pd.a X2.targets.length pd.c, .slice qd.a X2.data.length qd.c] 28)
  have zk_12 := blk2 z_12
  have cc1_13 := cc1.below ((Below.refl _ _).alloc (Nat.le_refl _) (.cells #[.slice pd.a X2.targets.length pd.c, .slice qd.a X2.data.length qd.c] 28))
  have cc2_14 := cc2.below ((Below.refl _ _).alloc (Nat.le_refl _) (.cells #[.slice pd.a X2.targets.length pd.c, .slice qd.a X2.data.length qd.c] 28))
  have ic_15 := ic.below ((Below.refl _ _).alloc (Nat.le_refl _) (.cells #[.slice pd.a X2.targets.length pd.c, .slice qd.a X2.data.length qd.c] 28))
  have bic_16 := bic.alloc (.cells #[.slice pd.a X2.targets.length pd.c, .slice qd.a X2.data.length qd.c] 28)
  have bick_16 := blk2 bic_16
  have ir_17 := ir.below ((Below.refl _ _).alloc (Nat.le_refl _) (.cells #[.slice pd.a X2.targets.length pd.c, .slice qd.a X2.data.length qd.c] 28))
  go_wp2_with fail
  go_at_call 29
  refine ((hi _ C1 C2 c1 c2 cc1_13 cc2_14)).mono ?_
  rintro e w8 ⟨rfl, hb8⟩
  replace hB := bt hB_10 hb8
  replace x := x_11.below hb8 x_11.lt
  replace xk := blk5 x
  replace z := z_12.below hb8 z_12.lt
  replace zk := blk2 z
  replace cc1 := cc1_13.below hb8
  replace cc2 := cc2_14.below hb8
  replace ic := ic_15.below hb8
  replace bic := bic_16.below hb8 bic_16.lt
  replace bick := blk2 bic
  replace ir := ir_17.below hb8
  replace bir := bir.below hb8 bir.lt
  replace birk := blk2 bir
  clear hB_10 xk_11 x_11 zk_12 z_12 cc1_13 cc2_14 ic_15 bick_16 bic_16 ir_17
  go_wp2_with fail
  go_at_call 19
  refine ((hs2 _ pc qc pd qd ic ir)).mono ?_
  rintro e w9 ⟨rfl, hb9⟩
  replace hB := bt hB hb9
  replace x := x.below hb9 x.lt
  replace xk := blk5 x
  replace z := z.below hb9 z.lt
  replace zk := blk2 z
  replace cc1 := cc1.below hb9
  replace cc2 := cc2.below hb9
  replace ic := ic.below hb9
  replace bic := bic.below hb9 bic.lt
  replace bick := blk2 bic
  replace ir := ir.below hb9
  replace bir := bir.below hb9 bir.lt
  replace birk := blk2 bir
  go_wp2_with fail
  go_at_call 14
  refine ((awake12 _)).mono ?_
  rintro e w11 ⟨rfl, hb11⟩
  replace hB := bt hB hb11
  replace x := x.below hb11 x.lt
  replace xk := blk5 x
  replace z := z.below hb11 z.lt
  replace zk := blk2 z
  replace cc1 := cc1.below hb11
  replace cc2 := cc2.below hb11
  replace ic := ic.below hb11
  replace bic := bic.below hb11 bic.lt
  replace bick := blk2 bic
  replace ir := ir.below hb11
  replace bir := bir.below hb11 bir.lt
  replace birk := blk2 bir
  go_wp2_with fail
  go_ret
  exact ⟨rfl, hB⟩
theorem walk (w : World) (D : Dk) (p q : Pl) (hD : IsDk0 w D p q ∧ D.cache.length * Tryz.prog.bytesOf 163 ≤ reachBytes ∧ D.bad.length * Tryz.prog.bytesOf 3 ≤ reachBytes) (L : Pn) (p' q' : Pl) (hL : IsPn w L p' q') (t : Int) (wt : (Lit.int .i64 t).wf = true) (b : Int) (wb : (Lit.int .i64 b).wf = true) :
    Calls Tryz.prog 5 #[dval D p q, pval L p' q', .int .i64 t, .int .i64 b] w fun e w' => e = .returned (.bool true) ∧ Below w.heap.size w w' := by
  obtain ⟨hD, c1, b1⟩ := hD
  rw [show Tryz.prog.bytesOf 3 = 8 by kernel_rfl] at b1
  unfold reachBytes at b1
  cases hg : good D L with
  | false => exact walk_no D L p q p' q' t b w hD (by omega) hL hg
  | true => exact walk_ok D L p q p' q' t b w hD (by omega) hL hg (okInt_of wb)
/-! ### The row -/
theorem own : ownKnob Tryz.prog.godebug = none := by kernel_rfl
set_option maxRecDepth 100000 in
theorem lifted (os : Os) (started : os.Started) (H : Type) (enc : TypeId × Value → H) :
    ReturnsInHanded {} Tryz.checked os 5 .any (Rows.pointReachesSpec.pre6 enc Tryz.prog Tryz.f5 Rows.pointReachesRow.domain false) (Rows.pointReachesSpec.post enc Tryz.prog Tryz.f5 false true false false) := by
  refine returnsInHanded_of_change_sized (C := Tryz.checked) own started (by kernel_rfl) Tryz.func5
    (ChangeSpec.witness6 (enc := enc) (C := Tryz.checked) false ⟨#[], #[.agg #[.string ByteArray.empty, .slice none 0 0, .int .i64 0, .bool false, .slice none 0 0], .agg #[.slice none 0 0, .slice none 0 0], .int .i64 0, .int .i64 0], []⟩ 8 (by kernel_rfl) (by kernel_rfl) (by kernel_rfl) (by kernel_rfl)) ?_
  intro W base args ds gs before hval0 hW hcnd hsz0 _
  have hval : ∀ (j : Nat) t v, Tryz.f5.params[j]? = some t → args[j]? = some v → Value.okWide Tryz.prog W .any base t v := hval0
  have hW' := hW
  obtain ⟨p, q, hA0, hV, rfl, hfz, hnd⟩ := hW
  have hA : DataW.TrodAll enc Tryz.prog W 0 (fun _ => true) true Tryz.f5.params.toList args.toList ds p := hA0
  have hAk := hA
  have hsz : (DataW.weightsEach Tryz.prog (Tryz.f5.params.toList ++ Rows.pointReachesSpec.plain.varTypes Tryz.prog) (ds ++ gs)).all (· ≤ reachBytes) = true := hsz0
  rw [Tryz.params5] at hA hval hsz
  obtain ⟨v0, vs0, d0, ds0, p0, q0, hargs, rfl, rfl, h0, r0⟩ := trodAll_cons hA
  obtain ⟨v1, vs1, d1, ds1, p1, q1, rfl, rfl, rfl, h1, r1⟩ := trodAll_cons r0
  obtain ⟨v2, vs2, d2, ds2, p2, q2, rfl, rfl, rfl, h2, r2⟩ := trodAll_cons r1
  obtain ⟨v3, vs3, d3, ds3, p3, q3, rfl, rfl, rfl, h3, r3⟩ := trodAll_cons r2
  obtain ⟨rfl, rfl, rfl⟩ := trodAll_nil r3
  obtain rfl : args = #[v0, v1, v2, v3] := by cases args; simp_all
  obtain ⟨rfl, rfl⟩ := trodVars_none hV
  obtain ⟨D0, P0, Q0, rfl, w0⟩ := open_dk_sized Tryz.underlying25 (by kernel_rfl) (by kernel_rfl) Tryz.underlying9 Tryz.underlying22 Tryz.underlying3 Tryz.underlying4 Tryz.underlying23 Tryz.underlying163 (by kernel_rfl) (by kernel_rfl) Tryz.underlying3 Tryz.underlying9 Tryz.underlying3 (by kernel_rfl) (hval 0 25 v0 rfl rfl) h0 (weights_each hsz (j := 0) rfl rfl)
  obtain ⟨D1, P1, Q1, rfl, w1⟩ := open_plan Tryz.underlying28 (by kernel_rfl) (by kernel_rfl) Tryz.underlying23 Tryz.underlying26 Tryz.underlying3 (by kernel_rfl) Tryz.underlying9 (by kernel_rfl) (hval 1 28 v1 rfl rfl) h1
  obtain ⟨a2, rfl, rfl, rfl, w2⟩ := open_int Tryz.underlying3 (hval 2 3 v2 rfl rfl) h2
  obtain ⟨a3, rfl, rfl, rfl, w3⟩ := open_int Tryz.underlying3 (hval 3 3 v3 rfl rfl) h3
  clear hA0 hval0
  simp only [List.append_nil] at hW'
  refine (walk W D0 P0 Q0 w0 D1 P1 Q1 w1 a2 w2 a3 w3).mono fun e W' ⟨he, hb⟩ => ?_
  subst he
  exact ⟨_, rfl, post_of_below (pa := _) (pv := []) hW' (fun _ _ _ => (trodAll_cons_mk (shut_bool Tryz.underlying4 _) trodAll_mk0)) (fun sp hsp => trodAll_stays (by kernel_rfl) hb (by kernel_rfl) hAk (fun x hx => hW'.lt x (by simpa using hx)) (fun x hx => hsp x (by simpa using hx))) (fun _ _ => rfl) (by simp) hb (ok_one (by kernel_rfl) rfl (okWide_bool_mk Tryz.underlying4 _))⟩
theorem over_ : Rows.pointReachesRow.holds Tryz.pinned (OpenSpec.ofChange Rows.pointReachesSpec) :=
  OpenClaim.holds_of_wide 5 Tryz.f5 rfl rfl rfl rfl rfl rfl rfl ⟨rfl, rfl, rfl, rfl, rfl⟩ rfl rfl rfl rfl rfl (by kernel_rfl) Tryz.func5 (by kernel_rfl)
    (of_decide_eq_true (by kernel_rfl)) (by unfold Func.isWrapper; first | (rw [if_pos (by decide +kernel)]; kernel_rfl) | (rw [if_neg (by decide +kernel)]; exact ⟨rfl, rfl⟩))
    (fun os started H enc _ => lifted os started H enc)
/-- The statement. -/
theorem proved : Rows.PointReachesSaid := over_
#print axioms proved
end Go.Proofs.YtplgmlcoeehnfaaGreat.pointReaches
