/- JourCrash: the walk behind all guards. -/
import Derived.Test.YtplgmlcoeehnfaaGreatJcLaw07c
import Derived.Test.YtplgmlcoeehnfaaGreatJcPlan6
import Derived.Test.YtplgmlcoeehnfaaGreatJcDev4
import Derived.Test.YtplgmlcoeehnfaaGreatJcRef01b
import Derived.Test.YtplgmlcoeehnfaaGreatJcPlan1
import Derived.Test.YtplgmlcoeehnfaaGreatJcJour15
import Derived.Test.YtplgmlcoeehnfaaGreatJcJourRest0
import Derived.Test.YtplgmlcoeehnfaaGreatJcJourRest12
import Derived.Deep.DeepCutAuto
import Derived.Deep.RegionWith
set_option linter.unusedVariables false
namespace Go.Proofs.YtplgmlcoeehnfaaGreat.jourCrash
open Go.RowKit Go.Shelf Go.WideShapes Go.ChangeShapes Go.ChangeAt
open Go.ChangeMaps (open_string shut_string)
attribute [local go_sem] bs_mk bs_append bs_extract bs_size bs_toList bs_get
section
variable {P : Program} {ops : Array Oper} {Q : Exit → Act → World → Prop} {md : Region.Mode} {S : World → Prop} {late : Nat → Bool}
theorem wpLate_3 {i j k : Nat} {o o1 o2 : Oper} {fuel : Nat} {listed : Array Bool} {a : Act} {w₀ : World} (hr : Region.ready md ops listed = [i, j, k]) (ho : ops[i]? = some o) (hg : o.guard = none) (ho1 : ops[j]? = some o1) (hg1 : o1.guard = none) (ho2 : ops[k]? = some o2) (hg2 : o2.guard = none)
    (h : ∀ K' : Act → World → Prop, (∀ a w, (late i = false → S w₀ → S w) → wpLate P md ops Q S late fuel (listed.setIfInBounds i true) a w → K' a w) → o.wp P a w₀ K' Q)
    (h1 : ∀ K' : Act → World → Prop, (∀ a w, (late j = false → S w₀ → S w) → wpLate P md ops Q S late fuel (listed.setIfInBounds j true) a w → K' a w) → o1.wp P a w₀ K' Q)
    (h2 : ∀ K' : Act → World → Prop, (∀ a w, (late k = false → S w₀ → S w) → wpLate P md ops Q S late fuel (listed.setIfInBounds k true) a w → K' a w) → o2.wp P a w₀ K' Q) : wpLate P md ops Q S late (fuel + 1) listed a w₀ :=
  ⟨fun h0 => (by rw [hr] at h0; cases h0), fun x hx => by
    rw [hr] at hx
    rcases List.mem_cons.1 hx with hx | hx
    · rw [hx]
      refine wpOp_step ho fun K' hK => ?_
      rw [if_pos (by simp [Region.wanted, hg])]
      exact h K' fun a w h1 h2 => hK a w ⟨h1, h2⟩
    rcases List.mem_cons.1 hx with hx | hx
    · rw [hx]
      refine wpOp_step ho1 fun K' hK => ?_
      rw [if_pos (by simp [Region.wanted, hg1])]
      exact h1 K' fun a w h1 h2 => hK a w ⟨h1, h2⟩
    · rw [List.mem_singleton.1 hx]
      refine wpOp_step ho2 fun K' hK => ?_
      rw [if_pos (by simp [Region.wanted, hg2])]
      exact h2 K' fun a w h1 h2 => hK a w ⟨h1, h2⟩⟩
theorem oper_call {o : Oper} {a : Act} {w w' : World} {f : FuncId} {args : Array Value} {K : Act → World → Prop} (hr : (execOp a.eval o).run P w = .ok (.enter f args) w')
    (h : Calls P f args w' fun e w'' => ∃ v, e = .returned v ∧ K (a.put o.dst v) w'') : o.wp P a w K Q := by
  simp only [Oper.wp, hr, Oper.upon]
  refine h.mono ?_
  rintro e w'' ⟨v, rfl, hv⟩
  exact hv
end
/-- Behind the second plan: the boxes of what it leaves. -/
def CrMade (U : World) (C0 : Dk) (s7 : Nat) (t7 f7 : Int) (a b c : Value) (W : World) : Prop :=
  ∃ gc gj p7 q7, a = .pointer (some ⟨gc, 0, none⟩) ∧ b = .pointer (some ⟨gj, 0, none⟩) ∧ c = .int .i64 f7 ∧ gc ≠ gj ∧ U.heap.size ≤ gc ∧ U.heap.size ≤ gj ∧
    Blk W gc 25 #[.string (bs C0.data), .slice p7.a C0.cache.length p7.c, .int .i64 C0.fuse, .bool C0.off, .slice q7.a C0.bad.length q7.c] ∧ Blk W gj 72 #[.int .u64 s7, .int .i64 t7] ∧ IsDk W C0 p7 q7 ∧ DkOff gc C0 p7 q7 ∧ Below U.heap.size U W
set_option maxRecDepth 100000 in
set_option maxHeartbeats 40000000 in
theorem walk_ok (dat : List UInt8) (fus : Int) (L M : Pn) (p q pl ql pm qm : Pl) (nf ng : Int) (K R : List Bool) (AK AR : Option Addr) (cK cR : Nat) (w : World) (h0 : IsDk0 w (⟨dat, [], fus, false, []⟩ : Dk) p q) (hL : IsPn w L pl ql) (hM : IsPn w M pm qm) (hg : good7 (⟨dat, [], fus, false, []⟩ : Dk) = true) (x3 : decide (0 ≤ fus) = false) (x3' : fus < 0)
    (hnf : okInt nf) (hng : okInt ng) (hK : Cells w AK (boolCells K)) (hKl : K.length ≤ 9223372036854775807) (hR : Cells w AR (boolCells R)) (hRl : R.length ≤ 9223372036854775807) :
    Calls Tryz.prog 12 #[dval (⟨dat, [], fus, false, []⟩ : Dk) p q, pval L pl ql, pval M pm qm, .int .i64 nf, .slice AK K.length cK, .int .i64 ng, .slice AR R.length cR] w fun e w' => e = .returned (.bool true) ∧ Below w.heap.size w w' := by
  obtain ⟨g1, g2, g3, g4⟩ := good7_iff.1 hg
  have hD := h0.full (by omega) (by simp) (by omega)
  have hG := fun (W : World) (hb : Below w.heap.size w W) => good07 (⟨dat, [], fus, false, []⟩ : Dk) p q W (h0.below hb) (by simp)
  rw [hg] at hG
  have hO1 := fun (W : World) (hb : Below w.heap.size w W) => outside07 (⟨dat, [], fus, false, []⟩ : Dk) L p q pl ql W (hD.below hb) (hL.below hb)
  have hO2 := fun (W : World) (hb : Below w.heap.size w W) => outside07 (⟨dat, [], fus, false, []⟩ : Dk) M p q pm qm W (hD.below hb) (hM.below hb)
  have hCh := fun (W : World) (hb : Below w.heap.size w W) => chance07 (⟨dat, [], fus, false, []⟩ : Dk) p q [] none 0 0 W (hD.below hb) g3 (fun h => absurd rfl h) (fun i h => absurd h (Nat.not_lt_zero _)) (by decide) (fun x hx => nomatch hx)
  rw [List.length_nil] at hCh
  have Hq : Hid (Quiet (⟨dat, [], fus, false, []⟩ : Dk)) := hid ⟨rfl, rfl, g3, g4⟩
  have Hfu : Hid ((⟨dat, [], fus, false, []⟩ : Dk).fuse < 0) := hid x3'
  have HD := hid hD
  have HL := hid hL
  have HM := hid hM
  have HK := hid hK
  have HR := hid hR
  have hap := hD.apart (Nat.le_refl w.heap.size)
  have hsz : (⟨dat, [], fus, false, []⟩ : Dk).data.length = (⟨dat, [], fus, false, []⟩ : Dk).sz * 64 := (Dk.fit_parts g3).2.2.1
  clear h0 hg hD hL hM hK hR g1 g2 g3 g4
  obtain ⟨A1, a1⟩ := p
  obtain ⟨A2, a2⟩ := q
  obtain ⟨B1, b1⟩ := pl
  obtain ⟨B2, b2⟩ := ql
  obtain ⟨C1, c1⟩ := pm
  obtain ⟨C2, c2⟩ := qm
  have hB := Below.refl w.heap.size w
  have x := Blk.new w 25 #[.string (bs (⟨dat, [], fus, false, []⟩ : Dk).data), .slice A1 0 a1, .int .i64 fus, .bool false, .slice A2 0 a2]
  have xk := blk5 x
  have xkf := x.frozen
  have hB_1 := hB.alloc hB.size (.cells #[.string (bs (⟨dat, [], fus, false, []⟩ : Dk).data), .slice A1 0 a1, .int .i64 fus, .bool false, .slice A2 0 a2] 25)
  have z := Blk.new (w.alloc (.cells #[.string (bs (⟨dat, [], fus, false, []⟩ : Dk).data), .slice A1 0 a1, .int .i64 fus, .bool false, .slice A2 0 a2] 25)) 28 #[.slice B1 L.targets.length b1, .slice B2 L.data.length b2]
  simp only [World.size_alloc] at z
  have zk := blk2 z
  have hB_2 := hB_1.alloc hB_1.size (.cells #[.slice B1 L.targets.length b1, .slice B2 L.data.length b2] 28)
  have x_3 := x.alloc (.cells #[.slice B1 L.targets.length b1, .slice B2 L.data.length b2] 28)
  have xk_3 := blk5 x_3
  have xkf_3 := x_3.frozen
  have y := Blk.new ((w.alloc (.cells #[.string (bs (⟨dat, [], fus, false, []⟩ : Dk).data), .slice A1 0 a1, .int .i64 fus, .bool false, .slice A2 0 a2] 25)).alloc (.cells #[.slice B1 L.targets.length b1, .slice B2 L.data.length b2] 28)) 28 #[.slice C1 M.targets.length c1, .slice C2 M.data.length c2]
  simp only [World.size_alloc] at y
  have yk := blk2 y
  have hB_4 := hB_2.alloc hB_2.size (.cells #[.slice C1 M.targets.length c1, .slice C2 M.data.length c2] 28)
  have x_5 := x_3.alloc (.cells #[.slice C1 M.targets.length c1, .slice C2 M.data.length c2] 28)
  have xk_5 := blk5 x_5
  have xkf_5 := x_5.frozen
  have z_6 := z.alloc (.cells #[.slice C1 M.targets.length c1, .slice C2 M.data.length c2] 28)
  have zk_6 := blk2 z_6
  go_enter Tryz.func12, Tryz.ntmps12
  go_wp2_with fail
  go_at_call 37
  refine ((hG _ hB_4)).mono ?_
  rintro e w1 ⟨rfl, hb1⟩
  replace hB := bt hB_4 hb1
  replace x := x_5.below hb1 x_5.lt
  replace xk := blk5 x
  replace xkf := x.frozen
  replace z := z_6.below hb1 z_6.lt
  replace zk := blk2 z
  replace y := y.below hb1 y.lt
  replace yk := blk2 y
  clear hB_1 hB_2 xk_3 xkf_3 x_3 hB_4 xk_5 xkf_5 x_5 zk_6 z_6
  go_wp2_with fail
  go_at_call 48
  refine ((hO1 _ hB)).mono ?_
  rintro e w2 ⟨⟨r1, rfl, ho1⟩, hb2⟩
  replace hB := bt hB hb2
  replace x := x.below hb2 x.lt
  replace xk := blk5 x
  replace xkf := x.frozen
  replace z := z.below hb2 z.lt
  replace zk := blk2 z
  replace y := y.below hb2 y.lt
  replace yk := blk2 y
  replace ho1 := hid ho1
  cases r1 with
  | false =>
    go_wp2_with fail
    go_at_call 32
    refine ((awake07 _)).mono ?_
    rintro e w3 ⟨rfl, hb3⟩
    replace hB := bt hB hb3
    replace x := x.below hb3 x.lt
    replace xk := blk5 x
    replace xkf := x.frozen
    replace z := z.below hb3 z.lt
    replace zk := blk2 z
    replace y := y.below hb3 y.lt
    replace yk := blk2 y
    go_wp2_with fail
    go_ret
    exact ⟨rfl, hB⟩
  | true =>
    have HO1 := hid (ho1.out rfl)
    clear ho1
    go_wp2_with fail
    go_at_call 48
    refine ((hO2 _ hB)).mono ?_
    rintro e w3 ⟨⟨r2, rfl, ho2⟩, hb3⟩
    replace hB := bt hB hb3
    replace x := x.below hb3 x.lt
    replace xk := blk5 x
    replace xkf := x.frozen
    replace z := z.below hb3 z.lt
    replace zk := blk2 z
    replace y := y.below hb3 y.lt
    replace yk := blk2 y
    replace ho2 := hid ho2
    cases r2 with
    | false =>
      go_wp2_with fail
      go_at_call 32
      refine ((awake07 _)).mono ?_
      rintro e w4 ⟨rfl, hb4⟩
      replace hB := bt hB hb4
      replace x := x.below hb4 x.lt
      replace xk := blk5 x
      replace xkf := x.frozen
      replace z := z.below hb4 z.lt
      replace zk := blk2 z
      replace y := y.below hb4 y.lt
      replace yk := blk2 y
      go_wp2_with fail
      go_ret
      exact ⟨rfl, hB⟩
    | true =>
      have HO2 := hid (ho2.out rfl)
      clear ho2
      go_wp2_with fail
      go_at_call 49
      refine ((hCh _ hB)).mono ?_
      rintro e w4 ⟨⟨r3, rfl, ho3⟩, hb4⟩
      replace hB := bt hB hb4
      replace x := x.below hb4 x.lt
      replace xk := blk5 x
      replace xkf := x.frozen
      replace z := z.below hb4 z.lt
      replace zk := blk2 z
      replace y := y.below hb4 y.lt
      replace yk := blk2 y
      clear ho3
      cases r3 with
      | true =>
        go_wp2_with fail
        go_at_call 32
        refine ((awake07 _)).mono ?_
        rintro e w5 ⟨rfl, hb5⟩
        replace hB := bt hB hb5
        replace x := x.below hb5 x.lt
        replace xk := blk5 x
        replace xkf := x.frozen
        replace z := z.below hb5 z.lt
        replace zk := blk2 z
        replace y := y.below hb5 y.lt
        replace yk := blk2 y
        go_wp2_with fail
        go_ret
        exact ⟨rfl, hB⟩
      | false =>
        have hcom := fun (W : World) (hb : Below w.heap.size w W) => j_commit (⟨dat, [], fus, false, []⟩ : Dk) ⟨1, 0⟩ L ⟨A1, a1⟩ ⟨A2, a2⟩ ⟨B1, b1⟩ ⟨B2, b2⟩ W (HD.out.below hb) (HL.out.below hb) Hq.out.fit HO1.out.2 (by decide) (by decide)
        obtain ⟨D1, ⟨s1, t1⟩, hc1, hF⟩ := first (D := (⟨dat, [], fus, false, []⟩ : Dk)) Hq.out rfl Hfu.out HO1.out.2 HO1.out.1
        rw [hc1] at hcom
        have HF := hid hF
        clear hc1 hF hO1 hO2 hCh hG
        have lx : w.heap.size + 1 + 1 < w4.heap.size := by
          have := (y).lt; omega
        have hj1 := jrFit_iff.1 HF.out.fit
        have hs1 : s1 < 18446744073709551616 := by have := hj1.2.1; simp only at this; omega
        have ht1 : -9223372036854775808 ≤ t1 ∧ t1 ≤ 9223372036854775807 := by have := hj1.2.2; simp only at this; omega
        have hft := fun W => r7_fit ⟨s1, t1⟩ hs1 ht1 W
        rw [HF.out.fit] at hft
        clear hj1
        have b := Blk.new w4 72 #[.int .u64 1, .int .i64 0]
        have bk := blk2 b
        have bkf := b.frozen
        have hB_7 := hB.alloc hB.size (.cells #[.int .u64 1, .int .i64 0] 72)
        have x_8 := x.alloc (.cells #[.int .u64 1, .int .i64 0] 72)
        have xk_8 := blk5 x_8
        have xkf_8 := x_8.frozen
        have z_9 := z.alloc (.cells #[.int .u64 1, .int .i64 0] 72)
        have zk_9 := blk2 z_9
        have y_10 := y.alloc (.cells #[.int .u64 1, .int .i64 0] 72)
        have yk_10 := blk2 y_10
        go_wp2_with fail
        go_at_call 38
        refine ((hcom _ hB_7)).mono ?_
        rintro e w5 ⟨⟨p1, q1, rfl, i1, o1⟩, hb5⟩
        replace hB := bt hB_7 hb5
        replace x := x_8.below hb5 x_8.lt
        replace xk := blk5 x
        replace xkf := x.frozen
        replace z := z_9.below hb5 z_9.lt
        replace zk := blk2 z
        replace y := y_10.below hb5 y_10.lt
        replace yk := blk2 y
        replace b := b.below hb5 b.lt
        replace bk := blk2 b
        replace bkf := b.frozen
        clear hB_7 xk_8 xkf_8 x_8 zk_9 z_9 yk_10 y_10
        have s5 := hb5.size
        simp only [World.size_alloc] at s5
        have hox := o1 w.heap.size (by simp; omega) hap
        have hob : DkOff w4.heap.size D1 p1 q1 := o1 w4.heap.size (by simp) (HD.out.apart (by omega))
        clear o1 hcom
        have hB_11 := below_set5 hB (g := w.heap.size) (by omega) (.string (bs D1.data)) (.slice p1.a D1.cache.length p1.c) (.int .i64 D1.fuse) (.bool D1.off) (.slice q1.a D1.bad.length q1.c)
        have x_12 := blk_set5 x (.string (bs D1.data)) (.slice p1.a D1.cache.length p1.c) (.int .i64 D1.fuse) (.bool D1.off) (.slice q1.a D1.bad.length q1.c)
        have xk_12 := blk5 x_12
        have xkf_12 := x_12.frozen
        have z_13 := blk_off5 z (g := w.heap.size) (by omega) (.string (bs D1.data)) (.slice p1.a D1.cache.length p1.c) (.int .i64 D1.fuse) (.bool D1.off) (.slice q1.a D1.bad.length q1.c)
        have zk_13 := blk2 z_13
        have y_14 := blk_off5 y (g := w.heap.size) (by omega) (.string (bs D1.data)) (.slice p1.a D1.cache.length p1.c) (.int .i64 D1.fuse) (.bool D1.off) (.slice q1.a D1.bad.length q1.c)
        have yk_14 := blk2 y_14
        have b_15 := blk_off5 b (g := w.heap.size) (by omega) (.string (bs D1.data)) (.slice p1.a D1.cache.length p1.c) (.int .i64 D1.fuse) (.bool D1.off) (.slice q1.a D1.bad.length q1.c)
        have bk_15 := blk2 b_15
        have bkf_15 := b_15.frozen
        have i1_16 := i1.off5 (g := w.heap.size) (by first | assumption | omega) (.string (bs D1.data)) (.slice p1.a D1.cache.length p1.c) (.int .i64 D1.fuse) (.bool D1.off) (.slice q1.a D1.bad.length q1.c)
        have hB_17 := below_set2 hB_11 (g := w4.heap.size) (by omega) (.int .u64 s1) (.int .i64 t1)
        have x_18 := blk_off2 x_12 (g := w4.heap.size) (by omega) (.int .u64 s1) (.int .i64 t1)
        have xk_18 := blk5 x_18
        have xkf_18 := x_18.frozen
        have z_19 := blk_off2 z_13 (g := w4.heap.size) (by omega) (.int .u64 s1) (.int .i64 t1)
        have zk_19 := blk2 z_19
        have y_20 := blk_off2 y_14 (g := w4.heap.size) (by omega) (.int .u64 s1) (.int .i64 t1)
        have yk_20 := blk2 y_20
        have b_21 := blk_set2 b_15 (.int .u64 s1) (.int .i64 t1)
        have bk_21 := blk2 b_21
        have bkf_21 := b_21.frozen
        have i1_22 := i1_16.off2 (g := w4.heap.size) (by first | assumption | omega) (.int .u64 s1) (.int .i64 t1)
        go_wp2_with fail
        go_at_call 35
        refine ((hft _)).mono ?_
        rintro e w6 ⟨rfl, hb6⟩
        replace hB := bt hB_17 hb6
        replace x := x_18.below hb6 x_18.lt
        replace xk := blk5 x
        replace xkf := x.frozen
        replace z := z_19.below hb6 z_19.lt
        replace zk := blk2 z
        replace y := y_20.below hb6 y_20.lt
        replace yk := blk2 y
        replace b := b_21.below hb6 b_21.lt
        replace bk := blk2 b
        replace bkf := b.frozen
        replace i1 := i1_22.below hb6
        clear hB_11 xk_12 xkf_12 x_12 zk_13 z_13 yk_14 y_14 bk_15 bkf_15 b_15 i1_16 hB_17 xk_18 xkf_18 x_18 zk_19 z_19 yk_20 y_20 bk_21 bkf_21 b_21 i1_22
        have s6 := hb6.size
        simp only [World.size_setCell] at s6
        clear hft
        have HQ := hid (second HF.out Hq.out HO2.out.2 HO1.out.1 HO2.out.1 (max nf (-1)) (fun i => K.getD i false))
        obtain ⟨C0, ⟨s7, t7⟩, f7, hcm, hf7, hCf, hCs, hMid⟩ := HQ.out
        have Hf7 := hid hf7
        have HCf := hid hCf
        have HCs := hid hCs
        have HMid := hid hMid
        have hnn : -9223372036854775808 ≤ max nf (-1) ∧ max nf (-1) ≤ 9223372036854775807 := by unfold okInt at hnf; omega
        have harm := fun (W : World) (hW : Below w6.heap.size w6 W) => d_arm D1 p1 q1 W ((i1).below hW) (max nf (-1)) hnn
        have hco2 := fun (W : World) (hW : Below w6.heap.size w6 W) => j_commit (D1.arm (max nf (-1))) ⟨s1, t1⟩ M p1 q1 ⟨C1, c1⟩ ⟨C2, c2⟩ W (((i1).below hW).setFuse (n := max (max nf (-1)) (-1)) (by omega)) (HM.out.below (bt hB hW)) HF.out.quiet.fit HO2.out.2 hs1 ht1
        rw [hcm] at hco2
        have hap1 := hid (fun (g : Nat) (hg : w6.heap.size ≤ g) => show DkOff g (D1.arm (max nf (-1))) p1 q1 from (i1).apart hg)
        have KX := fun (W : World) (hW : Below w6.heap.size w6 W) => blk5 ((x).below hW (x).lt)
        have KB := fun (W : World) (hW : Below w6.heap.size w6 W) => blk2 ((b).below hW (b).lt)
        have KY := fun (W : World) (hW : Below w6.heap.size w6 W) => blk2 ((y).below hW (y).lt)
        obtain ⟨DA, hDA⟩ : ∃ X, D1.arm (max nf (-1)) = X := ⟨_, rfl⟩
        rw [hDA] at harm hco2 hap1
        have HDA := hid hDA
        clear hDA
        obtain ⟨nn, hnn2⟩ : ∃ n, max nf (-1) = n := ⟨_, rfl⟩
        rw [hnn2] at harm
        have Hnn := hid hnn2
        clear hcm hf7 hCf hCs hMid hnn hnn2 HQ
        go_upto_region 7 with fail
        go_cut [17, 18, 19] (fun a b c W => CrMade w6 C0 s7 t7 f7 a b c W)
        case first =>
          clear xk zk yk bk hB
          have s0 : Below w6.heap.size w6 w6.drew := (Below.refl _ _).drew
          refine wp_region_late (S := fun W => Below w6.heap.size w6 W) (late := fun _ => false) (by kernel_rfl) ?_
          generalize w6.drew = U0 at s0 ⊢
          simp only [List.size_toArray, List.length_cons, List.length_nil, Nat.reduceAdd, Array.replicate_succ, Array.replicate_zero, List.push_toArray, List.nil_append, List.cons_append]
          refine wpLate_take (i := 0) (oi := _) (v := dval D1 p1 q1) (d := some 87) rfl rfl (by kernel_rfl) (by kernel_rfl) (by kernel_rfl) (by kernel_rfl) (fun _ _ _ h => h) rfl (fun W hW => by have h := KX W hW; go_simp) s0 ?_
          simp only [Act.put, List.setIfInBounds_toArray, List.set_cons_zero, List.set_cons_succ]
          refine wpLate_take0 (i := 1) (oi := _) (v := .int .i64 nf) (d := some 88) rfl rfl (by kernel_rfl) (by kernel_rfl) (by kernel_rfl) (fun _ _ _ h => h) rfl (fun W => by rfl) ?_
          simp only [Act.put, List.setIfInBounds_toArray, List.set_cons_zero, List.set_cons_succ]
          refine wpLate_take0 (i := 2) (oi := _) (v := .int .i64 nn) (d := some 89) rfl rfl (by kernel_rfl) (by kernel_rfl) (by kernel_rfl) (fun _ _ _ h => h) rfl (fun W => by have h := Hnn.out; go_simp) ?_
          simp only [Act.put, List.setIfInBounds_toArray, List.set_cons_zero, List.set_cons_succ]
          refine wpLate_take (i := 4) (oi := _) (v := jval ⟨s1, t1⟩) (d := some 91) rfl rfl (by kernel_rfl) (by kernel_rfl) (by kernel_rfl) (by kernel_rfl) (fun _ _ _ h => h) rfl (fun W hW => by have h := KB W hW; go_simp) s0 ?_
          simp only [Act.put, List.setIfInBounds_toArray, List.set_cons_zero, List.set_cons_succ]
          refine wpLate_take (i := 5) (oi := _) (v := pval M ⟨C1, c1⟩ ⟨C2, c2⟩) (d := some 92) rfl rfl (by kernel_rfl) (by kernel_rfl) (by kernel_rfl) (by kernel_rfl) (fun _ _ _ h => h) rfl (fun W hW => by have h := KY W hW; go_simp) s0 ?_
          simp only [Act.put, List.setIfInBounds_toArray, List.set_cons_zero, List.set_cons_succ]
          refine wpLate_3 (i := 3) (j := 11) (k := 12) (by kernel_rfl) rfl rfl rfl rfl rfl rfl (fun K hK => ?_) (fun K hK => ?_) (fun K hK => ?_)
          · skip
            refine oper_call (f := 47) (args := #[dval D1 p1 q1, .int .i64 nn]) (w' := U0) (by go_simp) ((harm U0 s0).mono ?_)
            rintro e U1 ⟨⟨rfl, ia⟩, hb⟩
            refine ⟨_, rfl, ?_⟩
            show K (Act.put _ (some 90) _) _
            have sf1 := bt s0 hb
            clear ia hb
            refine hK _ _ (fun _ _ => sf1) ?_
            simp only [Act.put, List.setIfInBounds_toArray, List.set_cons_zero, List.set_cons_succ]
            refine wpLate_3 (i := 6) (j := 11) (k := 12) (by kernel_rfl) rfl rfl rfl rfl rfl rfl (fun K hK => ?_) (fun K hK => ?_) (fun K hK => ?_)
            · skip
              refine oper_call (f := 38) (args := #[dval DA p1 q1, jval ⟨s1, t1⟩, pval M ⟨C1, c1⟩ ⟨C2, c2⟩]) (w' := U1) (by go_simp) ((hco2 U1 sf1).mono ?_)
              rintro e U2 ⟨⟨p7, q7, rfl, ic, o7⟩, hb⟩
              refine ⟨_, rfl, ?_⟩
              show K (Act.put _ (some 93) _) _
              have sf2 := bt sf1 hb
              clear o7 hb
              refine hK _ _ (fun _ _ => sf2) ?_
              simp only [Act.put, List.setIfInBounds_toArray, List.set_cons_zero, List.set_cons_succ]
              refine wpLate_take0 (i := 7) (oi := _) (v := .tuple #[dval C0 p7 q7, jval ⟨s7, t7⟩, .int .i64 f7]) (d := some 86) rfl rfl (by kernel_rfl) (by kernel_rfl) (by kernel_rfl) (fun _ _ _ h => h) rfl (fun W => by rfl) ?_
              simp only [Act.put, List.setIfInBounds_toArray, List.set_cons_zero, List.set_cons_succ]
              refine wpLate_take0 (i := 8) (oi := _) (v := dval C0 p7 q7) (d := some 94) rfl rfl (by kernel_rfl) (by kernel_rfl) (by kernel_rfl) (fun _ _ _ h => h) rfl (fun W => by rfl) ?_
              simp only [Act.put, List.setIfInBounds_toArray, List.set_cons_zero, List.set_cons_succ]
              refine wpLate_take0 (i := 9) (oi := _) (v := jval ⟨s7, t7⟩) (d := some 95) rfl rfl (by kernel_rfl) (by kernel_rfl) (by kernel_rfl) (fun _ _ _ h => h) rfl (fun W => by rfl) ?_
              simp only [Act.put, List.setIfInBounds_toArray, List.set_cons_zero, List.set_cons_succ]
              refine wpLate_take0 (i := 10) (oi := _) (v := .int .i64 f7) (d := some 96) rfl rfl (by kernel_rfl) (by kernel_rfl) (by kernel_rfl) (fun _ _ _ h => h) rfl (fun W => by rfl) ?_
              simp only [Act.put, List.setIfInBounds_toArray, List.set_cons_zero, List.set_cons_succ]
              refine wpLate_two (i := 11) (k := 12) (by kernel_rfl) rfl rfl rfl rfl (fun K hK => ?_) (fun K hK => ?_)
              · skip
                refine oper_ran (v := .pointer (some ⟨U2.heap.size, 0, none⟩)) (w' := U2.alloc (.cells #[.string (bs []), .slice none 0 0, .int .i64 0, .bool false, .slice none 0 0] 25)) (by go_simp) ?_
                show K (Act.put _ (some 17) _) _
                have sf3 := sf2.alloc sf2.size (.cells #[.string (bs []), .slice none 0 0, .int .i64 0, .bool false, .slice none 0 0] 25)
                have gc0 : w6.heap.size ≤ U2.heap.size := sf2.size
                have cf3 := Blk.new U2 25 #[.string (bs []), .slice none 0 0, .int .i64 0, .bool false, .slice none 0 0]
                have oc : DkOff U2.heap.size C0 p7 q7 := ic.apart (Nat.le_refl _)
                replace ic := ic.below ((Below.refl U2.heap.size U2).alloc (Nat.le_refl _) (.cells #[.string (bs []), .slice none 0 0, .int .i64 0, .bool false, .slice none 0 0] 25))
                refine hK _ _ (fun _ _ => sf3) ?_
                generalize U2.alloc (.cells #[.string (bs []), .slice none 0 0, .int .i64 0, .bool false, .slice none 0 0] 25) = U3 at sf3 cf3 ic ⊢
                generalize U2.heap.size = gc at gc0 cf3 oc ⊢
                simp only [Act.put, List.setIfInBounds_toArray, List.set_cons_zero, List.set_cons_succ]
                refine wpLate_one (i := 12) (by kernel_rfl) rfl rfl (fun K hK => ?_)
                refine oper_ran (v := .pointer (some ⟨U3.heap.size, 0, none⟩)) (w' := U3.alloc (.cells #[.int .u64 0, .int .i64 0] 72)) (by go_simp) ?_
                show K (Act.put _ (some 18) _) _
                have sf4 := sf3.alloc sf3.size (.cells #[.int .u64 0, .int .i64 0] 72)
                have gj0 : w6.heap.size ≤ U3.heap.size := sf3.size
                have jf4 := Blk.new U3 72 #[.int .u64 0, .int .i64 0]
                have hcj : gc ≠ U3.heap.size := Nat.ne_of_lt cf3.lt
                have cf4 := cf3.alloc (.cells #[.int .u64 0, .int .i64 0] 72)
                have oj : DkOff U3.heap.size C0 p7 q7 := ic.apart (Nat.le_refl _)
                replace ic := ic.below ((Below.refl U3.heap.size U3).alloc (Nat.le_refl _) (.cells #[.int .u64 0, .int .i64 0] 72))
                refine hK _ _ (fun _ _ => sf4) ?_
                generalize U3.alloc (.cells #[.int .u64 0, .int .i64 0] 72) = U4 at sf4 jf4 cf4 ic ⊢
                generalize U3.heap.size = gj at gj0 jf4 hcj oj ⊢
                simp only [Act.put, List.setIfInBounds_toArray, List.set_cons_zero, List.set_cons_succ]
                refine wpLate_one (i := 13) (by kernel_rfl) rfl rfl (fun K hK => ?_)
                refine oper_skip (w' := (((((U4.setCell ⟨gc, 0, none⟩ (.string (bs C0.data))).setCell ⟨gc, 1, none⟩ (.slice p7.a C0.cache.length p7.c)).setCell ⟨gc, 2, none⟩ (.int .i64 C0.fuse)).setCell ⟨gc, 3, none⟩ (.bool C0.off)).setCell ⟨gc, 4, none⟩ (.slice q7.a C0.bad.length q7.c))) (by have u0 := blk5 cf4; have uf := cf4.frozen; have q1_ := cf4.set 0 (.string (bs C0.data)); have f1_ := q1_.frozen; have k1_ := blk5 q1_; have q2_ := q1_.set 1 (.slice p7.a C0.cache.length p7.c); have f2_ := q2_.frozen; have k2_ := blk5 q2_; have q3_ := q2_.set 2 (.int .i64 C0.fuse); have f3_ := q3_.frozen; have k3_ := blk5 q3_; have q4_ := q3_.set 3 (.bool C0.off); have f4_ := q4_.frozen; have k4_ := blk5 q4_; go_simp) ?_
                show K (Act.put _ none _) _
                have cf5 := blk_set5 cf4 (.string (bs C0.data)) (.slice p7.a C0.cache.length p7.c) (.int .i64 C0.fuse) (.bool C0.off) (.slice q7.a C0.bad.length q7.c)
                have jf5 := blk_off5 jf4 (g := gc) hcj.symm (.string (bs C0.data)) (.slice p7.a C0.cache.length p7.c) (.int .i64 C0.fuse) (.bool C0.off) (.slice q7.a C0.bad.length q7.c)
                have sf5 := below_set5 sf4 (g := gc) gc0 (.string (bs C0.data)) (.slice p7.a C0.cache.length p7.c) (.int .i64 C0.fuse) (.bool C0.off) (.slice q7.a C0.bad.length q7.c)
                replace ic := ic.off5 oc (.string (bs C0.data)) (.slice p7.a C0.cache.length p7.c) (.int .i64 C0.fuse) (.bool C0.off) (.slice q7.a C0.bad.length q7.c)
                refine hK _ _ (fun _ _ => sf5) ?_
                generalize (((((U4.setCell ⟨gc, 0, none⟩ (.string (bs C0.data))).setCell ⟨gc, 1, none⟩ (.slice p7.a C0.cache.length p7.c)).setCell ⟨gc, 2, none⟩ (.int .i64 C0.fuse)).setCell ⟨gc, 3, none⟩ (.bool C0.off)).setCell ⟨gc, 4, none⟩ (.slice q7.a C0.bad.length q7.c)) = U5 at cf5 jf5 sf5 ic ⊢
                try simp only [Act.put, List.setIfInBounds_toArray, List.set_cons_zero, List.set_cons_succ]
                refine wpLate_one (i := 14) (by kernel_rfl) rfl rfl (fun K hK => ?_)
                refine oper_skip (w' := (U5.setCell ⟨gj, 0, none⟩ (.int .u64 s7)).setCell ⟨gj, 1, none⟩ (.int .i64 t7)) (by have u0 := blk2 jf5; have uf := jf5.frozen; have qq := jf5.set 0 (.int .u64 s7); have uf2 := qq.frozen; have u1 := blk2 qq; go_simp) ?_
                show K (Act.put _ none _) _
                have jf6 := blk_set2 jf5 (.int .u64 s7) (.int .i64 t7)
                have cf6 := blk_off2 cf5 (g := gj) hcj (.int .u64 s7) (.int .i64 t7)
                have bw := below_set2 sf5 (g := gj) gj0 (.int .u64 s7) (.int .i64 t7)
                replace ic := ic.off2 oj (.int .u64 s7) (.int .i64 t7)
                refine hK _ _ (fun _ _ => bw) ?_
                try simp only [Act.put, List.setIfInBounds_toArray, List.set_cons_zero, List.set_cons_succ]
                refine wpLate_take0 (i := 15) (oi := _) (v := .int .i64 f7) (d := some 19) rfl rfl (by kernel_rfl) (by kernel_rfl) (by kernel_rfl) (fun _ _ _ h => h) rfl (fun W => by rfl) ?_
                simp only [Act.put, List.setIfInBounds_toArray, List.set_cons_zero, List.set_cons_succ]
                refine wpLate_done (by kernel_rfl) ?_ _
                go_wp2_with fail
                go_meet
                exact ⟨gc, gj, p7, q7, rfl, rfl, rfl, hcj, gc0, gj0, cf6, jf6, ic, oc, bw⟩
              · skip
                refine oper_ran (v := .pointer (some ⟨U2.heap.size, 0, none⟩)) (w' := U2.alloc (.cells #[.int .u64 0, .int .i64 0] 72)) (by go_simp) ?_
                show K (Act.put _ (some 18) _) _
                have sf7 := sf2.alloc sf2.size (.cells #[.int .u64 0, .int .i64 0] 72)
                have gj0 : w6.heap.size ≤ U2.heap.size := sf2.size
                have jf7 := Blk.new U2 72 #[.int .u64 0, .int .i64 0]
                have oj : DkOff U2.heap.size C0 p7 q7 := ic.apart (Nat.le_refl _)
                replace ic := ic.below ((Below.refl U2.heap.size U2).alloc (Nat.le_refl _) (.cells #[.int .u64 0, .int .i64 0] 72))
                refine hK _ _ (fun _ _ => sf7) ?_
                generalize U2.alloc (.cells #[.int .u64 0, .int .i64 0] 72) = U7 at sf7 jf7 ic ⊢
                generalize U2.heap.size = gj at gj0 jf7 oj ⊢
                simp only [Act.put, List.setIfInBounds_toArray, List.set_cons_zero, List.set_cons_succ]
                refine wpLate_one (i := 11) (by kernel_rfl) rfl rfl (fun K hK => ?_)
                refine oper_ran (v := .pointer (some ⟨U7.heap.size, 0, none⟩)) (w' := U7.alloc (.cells #[.string (bs []), .slice none 0 0, .int .i64 0, .bool false, .slice none 0 0] 25)) (by go_simp) ?_
                show K (Act.put _ (some 17) _) _
                have sf8 := sf7.alloc sf7.size (.cells #[.string (bs []), .slice none 0 0, .int .i64 0, .bool false, .slice none 0 0] 25)
                have gc0 : w6.heap.size ≤ U7.heap.size := sf7.size
                have cf8 := Blk.new U7 25 #[.string (bs []), .slice none 0 0, .int .i64 0, .bool false, .slice none 0 0]
                have hcj : U7.heap.size ≠ gj := Nat.ne_of_gt jf7.lt
                have jf8 := jf7.alloc (.cells #[.string (bs []), .slice none 0 0, .int .i64 0, .bool false, .slice none 0 0] 25)
                have oc : DkOff U7.heap.size C0 p7 q7 := ic.apart (Nat.le_refl _)
                replace ic := ic.below ((Below.refl U7.heap.size U7).alloc (Nat.le_refl _) (.cells #[.string (bs []), .slice none 0 0, .int .i64 0, .bool false, .slice none 0 0] 25))
                refine hK _ _ (fun _ _ => sf8) ?_
                generalize U7.alloc (.cells #[.string (bs []), .slice none 0 0, .int .i64 0, .bool false, .slice none 0 0] 25) = U8 at sf8 cf8 jf8 ic ⊢
                generalize U7.heap.size = gc at gc0 cf8 hcj oc ⊢
                simp only [Act.put, List.setIfInBounds_toArray, List.set_cons_zero, List.set_cons_succ]
                refine wpLate_one (i := 13) (by kernel_rfl) rfl rfl (fun K hK => ?_)
                refine oper_skip (w' := (((((U8.setCell ⟨gc, 0, none⟩ (.string (bs C0.data))).setCell ⟨gc, 1, none⟩ (.slice p7.a C0.cache.length p7.c)).setCell ⟨gc, 2, none⟩ (.int .i64 C0.fuse)).setCell ⟨gc, 3, none⟩ (.bool C0.off)).setCell ⟨gc, 4, none⟩ (.slice q7.a C0.bad.length q7.c))) (by have u0 := blk5 cf8; have uf := cf8.frozen; have q1_ := cf8.set 0 (.string (bs C0.data)); have f1_ := q1_.frozen; have k1_ := blk5 q1_; have q2_ := q1_.set 1 (.slice p7.a C0.cache.length p7.c); have f2_ := q2_.frozen; have k2_ := blk5 q2_; have q3_ := q2_.set 2 (.int .i64 C0.fuse); have f3_ := q3_.frozen; have k3_ := blk5 q3_; have q4_ := q3_.set 3 (.bool C0.off); have f4_ := q4_.frozen; have k4_ := blk5 q4_; go_simp) ?_
                show K (Act.put _ none _) _
                have cf9 := blk_set5 cf8 (.string (bs C0.data)) (.slice p7.a C0.cache.length p7.c) (.int .i64 C0.fuse) (.bool C0.off) (.slice q7.a C0.bad.length q7.c)
                have jf9 := blk_off5 jf8 (g := gc) hcj.symm (.string (bs C0.data)) (.slice p7.a C0.cache.length p7.c) (.int .i64 C0.fuse) (.bool C0.off) (.slice q7.a C0.bad.length q7.c)
                have sf9 := below_set5 sf8 (g := gc) gc0 (.string (bs C0.data)) (.slice p7.a C0.cache.length p7.c) (.int .i64 C0.fuse) (.bool C0.off) (.slice q7.a C0.bad.length q7.c)
                replace ic := ic.off5 oc (.string (bs C0.data)) (.slice p7.a C0.cache.length p7.c) (.int .i64 C0.fuse) (.bool C0.off) (.slice q7.a C0.bad.length q7.c)
                refine hK _ _ (fun _ _ => sf9) ?_
                generalize (((((U8.setCell ⟨gc, 0, none⟩ (.string (bs C0.data))).setCell ⟨gc, 1, none⟩ (.slice p7.a C0.cache.length p7.c)).setCell ⟨gc, 2, none⟩ (.int .i64 C0.fuse)).setCell ⟨gc, 3, none⟩ (.bool C0.off)).setCell ⟨gc, 4, none⟩ (.slice q7.a C0.bad.length q7.c)) = U9 at cf9 jf9 sf9 ic ⊢
                try simp only [Act.put, List.setIfInBounds_toArray, List.set_cons_zero, List.set_cons_succ]
                refine wpLate_one (i := 14) (by kernel_rfl) rfl rfl (fun K hK => ?_)
                refine oper_skip (w' := (U9.setCell ⟨gj, 0, none⟩ (.int .u64 s7)).setCell ⟨gj, 1, none⟩ (.int .i64 t7)) (by have u0 := blk2 jf9; have uf := jf9.frozen; have qq := jf9.set 0 (.int .u64 s7); have uf2 := qq.frozen; have u1 := blk2 qq; go_simp) ?_
                show K (Act.put _ none _) _
                have jf10 := blk_set2 jf9 (.int .u64 s7) (.int .i64 t7)
                have cf10 := blk_off2 cf9 (g := gj) hcj (.int .u64 s7) (.int .i64 t7)
                have bw := below_set2 sf9 (g := gj) gj0 (.int .u64 s7) (.int .i64 t7)
                replace ic := ic.off2 oj (.int .u64 s7) (.int .i64 t7)
                refine hK _ _ (fun _ _ => bw) ?_
                try simp only [Act.put, List.setIfInBounds_toArray, List.set_cons_zero, List.set_cons_succ]
                refine wpLate_take0 (i := 15) (oi := _) (v := .int .i64 f7) (d := some 19) rfl rfl (by kernel_rfl) (by kernel_rfl) (by kernel_rfl) (fun _ _ _ h => h) rfl (fun W => by rfl) ?_
                simp only [Act.put, List.setIfInBounds_toArray, List.set_cons_zero, List.set_cons_succ]
                refine wpLate_done (by kernel_rfl) ?_ _
                go_wp2_with fail
                go_meet
                exact ⟨gc, gj, p7, q7, rfl, rfl, rfl, hcj, gc0, gj0, cf10, jf10, ic, oc, bw⟩
            · skip
              refine oper_ran (v := .pointer (some ⟨U1.heap.size, 0, none⟩)) (w' := U1.alloc (.cells #[.string (bs []), .slice none 0 0, .int .i64 0, .bool false, .slice none 0 0] 25)) (by go_simp) ?_
              show K (Act.put _ (some 17) _) _
              have sf11 := sf1.alloc sf1.size (.cells #[.string (bs []), .slice none 0 0, .int .i64 0, .bool false, .slice none 0 0] 25)
              have gc0 : w6.heap.size ≤ U1.heap.size := sf1.size
              have cf11 := Blk.new U1 25 #[.string (bs []), .slice none 0 0, .int .i64 0, .bool false, .slice none 0 0]
              refine hK _ _ (fun _ _ => sf11) ?_
              generalize U1.alloc (.cells #[.string (bs []), .slice none 0 0, .int .i64 0, .bool false, .slice none 0 0] 25) = U11 at sf11 cf11 ⊢
              generalize U1.heap.size = gc at gc0 cf11 ⊢
              simp only [Act.put, List.setIfInBounds_toArray, List.set_cons_zero, List.set_cons_succ]
              refine wpLate_two (i := 6) (k := 12) (by kernel_rfl) rfl rfl rfl rfl (fun K hK => ?_) (fun K hK => ?_)
              · skip
                refine oper_call (f := 38) (args := #[dval DA p1 q1, jval ⟨s1, t1⟩, pval M ⟨C1, c1⟩ ⟨C2, c2⟩]) (w' := U11) (by go_simp) ((hco2 U11 sf11).mono ?_)
                rintro e U12 ⟨⟨p7, q7, rfl, ic, o7⟩, hb⟩
                refine ⟨_, rfl, ?_⟩
                show K (Act.put _ (some 93) _) _
                have sf12 := bt sf11 hb
                have cf12 := cf11.below hb cf11.lt
                have oc : DkOff gc C0 p7 q7 := o7 gc cf11.lt (hap1.out gc gc0)
                clear o7 hb
                refine hK _ _ (fun _ _ => sf12) ?_
                simp only [Act.put, List.setIfInBounds_toArray, List.set_cons_zero, List.set_cons_succ]
                refine wpLate_take0 (i := 7) (oi := _) (v := .tuple #[dval C0 p7 q7, jval ⟨s7, t7⟩, .int .i64 f7]) (d := some 86) rfl rfl (by kernel_rfl) (by kernel_rfl) (by kernel_rfl) (fun _ _ _ h => h) rfl (fun W => by rfl) ?_
                simp only [Act.put, List.setIfInBounds_toArray, List.set_cons_zero, List.set_cons_succ]
                refine wpLate_take0 (i := 8) (oi := _) (v := dval C0 p7 q7) (d := some 94) rfl rfl (by kernel_rfl) (by kernel_rfl) (by kernel_rfl) (fun _ _ _ h => h) rfl (fun W => by rfl) ?_
                simp only [Act.put, List.setIfInBounds_toArray, List.set_cons_zero, List.set_cons_succ]
                refine wpLate_take0 (i := 9) (oi := _) (v := jval ⟨s7, t7⟩) (d := some 95) rfl rfl (by kernel_rfl) (by kernel_rfl) (by kernel_rfl) (fun _ _ _ h => h) rfl (fun W => by rfl) ?_
                simp only [Act.put, List.setIfInBounds_toArray, List.set_cons_zero, List.set_cons_succ]
                refine wpLate_take0 (i := 10) (oi := _) (v := .int .i64 f7) (d := some 96) rfl rfl (by kernel_rfl) (by kernel_rfl) (by kernel_rfl) (fun _ _ _ h => h) rfl (fun W => by rfl) ?_
                simp only [Act.put, List.setIfInBounds_toArray, List.set_cons_zero, List.set_cons_succ]
                refine wpLate_one (i := 12) (by kernel_rfl) rfl rfl (fun K hK => ?_)
                refine oper_ran (v := .pointer (some ⟨U12.heap.size, 0, none⟩)) (w' := U12.alloc (.cells #[.int .u64 0, .int .i64 0] 72)) (by go_simp) ?_
                show K (Act.put _ (some 18) _) _
                have sf13 := sf12.alloc sf12.size (.cells #[.int .u64 0, .int .i64 0] 72)
                have gj0 : w6.heap.size ≤ U12.heap.size := sf12.size
                have jf13 := Blk.new U12 72 #[.int .u64 0, .int .i64 0]
                have hcj : gc ≠ U12.heap.size := Nat.ne_of_lt cf12.lt
                have cf13 := cf12.alloc (.cells #[.int .u64 0, .int .i64 0] 72)
                have oj : DkOff U12.heap.size C0 p7 q7 := ic.apart (Nat.le_refl _)
                replace ic := ic.below ((Below.refl U12.heap.size U12).alloc (Nat.le_refl _) (.cells #[.int .u64 0, .int .i64 0] 72))
                refine hK _ _ (fun _ _ => sf13) ?_
                generalize U12.alloc (.cells #[.int .u64 0, .int .i64 0] 72) = U13 at sf13 jf13 cf13 ic ⊢
                generalize U12.heap.size = gj at gj0 jf13 hcj oj ⊢
                simp only [Act.put, List.setIfInBounds_toArray, List.set_cons_zero, List.set_cons_succ]
                refine wpLate_one (i := 13) (by kernel_rfl) rfl rfl (fun K hK => ?_)
                refine oper_skip (w' := (((((U13.setCell ⟨gc, 0, none⟩ (.string (bs C0.data))).setCell ⟨gc, 1, none⟩ (.slice p7.a C0.cache.length p7.c)).setCell ⟨gc, 2, none⟩ (.int .i64 C0.fuse)).setCell ⟨gc, 3, none⟩ (.bool C0.off)).setCell ⟨gc, 4, none⟩ (.slice q7.a C0.bad.length q7.c))) (by have u0 := blk5 cf13; have uf := cf13.frozen; have q1_ := cf13.set 0 (.string (bs C0.data)); have f1_ := q1_.frozen; have k1_ := blk5 q1_; have q2_ := q1_.set 1 (.slice p7.a C0.cache.length p7.c); have f2_ := q2_.frozen; have k2_ := blk5 q2_; have q3_ := q2_.set 2 (.int .i64 C0.fuse); have f3_ := q3_.frozen; have k3_ := blk5 q3_; have q4_ := q3_.set 3 (.bool C0.off); have f4_ := q4_.frozen; have k4_ := blk5 q4_; go_simp) ?_
                show K (Act.put _ none _) _
                have cf14 := blk_set5 cf13 (.string (bs C0.data)) (.slice p7.a C0.cache.length p7.c) (.int .i64 C0.fuse) (.bool C0.off) (.slice q7.a C0.bad.length q7.c)
                have jf14 := blk_off5 jf13 (g := gc) hcj.symm (.string (bs C0.data)) (.slice p7.a C0.cache.length p7.c) (.int .i64 C0.fuse) (.bool C0.off) (.slice q7.a C0.bad.length q7.c)
                have sf14 := below_set5 sf13 (g := gc) gc0 (.string (bs C0.data)) (.slice p7.a C0.cache.length p7.c) (.int .i64 C0.fuse) (.bool C0.off) (.slice q7.a C0.bad.length q7.c)
                replace ic := ic.off5 oc (.string (bs C0.data)) (.slice p7.a C0.cache.length p7.c) (.int .i64 C0.fuse) (.bool C0.off) (.slice q7.a C0.bad.length q7.c)
                refine hK _ _ (fun _ _ => sf14) ?_
                generalize (((((U13.setCell ⟨gc, 0, none⟩ (.string (bs C0.data))).setCell ⟨gc, 1, none⟩ (.slice p7.a C0.cache.length p7.c)).setCell ⟨gc, 2, none⟩ (.int .i64 C0.fuse)).setCell ⟨gc, 3, none⟩ (.bool C0.off)).setCell ⟨gc, 4, none⟩ (.slice q7.a C0.bad.length q7.c)) = U14 at cf14 jf14 sf14 ic ⊢
                try simp only [Act.put, List.setIfInBounds_toArray, List.set_cons_zero, List.set_cons_succ]
                refine wpLate_one (i := 14) (by kernel_rfl) rfl rfl (fun K hK => ?_)
                refine oper_skip (w' := (U14.setCell ⟨gj, 0, none⟩ (.int .u64 s7)).setCell ⟨gj, 1, none⟩ (.int .i64 t7)) (by have u0 := blk2 jf14; have uf := jf14.frozen; have qq := jf14.set 0 (.int .u64 s7); have uf2 := qq.frozen; have u1 := blk2 qq; go_simp) ?_
                show K (Act.put _ none _) _
                have jf15 := blk_set2 jf14 (.int .u64 s7) (.int .i64 t7)
                have cf15 := blk_off2 cf14 (g := gj) hcj (.int .u64 s7) (.int .i64 t7)
                have bw := below_set2 sf14 (g := gj) gj0 (.int .u64 s7) (.int .i64 t7)
                replace ic := ic.off2 oj (.int .u64 s7) (.int .i64 t7)
                refine hK _ _ (fun _ _ => bw) ?_
                try simp only [Act.put, List.setIfInBounds_toArray, List.set_cons_zero, List.set_cons_succ]
                refine wpLate_take0 (i := 15) (oi := _) (v := .int .i64 f7) (d := some 19) rfl rfl (by kernel_rfl) (by kernel_rfl) (by kernel_rfl) (fun _ _ _ h => h) rfl (fun W => by rfl) ?_
                simp only [Act.put, List.setIfInBounds_toArray, List.set_cons_zero, List.set_cons_succ]
                refine wpLate_done (by kernel_rfl) ?_ _
                go_wp2_with fail
                go_meet
                exact ⟨gc, gj, p7, q7, rfl, rfl, rfl, hcj, gc0, gj0, cf15, jf15, ic, oc, bw⟩
              · skip
                refine oper_ran (v := .pointer (some ⟨U11.heap.size, 0, none⟩)) (w' := U11.alloc (.cells #[.int .u64 0, .int .i64 0] 72)) (by go_simp) ?_
                show K (Act.put _ (some 18) _) _
                have sf16 := sf11.alloc sf11.size (.cells #[.int .u64 0, .int .i64 0] 72)
                have gj0 : w6.heap.size ≤ U11.heap.size := sf11.size
                have jf16 := Blk.new U11 72 #[.int .u64 0, .int .i64 0]
                have hcj : gc ≠ U11.heap.size := Nat.ne_of_lt cf11.lt
                have cf16 := cf11.alloc (.cells #[.int .u64 0, .int .i64 0] 72)
                refine hK _ _ (fun _ _ => sf16) ?_
                generalize U11.alloc (.cells #[.int .u64 0, .int .i64 0] 72) = U16 at sf16 jf16 cf16 ⊢
                generalize U11.heap.size = gj at gj0 jf16 hcj ⊢
                simp only [Act.put, List.setIfInBounds_toArray, List.set_cons_zero, List.set_cons_succ]
                refine wpLate_one (i := 6) (by kernel_rfl) rfl rfl (fun K hK => ?_)
                refine oper_call (f := 38) (args := #[dval DA p1 q1, jval ⟨s1, t1⟩, pval M ⟨C1, c1⟩ ⟨C2, c2⟩]) (w' := U16) (by go_simp) ((hco2 U16 sf16).mono ?_)
                rintro e U17 ⟨⟨p7, q7, rfl, ic, o7⟩, hb⟩
                refine ⟨_, rfl, ?_⟩
                show K (Act.put _ (some 93) _) _
                have sf17 := bt sf16 hb
                have cf17 := cf16.below hb cf16.lt
                have oc : DkOff gc C0 p7 q7 := o7 gc cf16.lt (hap1.out gc gc0)
                have jf17 := jf16.below hb jf16.lt
                have oj : DkOff gj C0 p7 q7 := o7 gj jf16.lt (hap1.out gj gj0)
                clear o7 hb
                refine hK _ _ (fun _ _ => sf17) ?_
                simp only [Act.put, List.setIfInBounds_toArray, List.set_cons_zero, List.set_cons_succ]
                refine wpLate_take0 (i := 7) (oi := _) (v := .tuple #[dval C0 p7 q7, jval ⟨s7, t7⟩, .int .i64 f7]) (d := some 86) rfl rfl (by kernel_rfl) (by kernel_rfl) (by kernel_rfl) (fun _ _ _ h => h) rfl (fun W => by rfl) ?_
                simp only [Act.put, List.setIfInBounds_toArray, List.set_cons_zero, List.set_cons_succ]
                refine wpLate_take0 (i := 8) (oi := _) (v := dval C0 p7 q7) (d := some 94) rfl rfl (by kernel_rfl) (by kernel_rfl) (by kernel_rfl) (fun _ _ _ h => h) rfl (fun W => by rfl) ?_
                simp only [Act.put, List.setIfInBounds_toArray, List.set_cons_zero, List.set_cons_succ]
                refine wpLate_take0 (i := 9) (oi := _) (v := jval ⟨s7, t7⟩) (d := some 95) rfl rfl (by kernel_rfl) (by kernel_rfl) (by kernel_rfl) (fun _ _ _ h => h) rfl (fun W => by rfl) ?_
                simp only [Act.put, List.setIfInBounds_toArray, List.set_cons_zero, List.set_cons_succ]
                refine wpLate_take0 (i := 10) (oi := _) (v := .int .i64 f7) (d := some 96) rfl rfl (by kernel_rfl) (by kernel_rfl) (by kernel_rfl) (fun _ _ _ h => h) rfl (fun W => by rfl) ?_
                simp only [Act.put, List.setIfInBounds_toArray, List.set_cons_zero, List.set_cons_succ]
                refine wpLate_one (i := 13) (by kernel_rfl) rfl rfl (fun K hK => ?_)
                refine oper_skip (w' := (((((U17.setCell ⟨gc, 0, none⟩ (.string (bs C0.data))).setCell ⟨gc, 1, none⟩ (.slice p7.a C0.cache.length p7.c)).setCell ⟨gc, 2, none⟩ (.int .i64 C0.fuse)).setCell ⟨gc, 3, none⟩ (.bool C0.off)).setCell ⟨gc, 4, none⟩ (.slice q7.a C0.bad.length q7.c))) (by have u0 := blk5 cf17; have uf := cf17.frozen; have q1_ := cf17.set 0 (.string (bs C0.data)); have f1_ := q1_.frozen; have k1_ := blk5 q1_; have q2_ := q1_.set 1 (.slice p7.a C0.cache.length p7.c); have f2_ := q2_.frozen; have k2_ := blk5 q2_; have q3_ := q2_.set 2 (.int .i64 C0.fuse); have f3_ := q3_.frozen; have k3_ := blk5 q3_; have q4_ := q3_.set 3 (.bool C0.off); have f4_ := q4_.frozen; have k4_ := blk5 q4_; go_simp) ?_
                show K (Act.put _ none _) _
                have cf18 := blk_set5 cf17 (.string (bs C0.data)) (.slice p7.a C0.cache.length p7.c) (.int .i64 C0.fuse) (.bool C0.off) (.slice q7.a C0.bad.length q7.c)
                have jf18 := blk_off5 jf17 (g := gc) hcj.symm (.string (bs C0.data)) (.slice p7.a C0.cache.length p7.c) (.int .i64 C0.fuse) (.bool C0.off) (.slice q7.a C0.bad.length q7.c)
                have sf18 := below_set5 sf17 (g := gc) gc0 (.string (bs C0.data)) (.slice p7.a C0.cache.length p7.c) (.int .i64 C0.fuse) (.bool C0.off) (.slice q7.a C0.bad.length q7.c)
                replace ic := ic.off5 oc (.string (bs C0.data)) (.slice p7.a C0.cache.length p7.c) (.int .i64 C0.fuse) (.bool C0.off) (.slice q7.a C0.bad.length q7.c)
                refine hK _ _ (fun _ _ => sf18) ?_
                generalize (((((U17.setCell ⟨gc, 0, none⟩ (.string (bs C0.data))).setCell ⟨gc, 1, none⟩ (.slice p7.a C0.cache.length p7.c)).setCell ⟨gc, 2, none⟩ (.int .i64 C0.fuse)).setCell ⟨gc, 3, none⟩ (.bool C0.off)).setCell ⟨gc, 4, none⟩ (.slice q7.a C0.bad.length q7.c)) = U18 at cf18 jf18 sf18 ic ⊢
                try simp only [Act.put, List.setIfInBounds_toArray, List.set_cons_zero, List.set_cons_succ]
                refine wpLate_one (i := 14) (by kernel_rfl) rfl rfl (fun K hK => ?_)
                refine oper_skip (w' := (U18.setCell ⟨gj, 0, none⟩ (.int .u64 s7)).setCell ⟨gj, 1, none⟩ (.int .i64 t7)) (by have u0 := blk2 jf18; have uf := jf18.frozen; have qq := jf18.set 0 (.int .u64 s7); have uf2 := qq.frozen; have u1 := blk2 qq; go_simp) ?_
                show K (Act.put _ none _) _
                have jf19 := blk_set2 jf18 (.int .u64 s7) (.int .i64 t7)
                have cf19 := blk_off2 cf18 (g := gj) hcj (.int .u64 s7) (.int .i64 t7)
                have bw := below_set2 sf18 (g := gj) gj0 (.int .u64 s7) (.int .i64 t7)
                replace ic := ic.off2 oj (.int .u64 s7) (.int .i64 t7)
                refine hK _ _ (fun _ _ => bw) ?_
                try simp only [Act.put, List.setIfInBounds_toArray, List.set_cons_zero, List.set_cons_succ]
                refine wpLate_take0 (i := 15) (oi := _) (v := .int .i64 f7) (d := some 19) rfl rfl (by kernel_rfl) (by kernel_rfl) (by kernel_rfl) (fun _ _ _ h => h) rfl (fun W => by rfl) ?_
                simp only [Act.put, List.setIfInBounds_toArray, List.set_cons_zero, List.set_cons_succ]
                refine wpLate_done (by kernel_rfl) ?_ _
                go_wp2_with fail
                go_meet
                exact ⟨gc, gj, p7, q7, rfl, rfl, rfl, hcj, gc0, gj0, cf19, jf19, ic, oc, bw⟩
            · skip
              refine oper_ran (v := .pointer (some ⟨U1.heap.size, 0, none⟩)) (w' := U1.alloc (.cells #[.int .u64 0, .int .i64 0] 72)) (by go_simp) ?_
              show K (Act.put _ (some 18) _) _
              have sf20 := sf1.alloc sf1.size (.cells #[.int .u64 0, .int .i64 0] 72)
              have gj0 : w6.heap.size ≤ U1.heap.size := sf1.size
              have jf20 := Blk.new U1 72 #[.int .u64 0, .int .i64 0]
              refine hK _ _ (fun _ _ => sf20) ?_
              generalize U1.alloc (.cells #[.int .u64 0, .int .i64 0] 72) = U20 at sf20 jf20 ⊢
              generalize U1.heap.size = gj at gj0 jf20 ⊢
              simp only [Act.put, List.setIfInBounds_toArray, List.set_cons_zero, List.set_cons_succ]
              refine wpLate_two (i := 6) (k := 11) (by kernel_rfl) rfl rfl rfl rfl (fun K hK => ?_) (fun K hK => ?_)
              · skip
                refine oper_call (f := 38) (args := #[dval DA p1 q1, jval ⟨s1, t1⟩, pval M ⟨C1, c1⟩ ⟨C2, c2⟩]) (w' := U20) (by go_simp) ((hco2 U20 sf20).mono ?_)
                rintro e U21 ⟨⟨p7, q7, rfl, ic, o7⟩, hb⟩
                refine ⟨_, rfl, ?_⟩
                show K (Act.put _ (some 93) _) _
                have sf21 := bt sf20 hb
                have jf21 := jf20.below hb jf20.lt
                have oj : DkOff gj C0 p7 q7 := o7 gj jf20.lt (hap1.out gj gj0)
                clear o7 hb
                refine hK _ _ (fun _ _ => sf21) ?_
                simp only [Act.put, List.setIfInBounds_toArray, List.set_cons_zero, List.set_cons_succ]
                refine wpLate_take0 (i := 7) (oi := _) (v := .tuple #[dval C0 p7 q7, jval ⟨s7, t7⟩, .int .i64 f7]) (d := some 86) rfl rfl (by kernel_rfl) (by kernel_rfl) (by kernel_rfl) (fun _ _ _ h => h) rfl (fun W => by rfl) ?_
                simp only [Act.put, List.setIfInBounds_toArray, List.set_cons_zero, List.set_cons_succ]
                refine wpLate_take0 (i := 8) (oi := _) (v := dval C0 p7 q7) (d := some 94) rfl rfl (by kernel_rfl) (by kernel_rfl) (by kernel_rfl) (fun _ _ _ h => h) rfl (fun W => by rfl) ?_
                simp only [Act.put, List.setIfInBounds_toArray, List.set_cons_zero, List.set_cons_succ]
                refine wpLate_take0 (i := 9) (oi := _) (v := jval ⟨s7, t7⟩) (d := some 95) rfl rfl (by kernel_rfl) (by kernel_rfl) (by kernel_rfl) (fun _ _ _ h => h) rfl (fun W => by rfl) ?_
                simp only [Act.put, List.setIfInBounds_toArray, List.set_cons_zero, List.set_cons_succ]
                refine wpLate_take0 (i := 10) (oi := _) (v := .int .i64 f7) (d := some 96) rfl rfl (by kernel_rfl) (by kernel_rfl) (by kernel_rfl) (fun _ _ _ h => h) rfl (fun W => by rfl) ?_
                simp only [Act.put, List.setIfInBounds_toArray, List.set_cons_zero, List.set_cons_succ]
                refine wpLate_one (i := 11) (by kernel_rfl) rfl rfl (fun K hK => ?_)
                refine oper_ran (v := .pointer (some ⟨U21.heap.size, 0, none⟩)) (w' := U21.alloc (.cells #[.string (bs []), .slice none 0 0, .int .i64 0, .bool false, .slice none 0 0] 25)) (by go_simp) ?_
                show K (Act.put _ (some 17) _) _
                have sf22 := sf21.alloc sf21.size (.cells #[.string (bs []), .slice none 0 0, .int .i64 0, .bool false, .slice none 0 0] 25)
                have gc0 : w6.heap.size ≤ U21.heap.size := sf21.size
                have cf22 := Blk.new U21 25 #[.string (bs []), .slice none 0 0, .int .i64 0, .bool false, .slice none 0 0]
                have hcj : U21.heap.size ≠ gj := Nat.ne_of_gt jf21.lt
                have jf22 := jf21.alloc (.cells #[.string (bs []), .slice none 0 0, .int .i64 0, .bool false, .slice none 0 0] 25)
                have oc : DkOff U21.heap.size C0 p7 q7 := ic.apart (Nat.le_refl _)
                replace ic := ic.below ((Below.refl U21.heap.size U21).alloc (Nat.le_refl _) (.cells #[.string (bs []), .slice none 0 0, .int .i64 0, .bool false, .slice none 0 0] 25))
                refine hK _ _ (fun _ _ => sf22) ?_
                generalize U21.alloc (.cells #[.string (bs []), .slice none 0 0, .int .i64 0, .bool false, .slice none 0 0] 25) = U22 at sf22 cf22 jf22 ic ⊢
                generalize U21.heap.size = gc at gc0 cf22 hcj oc ⊢
                simp only [Act.put, List.setIfInBounds_toArray, List.set_cons_zero, List.set_cons_succ]
                refine wpLate_one (i := 13) (by kernel_rfl) rfl rfl (fun K hK => ?_)
                refine oper_skip (w' := (((((U22.setCell ⟨gc, 0, none⟩ (.string (bs C0.data))).setCell ⟨gc, 1, none⟩ (.slice p7.a C0.cache.length p7.c)).setCell ⟨gc, 2, none⟩ (.int .i64 C0.fuse)).setCell ⟨gc, 3, none⟩ (.bool C0.off)).setCell ⟨gc, 4, none⟩ (.slice q7.a C0.bad.length q7.c))) (by have u0 := blk5 cf22; have uf := cf22.frozen; have q1_ := cf22.set 0 (.string (bs C0.data)); have f1_ := q1_.frozen; have k1_ := blk5 q1_; have q2_ := q1_.set 1 (.slice p7.a C0.cache.length p7.c); have f2_ := q2_.frozen; have k2_ := blk5 q2_; have q3_ := q2_.set 2 (.int .i64 C0.fuse); have f3_ := q3_.frozen; have k3_ := blk5 q3_; have q4_ := q3_.set 3 (.bool C0.off); have f4_ := q4_.frozen; have k4_ := blk5 q4_; go_simp) ?_
                show K (Act.put _ none _) _
                have cf23 := blk_set5 cf22 (.string (bs C0.data)) (.slice p7.a C0.cache.length p7.c) (.int .i64 C0.fuse) (.bool C0.off) (.slice q7.a C0.bad.length q7.c)
                have jf23 := blk_off5 jf22 (g := gc) hcj.symm (.string (bs C0.data)) (.slice p7.a C0.cache.length p7.c) (.int .i64 C0.fuse) (.bool C0.off) (.slice q7.a C0.bad.length q7.c)
                have sf23 := below_set5 sf22 (g := gc) gc0 (.string (bs C0.data)) (.slice p7.a C0.cache.length p7.c) (.int .i64 C0.fuse) (.bool C0.off) (.slice q7.a C0.bad.length q7.c)
                replace ic := ic.off5 oc (.string (bs C0.data)) (.slice p7.a C0.cache.length p7.c) (.int .i64 C0.fuse) (.bool C0.off) (.slice q7.a C0.bad.length q7.c)
                refine hK _ _ (fun _ _ => sf23) ?_
                generalize (((((U22.setCell ⟨gc, 0, none⟩ (.string (bs C0.data))).setCell ⟨gc, 1, none⟩ (.slice p7.a C0.cache.length p7.c)).setCell ⟨gc, 2, none⟩ (.int .i64 C0.fuse)).setCell ⟨gc, 3, none⟩ (.bool C0.off)).setCell ⟨gc, 4, none⟩ (.slice q7.a C0.bad.length q7.c)) = U23 at cf23 jf23 sf23 ic ⊢
                try simp only [Act.put, List.setIfInBounds_toArray, List.set_cons_zero, List.set_cons_succ]
                refine wpLate_one (i := 14) (by kernel_rfl) rfl rfl (fun K hK => ?_)
                refine oper_skip (w' := (U23.setCell ⟨gj, 0, none⟩ (.int .u64 s7)).setCell ⟨gj, 1, none⟩ (.int .i64 t7)) (by have u0 := blk2 jf23; have uf := jf23.frozen; have qq := jf23.set 0 (.int .u64 s7); have uf2 := qq.frozen; have u1 := blk2 qq; go_simp) ?_
                show K (Act.put _ none _) _
                have jf24 := blk_set2 jf23 (.int .u64 s7) (.int .i64 t7)
                have cf24 := blk_off2 cf23 (g := gj) hcj (.int .u64 s7) (.int .i64 t7)
                have bw := below_set2 sf23 (g := gj) gj0 (.int .u64 s7) (.int .i64 t7)
                replace ic := ic.off2 oj (.int .u64 s7) (.int .i64 t7)
                refine hK _ _ (fun _ _ => bw) ?_
                try simp only [Act.put, List.setIfInBounds_toArray, List.set_cons_zero, List.set_cons_succ]
                refine wpLate_take0 (i := 15) (oi := _) (v := .int .i64 f7) (d := some 19) rfl rfl (by kernel_rfl) (by kernel_rfl) (by kernel_rfl) (fun _ _ _ h => h) rfl (fun W => by rfl) ?_
                simp only [Act.put, List.setIfInBounds_toArray, List.set_cons_zero, List.set_cons_succ]
                refine wpLate_done (by kernel_rfl) ?_ _
                go_wp2_with fail
                go_meet
                exact ⟨gc, gj, p7, q7, rfl, rfl, rfl, hcj, gc0, gj0, cf24, jf24, ic, oc, bw⟩
              · skip
                refine oper_ran (v := .pointer (some ⟨U20.heap.size, 0, none⟩)) (w' := U20.alloc (.cells #[.string (bs []), .slice none 0 0, .int .i64 0, .bool false, .slice none 0 0] 25)) (by go_simp) ?_
                show K (Act.put _ (some 17) _) _
                have sf25 := sf20.alloc sf20.size (.cells #[.string (bs []), .slice none 0 0, .int .i64 0, .bool false, .slice none 0 0] 25)
                have gc0 : w6.heap.size ≤ U20.heap.size := sf20.size
                have cf25 := Blk.new U20 25 #[.string (bs []), .slice none 0 0, .int .i64 0, .bool false, .slice none 0 0]
                have hcj : U20.heap.size ≠ gj := Nat.ne_of_gt jf20.lt
                have jf25 := jf20.alloc (.cells #[.string (bs []), .slice none 0 0, .int .i64 0, .bool false, .slice none 0 0] 25)
                refine hK _ _ (fun _ _ => sf25) ?_
                generalize U20.alloc (.cells #[.string (bs []), .slice none 0 0, .int .i64 0, .bool false, .slice none 0 0] 25) = U25 at sf25 cf25 jf25 ⊢
                generalize U20.heap.size = gc at gc0 cf25 hcj ⊢
                simp only [Act.put, List.setIfInBounds_toArray, List.set_cons_zero, List.set_cons_succ]
                refine wpLate_one (i := 6) (by kernel_rfl) rfl rfl (fun K hK => ?_)
                refine oper_call (f := 38) (args := #[dval DA p1 q1, jval ⟨s1, t1⟩, pval M ⟨C1, c1⟩ ⟨C2, c2⟩]) (w' := U25) (by go_simp) ((hco2 U25 sf25).mono ?_)
                rintro e U26 ⟨⟨p7, q7, rfl, ic, o7⟩, hb⟩
                refine ⟨_, rfl, ?_⟩
                show K (Act.put _ (some 93) _) _
                have sf26 := bt sf25 hb
                have cf26 := cf25.below hb cf25.lt
                have oc : DkOff gc C0 p7 q7 := o7 gc cf25.lt (hap1.out gc gc0)
                have jf26 := jf25.below hb jf25.lt
                have oj : DkOff gj C0 p7 q7 := o7 gj jf25.lt (hap1.out gj gj0)
                clear o7 hb
                refine hK _ _ (fun _ _ => sf26) ?_
                simp only [Act.put, List.setIfInBounds_toArray, List.set_cons_zero, List.set_cons_succ]
                refine wpLate_take0 (i := 7) (oi := _) (v := .tuple #[dval C0 p7 q7, jval ⟨s7, t7⟩, .int .i64 f7]) (d := some 86) rfl rfl (by kernel_rfl) (by kernel_rfl) (by kernel_rfl) (fun _ _ _ h => h) rfl (fun W => by rfl) ?_
                simp only [Act.put, List.setIfInBounds_toArray, List.set_cons_zero, List.set_cons_succ]
                refine wpLate_take0 (i := 8) (oi := _) (v := dval C0 p7 q7) (d := some 94) rfl rfl (by kernel_rfl) (by kernel_rfl) (by kernel_rfl) (fun _ _ _ h => h) rfl (fun W => by rfl) ?_
                simp only [Act.put, List.setIfInBounds_toArray, List.set_cons_zero, List.set_cons_succ]
                refine wpLate_take0 (i := 9) (oi := _) (v := jval ⟨s7, t7⟩) (d := some 95) rfl rfl (by kernel_rfl) (by kernel_rfl) (by kernel_rfl) (fun _ _ _ h => h) rfl (fun W => by rfl) ?_
                simp only [Act.put, List.setIfInBounds_toArray, List.set_cons_zero, List.set_cons_succ]
                refine wpLate_take0 (i := 10) (oi := _) (v := .int .i64 f7) (d := some 96) rfl rfl (by kernel_rfl) (by kernel_rfl) (by kernel_rfl) (fun _ _ _ h => h) rfl (fun W => by rfl) ?_
                simp only [Act.put, List.setIfInBounds_toArray, List.set_cons_zero, List.set_cons_succ]
                refine wpLate_one (i := 13) (by kernel_rfl) rfl rfl (fun K hK => ?_)
                refine oper_skip (w' := (((((U26.setCell ⟨gc, 0, none⟩ (.string (bs C0.data))).setCell ⟨gc, 1, none⟩ (.slice p7.a C0.cache.length p7.c)).setCell ⟨gc, 2, none⟩ (.int .i64 C0.fuse)).setCell ⟨gc, 3, none⟩ (.bool C0.off)).setCell ⟨gc, 4, none⟩ (.slice q7.a C0.bad.length q7.c))) (by have u0 := blk5 cf26; have uf := cf26.frozen; have q1_ := cf26.set 0 (.string (bs C0.data)); have f1_ := q1_.frozen; have k1_ := blk5 q1_; have q2_ := q1_.set 1 (.slice p7.a C0.cache.length p7.c); have f2_ := q2_.frozen; have k2_ := blk5 q2_; have q3_ := q2_.set 2 (.int .i64 C0.fuse); have f3_ := q3_.frozen; have k3_ := blk5 q3_; have q4_ := q3_.set 3 (.bool C0.off); have f4_ := q4_.frozen; have k4_ := blk5 q4_; go_simp) ?_
                show K (Act.put _ none _) _
                have cf27 := blk_set5 cf26 (.string (bs C0.data)) (.slice p7.a C0.cache.length p7.c) (.int .i64 C0.fuse) (.bool C0.off) (.slice q7.a C0.bad.length q7.c)
                have jf27 := blk_off5 jf26 (g := gc) hcj.symm (.string (bs C0.data)) (.slice p7.a C0.cache.length p7.c) (.int .i64 C0.fuse) (.bool C0.off) (.slice q7.a C0.bad.length q7.c)
                have sf27 := below_set5 sf26 (g := gc) gc0 (.string (bs C0.data)) (.slice p7.a C0.cache.length p7.c) (.int .i64 C0.fuse) (.bool C0.off) (.slice q7.a C0.bad.length q7.c)
                replace ic := ic.off5 oc (.string (bs C0.data)) (.slice p7.a C0.cache.length p7.c) (.int .i64 C0.fuse) (.bool C0.off) (.slice q7.a C0.bad.length q7.c)
                refine hK _ _ (fun _ _ => sf27) ?_
                generalize (((((U26.setCell ⟨gc, 0, none⟩ (.string (bs C0.data))).setCell ⟨gc, 1, none⟩ (.slice p7.a C0.cache.length p7.c)).setCell ⟨gc, 2, none⟩ (.int .i64 C0.fuse)).setCell ⟨gc, 3, none⟩ (.bool C0.off)).setCell ⟨gc, 4, none⟩ (.slice q7.a C0.bad.length q7.c)) = U27 at cf27 jf27 sf27 ic ⊢
                try simp only [Act.put, List.setIfInBounds_toArray, List.set_cons_zero, List.set_cons_succ]
                refine wpLate_one (i := 14) (by kernel_rfl) rfl rfl (fun K hK => ?_)
                refine oper_skip (w' := (U27.setCell ⟨gj, 0, none⟩ (.int .u64 s7)).setCell ⟨gj, 1, none⟩ (.int .i64 t7)) (by have u0 := blk2 jf27; have uf := jf27.frozen; have qq := jf27.set 0 (.int .u64 s7); have uf2 := qq.frozen; have u1 := blk2 qq; go_simp) ?_
                show K (Act.put _ none _) _
                have jf28 := blk_set2 jf27 (.int .u64 s7) (.int .i64 t7)
                have cf28 := blk_off2 cf27 (g := gj) hcj (.int .u64 s7) (.int .i64 t7)
                have bw := below_set2 sf27 (g := gj) gj0 (.int .u64 s7) (.int .i64 t7)
                replace ic := ic.off2 oj (.int .u64 s7) (.int .i64 t7)
                refine hK _ _ (fun _ _ => bw) ?_
                try simp only [Act.put, List.setIfInBounds_toArray, List.set_cons_zero, List.set_cons_succ]
                refine wpLate_take0 (i := 15) (oi := _) (v := .int .i64 f7) (d := some 19) rfl rfl (by kernel_rfl) (by kernel_rfl) (by kernel_rfl) (fun _ _ _ h => h) rfl (fun W => by rfl) ?_
                simp only [Act.put, List.setIfInBounds_toArray, List.set_cons_zero, List.set_cons_succ]
                refine wpLate_done (by kernel_rfl) ?_ _
                go_wp2_with fail
                go_meet
                exact ⟨gc, gj, p7, q7, rfl, rfl, rfl, hcj, gc0, gj0, cf28, jf28, ic, oc, bw⟩
          · skip
            refine oper_ran (v := .pointer (some ⟨U0.heap.size, 0, none⟩)) (w' := U0.alloc (.cells #[.string (bs []), .slice none 0 0, .int .i64 0, .bool false, .slice none 0 0] 25)) (by go_simp) ?_
            show K (Act.put _ (some 17) _) _
            have sf29 := s0.alloc s0.size (.cells #[.string (bs []), .slice none 0 0, .int .i64 0, .bool false, .slice none 0 0] 25)
            have gc0 : w6.heap.size ≤ U0.heap.size := s0.size
            have cf29 := Blk.new U0 25 #[.string (bs []), .slice none 0 0, .int .i64 0, .bool false, .slice none 0 0]
            refine hK _ _ (fun _ _ => sf29) ?_
            generalize U0.alloc (.cells #[.string (bs []), .slice none 0 0, .int .i64 0, .bool false, .slice none 0 0] 25) = U29 at sf29 cf29 ⊢
            generalize U0.heap.size = gc at gc0 cf29 ⊢
            simp only [Act.put, List.setIfInBounds_toArray, List.set_cons_zero, List.set_cons_succ]
            refine wpLate_two (i := 3) (k := 12) (by kernel_rfl) rfl rfl rfl rfl (fun K hK => ?_) (fun K hK => ?_)
            · skip
              refine oper_call (f := 47) (args := #[dval D1 p1 q1, .int .i64 nn]) (w' := U29) (by go_simp) ((harm U29 sf29).mono ?_)
              rintro e U30 ⟨⟨rfl, ia⟩, hb⟩
              refine ⟨_, rfl, ?_⟩
              show K (Act.put _ (some 90) _) _
              have sf30 := bt sf29 hb
              have cf30 := cf29.below hb cf29.lt
              clear ia hb
              refine hK _ _ (fun _ _ => sf30) ?_
              simp only [Act.put, List.setIfInBounds_toArray, List.set_cons_zero, List.set_cons_succ]
              refine wpLate_two (i := 6) (k := 12) (by kernel_rfl) rfl rfl rfl rfl (fun K hK => ?_) (fun K hK => ?_)
              · skip
                refine oper_call (f := 38) (args := #[dval DA p1 q1, jval ⟨s1, t1⟩, pval M ⟨C1, c1⟩ ⟨C2, c2⟩]) (w' := U30) (by go_simp) ((hco2 U30 sf30).mono ?_)
                rintro e U31 ⟨⟨p7, q7, rfl, ic, o7⟩, hb⟩
                refine ⟨_, rfl, ?_⟩
                show K (Act.put _ (some 93) _) _
                have sf31 := bt sf30 hb
                have cf31 := cf30.below hb cf30.lt
                have oc : DkOff gc C0 p7 q7 := o7 gc cf30.lt (hap1.out gc gc0)
                clear o7 hb
                refine hK _ _ (fun _ _ => sf31) ?_
                simp only [Act.put, List.setIfInBounds_toArray, List.set_cons_zero, List.set_cons_succ]
                refine wpLate_take0 (i := 7) (oi := _) (v := .tuple #[dval C0 p7 q7, jval ⟨s7, t7⟩, .int .i64 f7]) (d := some 86) rfl rfl (by kernel_rfl) (by kernel_rfl) (by kernel_rfl) (fun _ _ _ h => h) rfl (fun W => by rfl) ?_
                simp only [Act.put, List.setIfInBounds_toArray, List.set_cons_zero, List.set_cons_succ]
                refine wpLate_take0 (i := 8) (oi := _) (v := dval C0 p7 q7) (d := some 94) rfl rfl (by kernel_rfl) (by kernel_rfl) (by kernel_rfl) (fun _ _ _ h => h) rfl (fun W => by rfl) ?_
                simp only [Act.put, List.setIfInBounds_toArray, List.set_cons_zero, List.set_cons_succ]
                refine wpLate_take0 (i := 9) (oi := _) (v := jval ⟨s7, t7⟩) (d := some 95) rfl rfl (by kernel_rfl) (by kernel_rfl) (by kernel_rfl) (fun _ _ _ h => h) rfl (fun W => by rfl) ?_
                simp only [Act.put, List.setIfInBounds_toArray, List.set_cons_zero, List.set_cons_succ]
                refine wpLate_take0 (i := 10) (oi := _) (v := .int .i64 f7) (d := some 96) rfl rfl (by kernel_rfl) (by kernel_rfl) (by kernel_rfl) (fun _ _ _ h => h) rfl (fun W => by rfl) ?_
                simp only [Act.put, List.setIfInBounds_toArray, List.set_cons_zero, List.set_cons_succ]
                refine wpLate_one (i := 12) (by kernel_rfl) rfl rfl (fun K hK => ?_)
                refine oper_ran (v := .pointer (some ⟨U31.heap.size, 0, none⟩)) (w' := U31.alloc (.cells #[.int .u64 0, .int .i64 0] 72)) (by go_simp) ?_
                show K (Act.put _ (some 18) _) _
                have sf32 := sf31.alloc sf31.size (.cells #[.int .u64 0, .int .i64 0] 72)
                have gj0 : w6.heap.size ≤ U31.heap.size := sf31.size
                have jf32 := Blk.new U31 72 #[.int .u64 0, .int .i64 0]
                have hcj : gc ≠ U31.heap.size := Nat.ne_of_lt cf31.lt
                have cf32 := cf31.alloc (.cells #[.int .u64 0, .int .i64 0] 72)
                have oj : DkOff U31.heap.size C0 p7 q7 := ic.apart (Nat.le_refl _)
                replace ic := ic.below ((Below.refl U31.heap.size U31).alloc (Nat.le_refl _) (.cells #[.int .u64 0, .int .i64 0] 72))
                refine hK _ _ (fun _ _ => sf32) ?_
                generalize U31.alloc (.cells #[.int .u64 0, .int .i64 0] 72) = U32 at sf32 jf32 cf32 ic ⊢
                generalize U31.heap.size = gj at gj0 jf32 hcj oj ⊢
                simp only [Act.put, List.setIfInBounds_toArray, List.set_cons_zero, List.set_cons_succ]
                refine wpLate_one (i := 13) (by kernel_rfl) rfl rfl (fun K hK => ?_)
                refine oper_skip (w' := (((((U32.setCell ⟨gc, 0, none⟩ (.string (bs C0.data))).setCell ⟨gc, 1, none⟩ (.slice p7.a C0.cache.length p7.c)).setCell ⟨gc, 2, none⟩ (.int .i64 C0.fuse)).setCell ⟨gc, 3, none⟩ (.bool C0.off)).setCell ⟨gc, 4, none⟩ (.slice q7.a C0.bad.length q7.c))) (by have u0 := blk5 cf32; have uf := cf32.frozen; have q1_ := cf32.set 0 (.string (bs C0.data)); have f1_ := q1_.frozen; have k1_ := blk5 q1_; have q2_ := q1_.set 1 (.slice p7.a C0.cache.length p7.c); have f2_ := q2_.frozen; have k2_ := blk5 q2_; have q3_ := q2_.set 2 (.int .i64 C0.fuse); have f3_ := q3_.frozen; have k3_ := blk5 q3_; have q4_ := q3_.set 3 (.bool C0.off); have f4_ := q4_.frozen; have k4_ := blk5 q4_; go_simp) ?_
                show K (Act.put _ none _) _
                have cf33 := blk_set5 cf32 (.string (bs C0.data)) (.slice p7.a C0.cache.length p7.c) (.int .i64 C0.fuse) (.bool C0.off) (.slice q7.a C0.bad.length q7.c)
                have jf33 := blk_off5 jf32 (g := gc) hcj.symm (.string (bs C0.data)) (.slice p7.a C0.cache.length p7.c) (.int .i64 C0.fuse) (.bool C0.off) (.slice q7.a C0.bad.length q7.c)
                have sf33 := below_set5 sf32 (g := gc) gc0 (.string (bs C0.data)) (.slice p7.a C0.cache.length p7.c) (.int .i64 C0.fuse) (.bool C0.off) (.slice q7.a C0.bad.length q7.c)
                replace ic := ic.off5 oc (.string (bs C0.data)) (.slice p7.a C0.cache.length p7.c) (.int .i64 C0.fuse) (.bool C0.off) (.slice q7.a C0.bad.length q7.c)
                refine hK _ _ (fun _ _ => sf33) ?_
                generalize (((((U32.setCell ⟨gc, 0, none⟩ (.string (bs C0.data))).setCell ⟨gc, 1, none⟩ (.slice p7.a C0.cache.length p7.c)).setCell ⟨gc, 2, none⟩ (.int .i64 C0.fuse)).setCell ⟨gc, 3, none⟩ (.bool C0.off)).setCell ⟨gc, 4, none⟩ (.slice q7.a C0.bad.length q7.c)) = U33 at cf33 jf33 sf33 ic ⊢
                try simp only [Act.put, List.setIfInBounds_toArray, List.set_cons_zero, List.set_cons_succ]
                refine wpLate_one (i := 14) (by kernel_rfl) rfl rfl (fun K hK => ?_)
                refine oper_skip (w' := (U33.setCell ⟨gj, 0, none⟩ (.int .u64 s7)).setCell ⟨gj, 1, none⟩ (.int .i64 t7)) (by have u0 := blk2 jf33; have uf := jf33.frozen; have qq := jf33.set 0 (.int .u64 s7); have uf2 := qq.frozen; have u1 := blk2 qq; go_simp) ?_
                show K (Act.put _ none _) _
                have jf34 := blk_set2 jf33 (.int .u64 s7) (.int .i64 t7)
                have cf34 := blk_off2 cf33 (g := gj) hcj (.int .u64 s7) (.int .i64 t7)
                have bw := below_set2 sf33 (g := gj) gj0 (.int .u64 s7) (.int .i64 t7)
                replace ic := ic.off2 oj (.int .u64 s7) (.int .i64 t7)
                refine hK _ _ (fun _ _ => bw) ?_
                try simp only [Act.put, List.setIfInBounds_toArray, List.set_cons_zero, List.set_cons_succ]
                refine wpLate_take0 (i := 15) (oi := _) (v := .int .i64 f7) (d := some 19) rfl rfl (by kernel_rfl) (by kernel_rfl) (by kernel_rfl) (fun _ _ _ h => h) rfl (fun W => by rfl) ?_
                simp only [Act.put, List.setIfInBounds_toArray, List.set_cons_zero, List.set_cons_succ]
                refine wpLate_done (by kernel_rfl) ?_ _
                go_wp2_with fail
                go_meet
                exact ⟨gc, gj, p7, q7, rfl, rfl, rfl, hcj, gc0, gj0, cf34, jf34, ic, oc, bw⟩
              · skip
                refine oper_ran (v := .pointer (some ⟨U30.heap.size, 0, none⟩)) (w' := U30.alloc (.cells #[.int .u64 0, .int .i64 0] 72)) (by go_simp) ?_
                show K (Act.put _ (some 18) _) _
                have sf35 := sf30.alloc sf30.size (.cells #[.int .u64 0, .int .i64 0] 72)
                have gj0 : w6.heap.size ≤ U30.heap.size := sf30.size
                have jf35 := Blk.new U30 72 #[.int .u64 0, .int .i64 0]
                have hcj : gc ≠ U30.heap.size := Nat.ne_of_lt cf30.lt
                have cf35 := cf30.alloc (.cells #[.int .u64 0, .int .i64 0] 72)
                refine hK _ _ (fun _ _ => sf35) ?_
                generalize U30.alloc (.cells #[.int .u64 0, .int .i64 0] 72) = U35 at sf35 jf35 cf35 ⊢
                generalize U30.heap.size = gj at gj0 jf35 hcj ⊢
                simp only [Act.put, List.setIfInBounds_toArray, List.set_cons_zero, List.set_cons_succ]
                refine wpLate_one (i := 6) (by kernel_rfl) rfl rfl (fun K hK => ?_)
                refine oper_call (f := 38) (args := #[dval DA p1 q1, jval ⟨s1, t1⟩, pval M ⟨C1, c1⟩ ⟨C2, c2⟩]) (w' := U35) (by go_simp) ((hco2 U35 sf35).mono ?_)
                rintro e U36 ⟨⟨p7, q7, rfl, ic, o7⟩, hb⟩
                refine ⟨_, rfl, ?_⟩
                show K (Act.put _ (some 93) _) _
                have sf36 := bt sf35 hb
                have cf36 := cf35.below hb cf35.lt
                have oc : DkOff gc C0 p7 q7 := o7 gc cf35.lt (hap1.out gc gc0)
                have jf36 := jf35.below hb jf35.lt
                have oj : DkOff gj C0 p7 q7 := o7 gj jf35.lt (hap1.out gj gj0)
                clear o7 hb
                refine hK _ _ (fun _ _ => sf36) ?_
                simp only [Act.put, List.setIfInBounds_toArray, List.set_cons_zero, List.set_cons_succ]
                refine wpLate_take0 (i := 7) (oi := _) (v := .tuple #[dval C0 p7 q7, jval ⟨s7, t7⟩, .int .i64 f7]) (d := some 86) rfl rfl (by kernel_rfl) (by kernel_rfl) (by kernel_rfl) (fun _ _ _ h => h) rfl (fun W => by rfl) ?_
                simp only [Act.put, List.setIfInBounds_toArray, List.set_cons_zero, List.set_cons_succ]
                refine wpLate_take0 (i := 8) (oi := _) (v := dval C0 p7 q7) (d := some 94) rfl rfl (by kernel_rfl) (by kernel_rfl) (by kernel_rfl) (fun _ _ _ h => h) rfl (fun W => by rfl) ?_
                simp only [Act.put, List.setIfInBounds_toArray, List.set_cons_zero, List.set_cons_succ]
                refine wpLate_take0 (i := 9) (oi := _) (v := jval ⟨s7, t7⟩) (d := some 95) rfl rfl (by kernel_rfl) (by kernel_rfl) (by kernel_rfl) (fun _ _ _ h => h) rfl (fun W => by rfl) ?_
                simp only [Act.put, List.setIfInBounds_toArray, List.set_cons_zero, List.set_cons_succ]
                refine wpLate_take0 (i := 10) (oi := _) (v := .int .i64 f7) (d := some 96) rfl rfl (by kernel_rfl) (by kernel_rfl) (by kernel_rfl) (fun _ _ _ h => h) rfl (fun W => by rfl) ?_
                simp only [Act.put, List.setIfInBounds_toArray, List.set_cons_zero, List.set_cons_succ]
                refine wpLate_one (i := 13) (by kernel_rfl) rfl rfl (fun K hK => ?_)
                refine oper_skip (w' := (((((U36.setCell ⟨gc, 0, none⟩ (.string (bs C0.data))).setCell ⟨gc, 1, none⟩ (.slice p7.a C0.cache.length p7.c)).setCell ⟨gc, 2, none⟩ (.int .i64 C0.fuse)).setCell ⟨gc, 3, none⟩ (.bool C0.off)).setCell ⟨gc, 4, none⟩ (.slice q7.a C0.bad.length q7.c))) (by have u0 := blk5 cf36; have uf := cf36.frozen; have q1_ := cf36.set 0 (.string (bs C0.data)); have f1_ := q1_.frozen; have k1_ := blk5 q1_; have q2_ := q1_.set 1 (.slice p7.a C0.cache.length p7.c); have f2_ := q2_.frozen; have k2_ := blk5 q2_; have q3_ := q2_.set 2 (.int .i64 C0.fuse); have f3_ := q3_.frozen; have k3_ := blk5 q3_; have q4_ := q3_.set 3 (.bool C0.off); have f4_ := q4_.frozen; have k4_ := blk5 q4_; go_simp) ?_
                show K (Act.put _ none _) _
                have cf37 := blk_set5 cf36 (.string (bs C0.data)) (.slice p7.a C0.cache.length p7.c) (.int .i64 C0.fuse) (.bool C0.off) (.slice q7.a C0.bad.length q7.c)
                have jf37 := blk_off5 jf36 (g := gc) hcj.symm (.string (bs C0.data)) (.slice p7.a C0.cache.length p7.c) (.int .i64 C0.fuse) (.bool C0.off) (.slice q7.a C0.bad.length q7.c)
                have sf37 := below_set5 sf36 (g := gc) gc0 (.string (bs C0.data)) (.slice p7.a C0.cache.length p7.c) (.int .i64 C0.fuse) (.bool C0.off) (.slice q7.a C0.bad.length q7.c)
                replace ic := ic.off5 oc (.string (bs C0.data)) (.slice p7.a C0.cache.length p7.c) (.int .i64 C0.fuse) (.bool C0.off) (.slice q7.a C0.bad.length q7.c)
                refine hK _ _ (fun _ _ => sf37) ?_
                generalize (((((U36.setCell ⟨gc, 0, none⟩ (.string (bs C0.data))).setCell ⟨gc, 1, none⟩ (.slice p7.a C0.cache.length p7.c)).setCell ⟨gc, 2, none⟩ (.int .i64 C0.fuse)).setCell ⟨gc, 3, none⟩ (.bool C0.off)).setCell ⟨gc, 4, none⟩ (.slice q7.a C0.bad.length q7.c)) = U37 at cf37 jf37 sf37 ic ⊢
                try simp only [Act.put, List.setIfInBounds_toArray, List.set_cons_zero, List.set_cons_succ]
                refine wpLate_one (i := 14) (by kernel_rfl) rfl rfl (fun K hK => ?_)
                refine oper_skip (w' := (U37.setCell ⟨gj, 0, none⟩ (.int .u64 s7)).setCell ⟨gj, 1, none⟩ (.int .i64 t7)) (by have u0 := blk2 jf37; have uf := jf37.frozen; have qq := jf37.set 0 (.int .u64 s7); have uf2 := qq.frozen; have u1 := blk2 qq; go_simp) ?_
                show K (Act.put _ none _) _
                have jf38 := blk_set2 jf37 (.int .u64 s7) (.int .i64 t7)
                have cf38 := blk_off2 cf37 (g := gj) hcj (.int .u64 s7) (.int .i64 t7)
                have bw := below_set2 sf37 (g := gj) gj0 (.int .u64 s7) (.int .i64 t7)
                replace ic := ic.off2 oj (.int .u64 s7) (.int .i64 t7)
                refine hK _ _ (fun _ _ => bw) ?_
                try simp only [Act.put, List.setIfInBounds_toArray, List.set_cons_zero, List.set_cons_succ]
                refine wpLate_take0 (i := 15) (oi := _) (v := .int .i64 f7) (d := some 19) rfl rfl (by kernel_rfl) (by kernel_rfl) (by kernel_rfl) (fun _ _ _ h => h) rfl (fun W => by rfl) ?_
                simp only [Act.put, List.setIfInBounds_toArray, List.set_cons_zero, List.set_cons_succ]
                refine wpLate_done (by kernel_rfl) ?_ _
                go_wp2_with fail
                go_meet
                exact ⟨gc, gj, p7, q7, rfl, rfl, rfl, hcj, gc0, gj0, cf38, jf38, ic, oc, bw⟩
            · skip
              refine oper_ran (v := .pointer (some ⟨U29.heap.size, 0, none⟩)) (w' := U29.alloc (.cells #[.int .u64 0, .int .i64 0] 72)) (by go_simp) ?_
              show K (Act.put _ (some 18) _) _
              have sf39 := sf29.alloc sf29.size (.cells #[.int .u64 0, .int .i64 0] 72)
              have gj0 : w6.heap.size ≤ U29.heap.size := sf29.size
              have jf39 := Blk.new U29 72 #[.int .u64 0, .int .i64 0]
              have hcj : gc ≠ U29.heap.size := Nat.ne_of_lt cf29.lt
              have cf39 := cf29.alloc (.cells #[.int .u64 0, .int .i64 0] 72)
              refine hK _ _ (fun _ _ => sf39) ?_
              generalize U29.alloc (.cells #[.int .u64 0, .int .i64 0] 72) = U39 at sf39 jf39 cf39 ⊢
              generalize U29.heap.size = gj at gj0 jf39 hcj ⊢
              simp only [Act.put, List.setIfInBounds_toArray, List.set_cons_zero, List.set_cons_succ]
              refine wpLate_one (i := 3) (by kernel_rfl) rfl rfl (fun K hK => ?_)
              refine oper_call (f := 47) (args := #[dval D1 p1 q1, .int .i64 nn]) (w' := U39) (by go_simp) ((harm U39 sf39).mono ?_)
              rintro e U40 ⟨⟨rfl, ia⟩, hb⟩
              refine ⟨_, rfl, ?_⟩
              show K (Act.put _ (some 90) _) _
              have sf40 := bt sf39 hb
              have cf40 := cf39.below hb cf39.lt
              have jf40 := jf39.below hb jf39.lt
              clear ia hb
              refine hK _ _ (fun _ _ => sf40) ?_
              simp only [Act.put, List.setIfInBounds_toArray, List.set_cons_zero, List.set_cons_succ]
              refine wpLate_one (i := 6) (by kernel_rfl) rfl rfl (fun K hK => ?_)
              refine oper_call (f := 38) (args := #[dval DA p1 q1, jval ⟨s1, t1⟩, pval M ⟨C1, c1⟩ ⟨C2, c2⟩]) (w' := U40) (by go_simp) ((hco2 U40 sf40).mono ?_)
              rintro e U41 ⟨⟨p7, q7, rfl, ic, o7⟩, hb⟩
              refine ⟨_, rfl, ?_⟩
              show K (Act.put _ (some 93) _) _
              have sf41 := bt sf40 hb
              have cf41 := cf40.below hb cf40.lt
              have oc : DkOff gc C0 p7 q7 := o7 gc cf40.lt (hap1.out gc gc0)
              have jf41 := jf40.below hb jf40.lt
              have oj : DkOff gj C0 p7 q7 := o7 gj jf40.lt (hap1.out gj gj0)
              clear o7 hb
              refine hK _ _ (fun _ _ => sf41) ?_
              simp only [Act.put, List.setIfInBounds_toArray, List.set_cons_zero, List.set_cons_succ]
              refine wpLate_take0 (i := 7) (oi := _) (v := .tuple #[dval C0 p7 q7, jval ⟨s7, t7⟩, .int .i64 f7]) (d := some 86) rfl rfl (by kernel_rfl) (by kernel_rfl) (by kernel_rfl) (fun _ _ _ h => h) rfl (fun W => by rfl) ?_
              simp only [Act.put, List.setIfInBounds_toArray, List.set_cons_zero, List.set_cons_succ]
              refine wpLate_take0 (i := 8) (oi := _) (v := dval C0 p7 q7) (d := some 94) rfl rfl (by kernel_rfl) (by kernel_rfl) (by kernel_rfl) (fun _ _ _ h => h) rfl (fun W => by rfl) ?_
              simp only [Act.put, List.setIfInBounds_toArray, List.set_cons_zero, List.set_cons_succ]
              refine wpLate_take0 (i := 9) (oi := _) (v := jval ⟨s7, t7⟩) (d := some 95) rfl rfl (by kernel_rfl) (by kernel_rfl) (by kernel_rfl) (fun _ _ _ h => h) rfl (fun W => by rfl) ?_
              simp only [Act.put, List.setIfInBounds_toArray, List.set_cons_zero, List.set_cons_succ]
              refine wpLate_take0 (i := 10) (oi := _) (v := .int .i64 f7) (d := some 96) rfl rfl (by kernel_rfl) (by kernel_rfl) (by kernel_rfl) (fun _ _ _ h => h) rfl (fun W => by rfl) ?_
              simp only [Act.put, List.setIfInBounds_toArray, List.set_cons_zero, List.set_cons_succ]
              refine wpLate_one (i := 13) (by kernel_rfl) rfl rfl (fun K hK => ?_)
              refine oper_skip (w' := (((((U41.setCell ⟨gc, 0, none⟩ (.string (bs C0.data))).setCell ⟨gc, 1, none⟩ (.slice p7.a C0.cache.length p7.c)).setCell ⟨gc, 2, none⟩ (.int .i64 C0.fuse)).setCell ⟨gc, 3, none⟩ (.bool C0.off)).setCell ⟨gc, 4, none⟩ (.slice q7.a C0.bad.length q7.c))) (by have u0 := blk5 cf41; have uf := cf41.frozen; have q1_ := cf41.set 0 (.string (bs C0.data)); have f1_ := q1_.frozen; have k1_ := blk5 q1_; have q2_ := q1_.set 1 (.slice p7.a C0.cache.length p7.c); have f2_ := q2_.frozen; have k2_ := blk5 q2_; have q3_ := q2_.set 2 (.int .i64 C0.fuse); have f3_ := q3_.frozen; have k3_ := blk5 q3_; have q4_ := q3_.set 3 (.bool C0.off); have f4_ := q4_.frozen; have k4_ := blk5 q4_; go_simp) ?_
              show K (Act.put _ none _) _
              have cf42 := blk_set5 cf41 (.string (bs C0.data)) (.slice p7.a C0.cache.length p7.c) (.int .i64 C0.fuse) (.bool C0.off) (.slice q7.a C0.bad.length q7.c)
              have jf42 := blk_off5 jf41 (g := gc) hcj.symm (.string (bs C0.data)) (.slice p7.a C0.cache.length p7.c) (.int .i64 C0.fuse) (.bool C0.off) (.slice q7.a C0.bad.length q7.c)
              have sf42 := below_set5 sf41 (g := gc) gc0 (.string (bs C0.data)) (.slice p7.a C0.cache.length p7.c) (.int .i64 C0.fuse) (.bool C0.off) (.slice q7.a C0.bad.length q7.c)
              replace ic := ic.off5 oc (.string (bs C0.data)) (.slice p7.a C0.cache.length p7.c) (.int .i64 C0.fuse) (.bool C0.off) (.slice q7.a C0.bad.length q7.c)
              refine hK _ _ (fun _ _ => sf42) ?_
              generalize (((((U41.setCell ⟨gc, 0, none⟩ (.string (bs C0.data))).setCell ⟨gc, 1, none⟩ (.slice p7.a C0.cache.length p7.c)).setCell ⟨gc, 2, none⟩ (.int .i64 C0.fuse)).setCell ⟨gc, 3, none⟩ (.bool C0.off)).setCell ⟨gc, 4, none⟩ (.slice q7.a C0.bad.length q7.c)) = U42 at cf42 jf42 sf42 ic ⊢
              try simp only [Act.put, List.setIfInBounds_toArray, List.set_cons_zero, List.set_cons_succ]
              refine wpLate_one (i := 14) (by kernel_rfl) rfl rfl (fun K hK => ?_)
              refine oper_skip (w' := (U42.setCell ⟨gj, 0, none⟩ (.int .u64 s7)).setCell ⟨gj, 1, none⟩ (.int .i64 t7)) (by have u0 := blk2 jf42; have uf := jf42.frozen; have qq := jf42.set 0 (.int .u64 s7); have uf2 := qq.frozen; have u1 := blk2 qq; go_simp) ?_
              show K (Act.put _ none _) _
              have jf43 := blk_set2 jf42 (.int .u64 s7) (.int .i64 t7)
              have cf43 := blk_off2 cf42 (g := gj) hcj (.int .u64 s7) (.int .i64 t7)
              have bw := below_set2 sf42 (g := gj) gj0 (.int .u64 s7) (.int .i64 t7)
              replace ic := ic.off2 oj (.int .u64 s7) (.int .i64 t7)
              refine hK _ _ (fun _ _ => bw) ?_
              try simp only [Act.put, List.setIfInBounds_toArray, List.set_cons_zero, List.set_cons_succ]
              refine wpLate_take0 (i := 15) (oi := _) (v := .int .i64 f7) (d := some 19) rfl rfl (by kernel_rfl) (by kernel_rfl) (by kernel_rfl) (fun _ _ _ h => h) rfl (fun W => by rfl) ?_
              simp only [Act.put, List.setIfInBounds_toArray, List.set_cons_zero, List.set_cons_succ]
              refine wpLate_done (by kernel_rfl) ?_ _
              go_wp2_with fail
              go_meet
              exact ⟨gc, gj, p7, q7, rfl, rfl, rfl, hcj, gc0, gj0, cf43, jf43, ic, oc, bw⟩
          · skip
            refine oper_ran (v := .pointer (some ⟨U0.heap.size, 0, none⟩)) (w' := U0.alloc (.cells #[.int .u64 0, .int .i64 0] 72)) (by go_simp) ?_
            show K (Act.put _ (some 18) _) _
            have sf44 := s0.alloc s0.size (.cells #[.int .u64 0, .int .i64 0] 72)
            have gj0 : w6.heap.size ≤ U0.heap.size := s0.size
            have jf44 := Blk.new U0 72 #[.int .u64 0, .int .i64 0]
            refine hK _ _ (fun _ _ => sf44) ?_
            generalize U0.alloc (.cells #[.int .u64 0, .int .i64 0] 72) = U44 at sf44 jf44 ⊢
            generalize U0.heap.size = gj at gj0 jf44 ⊢
            simp only [Act.put, List.setIfInBounds_toArray, List.set_cons_zero, List.set_cons_succ]
            refine wpLate_two (i := 3) (k := 11) (by kernel_rfl) rfl rfl rfl rfl (fun K hK => ?_) (fun K hK => ?_)
            · skip
              refine oper_call (f := 47) (args := #[dval D1 p1 q1, .int .i64 nn]) (w' := U44) (by go_simp) ((harm U44 sf44).mono ?_)
              rintro e U45 ⟨⟨rfl, ia⟩, hb⟩
              refine ⟨_, rfl, ?_⟩
              show K (Act.put _ (some 90) _) _
              have sf45 := bt sf44 hb
              have jf45 := jf44.below hb jf44.lt
              clear ia hb
              refine hK _ _ (fun _ _ => sf45) ?_
              simp only [Act.put, List.setIfInBounds_toArray, List.set_cons_zero, List.set_cons_succ]
              refine wpLate_two (i := 6) (k := 11) (by kernel_rfl) rfl rfl rfl rfl (fun K hK => ?_) (fun K hK => ?_)
              · skip
                refine oper_call (f := 38) (args := #[dval DA p1 q1, jval ⟨s1, t1⟩, pval M ⟨C1, c1⟩ ⟨C2, c2⟩]) (w' := U45) (by go_simp) ((hco2 U45 sf45).mono ?_)
                rintro e U46 ⟨⟨p7, q7, rfl, ic, o7⟩, hb⟩
                refine ⟨_, rfl, ?_⟩
                show K (Act.put _ (some 93) _) _
                have sf46 := bt sf45 hb
                have jf46 := jf45.below hb jf45.lt
                have oj : DkOff gj C0 p7 q7 := o7 gj jf45.lt (hap1.out gj gj0)
                clear o7 hb
                refine hK _ _ (fun _ _ => sf46) ?_
                simp only [Act.put, List.setIfInBounds_toArray, List.set_cons_zero, List.set_cons_succ]
                refine wpLate_take0 (i := 7) (oi := _) (v := .tuple #[dval C0 p7 q7, jval ⟨s7, t7⟩, .int .i64 f7]) (d := some 86) rfl rfl (by kernel_rfl) (by kernel_rfl) (by kernel_rfl) (fun _ _ _ h => h) rfl (fun W => by rfl) ?_
                simp only [Act.put, List.setIfInBounds_toArray, List.set_cons_zero, List.set_cons_succ]
                refine wpLate_take0 (i := 8) (oi := _) (v := dval C0 p7 q7) (d := some 94) rfl rfl (by kernel_rfl) (by kernel_rfl) (by kernel_rfl) (fun _ _ _ h => h) rfl (fun W => by rfl) ?_
                simp only [Act.put, List.setIfInBounds_toArray, List.set_cons_zero, List.set_cons_succ]
                refine wpLate_take0 (i := 9) (oi := _) (v := jval ⟨s7, t7⟩) (d := some 95) rfl rfl (by kernel_rfl) (by kernel_rfl) (by kernel_rfl) (fun _ _ _ h => h) rfl (fun W => by rfl) ?_
                simp only [Act.put, List.setIfInBounds_toArray, List.set_cons_zero, List.set_cons_succ]
                refine wpLate_take0 (i := 10) (oi := _) (v := .int .i64 f7) (d := some 96) rfl rfl (by kernel_rfl) (by kernel_rfl) (by kernel_rfl) (fun _ _ _ h => h) rfl (fun W => by rfl) ?_
                simp only [Act.put, List.setIfInBounds_toArray, List.set_cons_zero, List.set_cons_succ]
                refine wpLate_one (i := 11) (by kernel_rfl) rfl rfl (fun K hK => ?_)
                refine oper_ran (v := .pointer (some ⟨U46.heap.size, 0, none⟩)) (w' := U46.alloc (.cells #[.string (bs []), .slice none 0 0, .int .i64 0, .bool false, .slice none 0 0] 25)) (by go_simp) ?_
                show K (Act.put _ (some 17) _) _
                have sf47 := sf46.alloc sf46.size (.cells #[.string (bs []), .slice none 0 0, .int .i64 0, .bool false, .slice none 0 0] 25)
                have gc0 : w6.heap.size ≤ U46.heap.size := sf46.size
                have cf47 := Blk.new U46 25 #[.string (bs []), .slice none 0 0, .int .i64 0, .bool false, .slice none 0 0]
                have hcj : U46.heap.size ≠ gj := Nat.ne_of_gt jf46.lt
                have jf47 := jf46.alloc (.cells #[.string (bs []), .slice none 0 0, .int .i64 0, .bool false, .slice none 0 0] 25)
                have oc : DkOff U46.heap.size C0 p7 q7 := ic.apart (Nat.le_refl _)
                replace ic := ic.below ((Below.refl U46.heap.size U46).alloc (Nat.le_refl _) (.cells #[.string (bs []), .slice none 0 0, .int .i64 0, .bool false, .slice none 0 0] 25))
                refine hK _ _ (fun _ _ => sf47) ?_
                generalize U46.alloc (.cells #[.string (bs []), .slice none 0 0, .int .i64 0, .bool false, .slice none 0 0] 25) = U47 at sf47 cf47 jf47 ic ⊢
                generalize U46.heap.size = gc at gc0 cf47 hcj oc ⊢
                simp only [Act.put, List.setIfInBounds_toArray, List.set_cons_zero, List.set_cons_succ]
                refine wpLate_one (i := 13) (by kernel_rfl) rfl rfl (fun K hK => ?_)
                refine oper_skip (w' := (((((U47.setCell ⟨gc, 0, none⟩ (.string (bs C0.data))).setCell ⟨gc, 1, none⟩ (.slice p7.a C0.cache.length p7.c)).setCell ⟨gc, 2, none⟩ (.int .i64 C0.fuse)).setCell ⟨gc, 3, none⟩ (.bool C0.off)).setCell ⟨gc, 4, none⟩ (.slice q7.a C0.bad.length q7.c))) (by have u0 := blk5 cf47; have uf := cf47.frozen; have q1_ := cf47.set 0 (.string (bs C0.data)); have f1_ := q1_.frozen; have k1_ := blk5 q1_; have q2_ := q1_.set 1 (.slice p7.a C0.cache.length p7.c); have f2_ := q2_.frozen; have k2_ := blk5 q2_; have q3_ := q2_.set 2 (.int .i64 C0.fuse); have f3_ := q3_.frozen; have k3_ := blk5 q3_; have q4_ := q3_.set 3 (.bool C0.off); have f4_ := q4_.frozen; have k4_ := blk5 q4_; go_simp) ?_
                show K (Act.put _ none _) _
                have cf48 := blk_set5 cf47 (.string (bs C0.data)) (.slice p7.a C0.cache.length p7.c) (.int .i64 C0.fuse) (.bool C0.off) (.slice q7.a C0.bad.length q7.c)
                have jf48 := blk_off5 jf47 (g := gc) hcj.symm (.string (bs C0.data)) (.slice p7.a C0.cache.length p7.c) (.int .i64 C0.fuse) (.bool C0.off) (.slice q7.a C0.bad.length q7.c)
                have sf48 := below_set5 sf47 (g := gc) gc0 (.string (bs C0.data)) (.slice p7.a C0.cache.length p7.c) (.int .i64 C0.fuse) (.bool C0.off) (.slice q7.a C0.bad.length q7.c)
                replace ic := ic.off5 oc (.string (bs C0.data)) (.slice p7.a C0.cache.length p7.c) (.int .i64 C0.fuse) (.bool C0.off) (.slice q7.a C0.bad.length q7.c)
                refine hK _ _ (fun _ _ => sf48) ?_
                generalize (((((U47.setCell ⟨gc, 0, none⟩ (.string (bs C0.data))).setCell ⟨gc, 1, none⟩ (.slice p7.a C0.cache.length p7.c)).setCell ⟨gc, 2, none⟩ (.int .i64 C0.fuse)).setCell ⟨gc, 3, none⟩ (.bool C0.off)).setCell ⟨gc, 4, none⟩ (.slice q7.a C0.bad.length q7.c)) = U48 at cf48 jf48 sf48 ic ⊢
                try simp only [Act.put, List.setIfInBounds_toArray, List.set_cons_zero, List.set_cons_succ]
                refine wpLate_one (i := 14) (by kernel_rfl) rfl rfl (fun K hK => ?_)
                refine oper_skip (w' := (U48.setCell ⟨gj, 0, none⟩ (.int .u64 s7)).setCell ⟨gj, 1, none⟩ (.int .i64 t7)) (by have u0 := blk2 jf48; have uf := jf48.frozen; have qq := jf48.set 0 (.int .u64 s7); have uf2 := qq.frozen; have u1 := blk2 qq; go_simp) ?_
                show K (Act.put _ none _) _
                have jf49 := blk_set2 jf48 (.int .u64 s7) (.int .i64 t7)
                have cf49 := blk_off2 cf48 (g := gj) hcj (.int .u64 s7) (.int .i64 t7)
                have bw := below_set2 sf48 (g := gj) gj0 (.int .u64 s7) (.int .i64 t7)
                replace ic := ic.off2 oj (.int .u64 s7) (.int .i64 t7)
                refine hK _ _ (fun _ _ => bw) ?_
                try simp only [Act.put, List.setIfInBounds_toArray, List.set_cons_zero, List.set_cons_succ]
                refine wpLate_take0 (i := 15) (oi := _) (v := .int .i64 f7) (d := some 19) rfl rfl (by kernel_rfl) (by kernel_rfl) (by kernel_rfl) (fun _ _ _ h => h) rfl (fun W => by rfl) ?_
                simp only [Act.put, List.setIfInBounds_toArray, List.set_cons_zero, List.set_cons_succ]
                refine wpLate_done (by kernel_rfl) ?_ _
                go_wp2_with fail
                go_meet
                exact ⟨gc, gj, p7, q7, rfl, rfl, rfl, hcj, gc0, gj0, cf49, jf49, ic, oc, bw⟩
              · skip
                refine oper_ran (v := .pointer (some ⟨U45.heap.size, 0, none⟩)) (w' := U45.alloc (.cells #[.string (bs []), .slice none 0 0, .int .i64 0, .bool false, .slice none 0 0] 25)) (by go_simp) ?_
                show K (Act.put _ (some 17) _) _
                have sf50 := sf45.alloc sf45.size (.cells #[.string (bs []), .slice none 0 0, .int .i64 0, .bool false, .slice none 0 0] 25)
                have gc0 : w6.heap.size ≤ U45.heap.size := sf45.size
                have cf50 := Blk.new U45 25 #[.string (bs []), .slice none 0 0, .int .i64 0, .bool false, .slice none 0 0]
                have hcj : U45.heap.size ≠ gj := Nat.ne_of_gt jf45.lt
                have jf50 := jf45.alloc (.cells #[.string (bs []), .slice none 0 0, .int .i64 0, .bool false, .slice none 0 0] 25)
                refine hK _ _ (fun _ _ => sf50) ?_
                generalize U45.alloc (.cells #[.string (bs []), .slice none 0 0, .int .i64 0, .bool false, .slice none 0 0] 25) = U50 at sf50 cf50 jf50 ⊢
                generalize U45.heap.size = gc at gc0 cf50 hcj ⊢
                simp only [Act.put, List.setIfInBounds_toArray, List.set_cons_zero, List.set_cons_succ]
                refine wpLate_one (i := 6) (by kernel_rfl) rfl rfl (fun K hK => ?_)
                refine oper_call (f := 38) (args := #[dval DA p1 q1, jval ⟨s1, t1⟩, pval M ⟨C1, c1⟩ ⟨C2, c2⟩]) (w' := U50) (by go_simp) ((hco2 U50 sf50).mono ?_)
                rintro e U51 ⟨⟨p7, q7, rfl, ic, o7⟩, hb⟩
                refine ⟨_, rfl, ?_⟩
                show K (Act.put _ (some 93) _) _
                have sf51 := bt sf50 hb
                have cf51 := cf50.below hb cf50.lt
                have oc : DkOff gc C0 p7 q7 := o7 gc cf50.lt (hap1.out gc gc0)
                have jf51 := jf50.below hb jf50.lt
                have oj : DkOff gj C0 p7 q7 := o7 gj jf50.lt (hap1.out gj gj0)
                clear o7 hb
                refine hK _ _ (fun _ _ => sf51) ?_
                simp only [Act.put, List.setIfInBounds_toArray, List.set_cons_zero, List.set_cons_succ]
                refine wpLate_take0 (i := 7) (oi := _) (v := .tuple #[dval C0 p7 q7, jval ⟨s7, t7⟩, .int .i64 f7]) (d := some 86) rfl rfl (by kernel_rfl) (by kernel_rfl) (by kernel_rfl) (fun _ _ _ h => h) rfl (fun W => by rfl) ?_
                simp only [Act.put, List.setIfInBounds_toArray, List.set_cons_zero, List.set_cons_succ]
                refine wpLate_take0 (i := 8) (oi := _) (v := dval C0 p7 q7) (d := some 94) rfl rfl (by kernel_rfl) (by kernel_rfl) (by kernel_rfl) (fun _ _ _ h => h) rfl (fun W => by rfl) ?_
                simp only [Act.put, List.setIfInBounds_toArray, List.set_cons_zero, List.set_cons_succ]
                refine wpLate_take0 (i := 9) (oi := _) (v := jval ⟨s7, t7⟩) (d := some 95) rfl rfl (by kernel_rfl) (by kernel_rfl) (by kernel_rfl) (fun _ _ _ h => h) rfl (fun W => by rfl) ?_
                simp only [Act.put, List.setIfInBounds_toArray, List.set_cons_zero, List.set_cons_succ]
                refine wpLate_take0 (i := 10) (oi := _) (v := .int .i64 f7) (d := some 96) rfl rfl (by kernel_rfl) (by kernel_rfl) (by kernel_rfl) (fun _ _ _ h => h) rfl (fun W => by rfl) ?_
                simp only [Act.put, List.setIfInBounds_toArray, List.set_cons_zero, List.set_cons_succ]
                refine wpLate_one (i := 13) (by kernel_rfl) rfl rfl (fun K hK => ?_)
                refine oper_skip (w' := (((((U51.setCell ⟨gc, 0, none⟩ (.string (bs C0.data))).setCell ⟨gc, 1, none⟩ (.slice p7.a C0.cache.length p7.c)).setCell ⟨gc, 2, none⟩ (.int .i64 C0.fuse)).setCell ⟨gc, 3, none⟩ (.bool C0.off)).setCell ⟨gc, 4, none⟩ (.slice q7.a C0.bad.length q7.c))) (by have u0 := blk5 cf51; have uf := cf51.frozen; have q1_ := cf51.set 0 (.string (bs C0.data)); have f1_ := q1_.frozen; have k1_ := blk5 q1_; have q2_ := q1_.set 1 (.slice p7.a C0.cache.length p7.c); have f2_ := q2_.frozen; have k2_ := blk5 q2_; have q3_ := q2_.set 2 (.int .i64 C0.fuse); have f3_ := q3_.frozen; have k3_ := blk5 q3_; have q4_ := q3_.set 3 (.bool C0.off); have f4_ := q4_.frozen; have k4_ := blk5 q4_; go_simp) ?_
                show K (Act.put _ none _) _
                have cf52 := blk_set5 cf51 (.string (bs C0.data)) (.slice p7.a C0.cache.length p7.c) (.int .i64 C0.fuse) (.bool C0.off) (.slice q7.a C0.bad.length q7.c)
                have jf52 := blk_off5 jf51 (g := gc) hcj.symm (.string (bs C0.data)) (.slice p7.a C0.cache.length p7.c) (.int .i64 C0.fuse) (.bool C0.off) (.slice q7.a C0.bad.length q7.c)
                have sf52 := below_set5 sf51 (g := gc) gc0 (.string (bs C0.data)) (.slice p7.a C0.cache.length p7.c) (.int .i64 C0.fuse) (.bool C0.off) (.slice q7.a C0.bad.length q7.c)
                replace ic := ic.off5 oc (.string (bs C0.data)) (.slice p7.a C0.cache.length p7.c) (.int .i64 C0.fuse) (.bool C0.off) (.slice q7.a C0.bad.length q7.c)
                refine hK _ _ (fun _ _ => sf52) ?_
                generalize (((((U51.setCell ⟨gc, 0, none⟩ (.string (bs C0.data))).setCell ⟨gc, 1, none⟩ (.slice p7.a C0.cache.length p7.c)).setCell ⟨gc, 2, none⟩ (.int .i64 C0.fuse)).setCell ⟨gc, 3, none⟩ (.bool C0.off)).setCell ⟨gc, 4, none⟩ (.slice q7.a C0.bad.length q7.c)) = U52 at cf52 jf52 sf52 ic ⊢
                try simp only [Act.put, List.setIfInBounds_toArray, List.set_cons_zero, List.set_cons_succ]
                refine wpLate_one (i := 14) (by kernel_rfl) rfl rfl (fun K hK => ?_)
                refine oper_skip (w' := (U52.setCell ⟨gj, 0, none⟩ (.int .u64 s7)).setCell ⟨gj, 1, none⟩ (.int .i64 t7)) (by have u0 := blk2 jf52; have uf := jf52.frozen; have qq := jf52.set 0 (.int .u64 s7); have uf2 := qq.frozen; have u1 := blk2 qq; go_simp) ?_
                show K (Act.put _ none _) _
                have jf53 := blk_set2 jf52 (.int .u64 s7) (.int .i64 t7)
                have cf53 := blk_off2 cf52 (g := gj) hcj (.int .u64 s7) (.int .i64 t7)
                have bw := below_set2 sf52 (g := gj) gj0 (.int .u64 s7) (.int .i64 t7)
                replace ic := ic.off2 oj (.int .u64 s7) (.int .i64 t7)
                refine hK _ _ (fun _ _ => bw) ?_
                try simp only [Act.put, List.setIfInBounds_toArray, List.set_cons_zero, List.set_cons_succ]
                refine wpLate_take0 (i := 15) (oi := _) (v := .int .i64 f7) (d := some 19) rfl rfl (by kernel_rfl) (by kernel_rfl) (by kernel_rfl) (fun _ _ _ h => h) rfl (fun W => by rfl) ?_
                simp only [Act.put, List.setIfInBounds_toArray, List.set_cons_zero, List.set_cons_succ]
                refine wpLate_done (by kernel_rfl) ?_ _
                go_wp2_with fail
                go_meet
                exact ⟨gc, gj, p7, q7, rfl, rfl, rfl, hcj, gc0, gj0, cf53, jf53, ic, oc, bw⟩
            · skip
              refine oper_ran (v := .pointer (some ⟨U44.heap.size, 0, none⟩)) (w' := U44.alloc (.cells #[.string (bs []), .slice none 0 0, .int .i64 0, .bool false, .slice none 0 0] 25)) (by go_simp) ?_
              show K (Act.put _ (some 17) _) _
              have sf54 := sf44.alloc sf44.size (.cells #[.string (bs []), .slice none 0 0, .int .i64 0, .bool false, .slice none 0 0] 25)
              have gc0 : w6.heap.size ≤ U44.heap.size := sf44.size
              have cf54 := Blk.new U44 25 #[.string (bs []), .slice none 0 0, .int .i64 0, .bool false, .slice none 0 0]
              have hcj : U44.heap.size ≠ gj := Nat.ne_of_gt jf44.lt
              have jf54 := jf44.alloc (.cells #[.string (bs []), .slice none 0 0, .int .i64 0, .bool false, .slice none 0 0] 25)
              refine hK _ _ (fun _ _ => sf54) ?_
              generalize U44.alloc (.cells #[.string (bs []), .slice none 0 0, .int .i64 0, .bool false, .slice none 0 0] 25) = U54 at sf54 cf54 jf54 ⊢
              generalize U44.heap.size = gc at gc0 cf54 hcj ⊢
              simp only [Act.put, List.setIfInBounds_toArray, List.set_cons_zero, List.set_cons_succ]
              refine wpLate_one (i := 3) (by kernel_rfl) rfl rfl (fun K hK => ?_)
              refine oper_call (f := 47) (args := #[dval D1 p1 q1, .int .i64 nn]) (w' := U54) (by go_simp) ((harm U54 sf54).mono ?_)
              rintro e U55 ⟨⟨rfl, ia⟩, hb⟩
              refine ⟨_, rfl, ?_⟩
              show K (Act.put _ (some 90) _) _
              have sf55 := bt sf54 hb
              have cf55 := cf54.below hb cf54.lt
              have jf55 := jf54.below hb jf54.lt
              clear ia hb
              refine hK _ _ (fun _ _ => sf55) ?_
              simp only [Act.put, List.setIfInBounds_toArray, List.set_cons_zero, List.set_cons_succ]
              refine wpLate_one (i := 6) (by kernel_rfl) rfl rfl (fun K hK => ?_)
              refine oper_call (f := 38) (args := #[dval DA p1 q1, jval ⟨s1, t1⟩, pval M ⟨C1, c1⟩ ⟨C2, c2⟩]) (w' := U55) (by go_simp) ((hco2 U55 sf55).mono ?_)
              rintro e U56 ⟨⟨p7, q7, rfl, ic, o7⟩, hb⟩
              refine ⟨_, rfl, ?_⟩
              show K (Act.put _ (some 93) _) _
              have sf56 := bt sf55 hb
              have cf56 := cf55.below hb cf55.lt
              have oc : DkOff gc C0 p7 q7 := o7 gc cf55.lt (hap1.out gc gc0)
              have jf56 := jf55.below hb jf55.lt
              have oj : DkOff gj C0 p7 q7 := o7 gj jf55.lt (hap1.out gj gj0)
              clear o7 hb
              refine hK _ _ (fun _ _ => sf56) ?_
              simp only [Act.put, List.setIfInBounds_toArray, List.set_cons_zero, List.set_cons_succ]
              refine wpLate_take0 (i := 7) (oi := _) (v := .tuple #[dval C0 p7 q7, jval ⟨s7, t7⟩, .int .i64 f7]) (d := some 86) rfl rfl (by kernel_rfl) (by kernel_rfl) (by kernel_rfl) (fun _ _ _ h => h) rfl (fun W => by rfl) ?_
              simp only [Act.put, List.setIfInBounds_toArray, List.set_cons_zero, List.set_cons_succ]
              refine wpLate_take0 (i := 8) (oi := _) (v := dval C0 p7 q7) (d := some 94) rfl rfl (by kernel_rfl) (by kernel_rfl) (by kernel_rfl) (fun _ _ _ h => h) rfl (fun W => by rfl) ?_
              simp only [Act.put, List.setIfInBounds_toArray, List.set_cons_zero, List.set_cons_succ]
              refine wpLate_take0 (i := 9) (oi := _) (v := jval ⟨s7, t7⟩) (d := some 95) rfl rfl (by kernel_rfl) (by kernel_rfl) (by kernel_rfl) (fun _ _ _ h => h) rfl (fun W => by rfl) ?_
              simp only [Act.put, List.setIfInBounds_toArray, List.set_cons_zero, List.set_cons_succ]
              refine wpLate_take0 (i := 10) (oi := _) (v := .int .i64 f7) (d := some 96) rfl rfl (by kernel_rfl) (by kernel_rfl) (by kernel_rfl) (fun _ _ _ h => h) rfl (fun W => by rfl) ?_
              simp only [Act.put, List.setIfInBounds_toArray, List.set_cons_zero, List.set_cons_succ]
              refine wpLate_one (i := 13) (by kernel_rfl) rfl rfl (fun K hK => ?_)
              refine oper_skip (w' := (((((U56.setCell ⟨gc, 0, none⟩ (.string (bs C0.data))).setCell ⟨gc, 1, none⟩ (.slice p7.a C0.cache.length p7.c)).setCell ⟨gc, 2, none⟩ (.int .i64 C0.fuse)).setCell ⟨gc, 3, none⟩ (.bool C0.off)).setCell ⟨gc, 4, none⟩ (.slice q7.a C0.bad.length q7.c))) (by have u0 := blk5 cf56; have uf := cf56.frozen; have q1_ := cf56.set 0 (.string (bs C0.data)); have f1_ := q1_.frozen; have k1_ := blk5 q1_; have q2_ := q1_.set 1 (.slice p7.a C0.cache.length p7.c); have f2_ := q2_.frozen; have k2_ := blk5 q2_; have q3_ := q2_.set 2 (.int .i64 C0.fuse); have f3_ := q3_.frozen; have k3_ := blk5 q3_; have q4_ := q3_.set 3 (.bool C0.off); have f4_ := q4_.frozen; have k4_ := blk5 q4_; go_simp) ?_
              show K (Act.put _ none _) _
              have cf57 := blk_set5 cf56 (.string (bs C0.data)) (.slice p7.a C0.cache.length p7.c) (.int .i64 C0.fuse) (.bool C0.off) (.slice q7.a C0.bad.length q7.c)
              have jf57 := blk_off5 jf56 (g := gc) hcj.symm (.string (bs C0.data)) (.slice p7.a C0.cache.length p7.c) (.int .i64 C0.fuse) (.bool C0.off) (.slice q7.a C0.bad.length q7.c)
              have sf57 := below_set5 sf56 (g := gc) gc0 (.string (bs C0.data)) (.slice p7.a C0.cache.length p7.c) (.int .i64 C0.fuse) (.bool C0.off) (.slice q7.a C0.bad.length q7.c)
              replace ic := ic.off5 oc (.string (bs C0.data)) (.slice p7.a C0.cache.length p7.c) (.int .i64 C0.fuse) (.bool C0.off) (.slice q7.a C0.bad.length q7.c)
              refine hK _ _ (fun _ _ => sf57) ?_
              generalize (((((U56.setCell ⟨gc, 0, none⟩ (.string (bs C0.data))).setCell ⟨gc, 1, none⟩ (.slice p7.a C0.cache.length p7.c)).setCell ⟨gc, 2, none⟩ (.int .i64 C0.fuse)).setCell ⟨gc, 3, none⟩ (.bool C0.off)).setCell ⟨gc, 4, none⟩ (.slice q7.a C0.bad.length q7.c)) = U57 at cf57 jf57 sf57 ic ⊢
              try simp only [Act.put, List.setIfInBounds_toArray, List.set_cons_zero, List.set_cons_succ]
              refine wpLate_one (i := 14) (by kernel_rfl) rfl rfl (fun K hK => ?_)
              refine oper_skip (w' := (U57.setCell ⟨gj, 0, none⟩ (.int .u64 s7)).setCell ⟨gj, 1, none⟩ (.int .i64 t7)) (by have u0 := blk2 jf57; have uf := jf57.frozen; have qq := jf57.set 0 (.int .u64 s7); have uf2 := qq.frozen; have u1 := blk2 qq; go_simp) ?_
              show K (Act.put _ none _) _
              have jf58 := blk_set2 jf57 (.int .u64 s7) (.int .i64 t7)
              have cf58 := blk_off2 cf57 (g := gj) hcj (.int .u64 s7) (.int .i64 t7)
              have bw := below_set2 sf57 (g := gj) gj0 (.int .u64 s7) (.int .i64 t7)
              replace ic := ic.off2 oj (.int .u64 s7) (.int .i64 t7)
              refine hK _ _ (fun _ _ => bw) ?_
              try simp only [Act.put, List.setIfInBounds_toArray, List.set_cons_zero, List.set_cons_succ]
              refine wpLate_take0 (i := 15) (oi := _) (v := .int .i64 f7) (d := some 19) rfl rfl (by kernel_rfl) (by kernel_rfl) (by kernel_rfl) (fun _ _ _ h => h) rfl (fun W => by rfl) ?_
              simp only [Act.put, List.setIfInBounds_toArray, List.set_cons_zero, List.set_cons_succ]
              refine wpLate_done (by kernel_rfl) ?_ _
              go_wp2_with fail
              go_meet
              exact ⟨gc, gj, p7, q7, rfl, rfl, rfl, hcj, gc0, gj0, cf58, jf58, ic, oc, bw⟩
        case rest =>
          obtain ⟨gc, gj, p7, q7, rfl, rfl, rfl, hcj, gc0, gj0, c, jj, i7, oc, hbc⟩ := hcut
          have HBc := bt hB hbc
          have xx := (x).below hbc (x).lt
          have bb := (b).below hbc (b).lt
          have zz := (z).below hbc (z).lt
          have yy := (y).below hbc (y).lt
          have i1c := (i1).below hbc
          clear KX KB KY harm hco2 hbc
          rename_i K9 a9
          refine a9 _ _ ?_
          rcases Hf7.out with h0 | h0
          · subst h0
            exact rest0 hnf hng hKl hRl Hq HK HR HL HM HO1 HO2 HF lx hs1 ht1 hox hob y b i1 HCf HMid hcj gc0 gj0 c jj i7 oc HBc xx bb zz yy i1c
          · subst h0
            exact rest12 hnf hng hKl hRl Hq HK HR HL HM HO1 HO2 HF lx hs1 ht1 hox hob y b i1 HCf HMid hcj gc0 gj0 c jj i7 oc HBc xx bb zz yy i1c

end Go.Proofs.YtplgmlcoeehnfaaGreat.jourCrash
