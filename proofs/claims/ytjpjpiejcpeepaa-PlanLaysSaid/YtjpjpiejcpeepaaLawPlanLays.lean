/- PlanLays: behind a plan that was laid without an error each sector is what it was to be: any device, any plan, any place. No condition. -/
import Derived.Test.YtjpjpiejcpeepaaLaw05a
import Derived.Test.YtjpjpiejcpeepaaLay2
import Derived.Test.YtjpjpiejcpeepaaPlan6
import Derived.Test.YtjpjpiejcpeepaaOpen
import Derived.Test.YtjpjpiejcpeepaaShut
set_option linter.unusedVariables false
namespace Go.Proofs.Ytjpjpiejcpeepaa.planLays
open Go.RowKit Go.Shelf Go.WideShapes Go.ChangeShapes Go.ChangeAt
open Go.ChangeMaps (open_string shut_string)
attribute [local go_sem] bs_mk bs_append bs_extract bs_size bs_toList bs_get

theorem lay_data : ∀ (l : List (Int × List UInt8)) (D : Dk), (Dk.layIn l D).1.data = D.data := by
  have hw : ∀ (D : Dk) (k : Int) (s : List UInt8), (D.write k s).1.data = D.data := fun D k s => by
    rw [Dk.write]
    repeat' split
    all_goals rfl
  intro l
  induction l with
  | nil => intro D; rfl
  | cons a l ih =>
    intro D
    rw [Dk.layIn]
    split
    · exact hw _ _ _
    · rw [ih, hw]

set_option maxRecDepth 100000 in
theorem walk_no (D : Dk) (L : Pn) (p q p' q' : Pl) (k : Int) (w : World) (h0 : IsDk0 w D p q) (hbl : D.bad.length ≤ 17592186044416) (hL : IsPn w L p' q') (hg : good D L = false) :
    Calls Try.prog 10 #[dval D p q, pval L p' q', .int .i64 k] w fun e w' => e = .returned (.bool true) ∧ Below w.heap.size w w' := by
  have hG := fun (W : World) (hb : Below w.heap.size w W) => good05 D L p q p' q' W (h0.below hb) (hL.below hb) hbl
  rw [hg] at hG
  clear h0 hL hg
  obtain ⟨A1, a1⟩ := p
  obtain ⟨A2, a2⟩ := q
  obtain ⟨B1, b1⟩ := p'
  obtain ⟨B2, b2⟩ := q'
  have hB := Below.refl w.heap.size w
  have x := Blk.new w 25 #[.string (bs D.data), .slice A1 D.cache.length a1, .int .i64 D.fuse, .bool D.off, .slice A2 D.bad.length a2]
  have xk := blk5 x
  have hB_1 := hB.alloc hB.size (.cells #[.string (bs D.data), .slice A1 D.cache.length a1, .int .i64 D.fuse, .bool D.off, .slice A2 D.bad.length a2] 25)
  have z := Blk.new (w.alloc (.cells #[.string (bs D.data), .slice A1 D.cache.length a1, .int .i64 D.fuse, .bool D.off, .slice A2 D.bad.length a2] 25)) 28 #[.slice B1 L.targets.length b1, .slice B2 L.data.length b2]
  simp only [World.size_alloc] at z
  have zk := blk2 z
  have hB_2 := hB_1.alloc hB_1.size (.cells #[.slice B1 L.targets.length b1, .slice B2 L.data.length b2] 28)
  have x_3 := x.alloc (.cells #[.slice B1 L.targets.length b1, .slice B2 L.data.length b2] 28)
  have xk_3 := blk5 x_3
  go_enter Try.func10, Try.ntmps10
  go_wp2_with fail
  go_at_call 13
  refine ((hG _ hB_2)).mono ?_
  rintro e w1 ⟨rfl, hb1⟩
  replace hB := bt hB_2 hb1
  replace x := x_3.below hb1 x_3.lt
  replace xk := blk5 x
  replace z := z.below hb1 z.lt
  replace zk := blk2 z
  clear hB_1 hB_2 xk_3 x_3
  go_wp2_with fail
  go_at_call 14
  refine ((awake05 _)).mono ?_
  rintro e w2 ⟨rfl, hb2⟩
  replace hB := bt hB hb2
  replace x := x.below hb2 x.lt
  replace xk := blk5 x
  replace z := z.below hb2 z.lt
  replace zk := blk2 z
  go_wp2_with fail
  go_ret
  exact ⟨rfl, hB⟩

set_option maxRecDepth 100000 in
theorem walk_not (D : Dk) (L : Pn) (p q p' q' : Pl) (k : Int) (w : World) (h0 : IsDk0 w D p q) (hbl : D.bad.length ≤ 17592186044416) (hL : IsPn w L p' q') (hg : good D L = true) (hk : okInt k) (E : Dk) (er : Int) (hE : Pn.lay D L = (E, er)) (her : er ≠ 0) :
    Calls Try.prog 10 #[dval D p q, pval L p' q', .int .i64 k] w fun e w' => e = .returned (.bool true) ∧ Below w.heap.size w w' := by
  obtain ⟨g1, g2, g3, g4⟩ := good_iff.1 hg
  have hD := h0.full (by omega) hbl (by omega)
  have hG := fun (W : World) (hb : Below w.heap.size w W) => good05 D L p q p' q' W (h0.below hb) (hL.below hb) hbl
  rw [hg] at hG
  have hdl := (Dk.fit_parts g3).2.2.1
  have hst := fun (W : World) (hb : Below w.heap.size w W) => pl_lay D L p q p' q' W (hD.below hb) (hL.below hb) g4.1 (by have := g4.2.1; omega)
  rw [hE] at hst
  have n1 : (er != 0) = true := by simpa using her
  have Hpos := hid (show 0 < L.targets.length by
    rcases Nat.eq_zero_or_pos L.targets.length with h | h
    · have e : L.targets = [] := List.eq_nil_of_length_eq_zero h
      rw [Pn.lay, e] at hE
      injection hE with _ hE
      exact absurd hE.symm her
    · exact h)
  clear h0 hL hg her hD g1 g2 g3 g4 hdl hE
  obtain ⟨A1, a1⟩ := p
  obtain ⟨A2, a2⟩ := q
  obtain ⟨B1, b1⟩ := p'
  obtain ⟨B2, b2⟩ := q'
  have hB := Below.refl w.heap.size w
  have x := Blk.new w 25 #[.string (bs D.data), .slice A1 D.cache.length a1, .int .i64 D.fuse, .bool D.off, .slice A2 D.bad.length a2]
  have xk := blk5 x
  have hB_1 := hB.alloc hB.size (.cells #[.string (bs D.data), .slice A1 D.cache.length a1, .int .i64 D.fuse, .bool D.off, .slice A2 D.bad.length a2] 25)
  have z := Blk.new (w.alloc (.cells #[.string (bs D.data), .slice A1 D.cache.length a1, .int .i64 D.fuse, .bool D.off, .slice A2 D.bad.length a2] 25)) 28 #[.slice B1 L.targets.length b1, .slice B2 L.data.length b2]
  simp only [World.size_alloc] at z
  have zk := blk2 z
  have hB_2 := hB_1.alloc hB_1.size (.cells #[.slice B1 L.targets.length b1, .slice B2 L.data.length b2] 28)
  have x_3 := x.alloc (.cells #[.slice B1 L.targets.length b1, .slice B2 L.data.length b2] 28)
  have xk_3 := blk5 x_3
  go_enter Try.func10, Try.ntmps10
  go_wp2_with fail
  go_at_call 13
  refine ((hG _ hB_2)).mono ?_
  rintro e w1 ⟨rfl, hb1⟩
  replace hB := bt hB_2 hb1
  replace x := x_3.below hb1 x_3.lt
  replace xk := blk5 x
  replace z := z.below hb1 z.lt
  replace zk := blk2 z
  clear hB_1 hB_2 xk_3 x_3
  go_wp2_with fail
  go_at_call 39
  refine ((hst _ hB)).mono ?_
  rintro e w2 ⟨⟨p1, q1, rfl, i1, o1⟩, hb2⟩
  replace hB := bt hB hb2
  replace x := x.below hb2 x.lt
  replace xk := blk5 x
  replace z := z.below hb2 z.lt
  replace zk := blk2 z
  have y := Blk.new w2 25 #[.string (bs E.data), .slice p1.a E.cache.length p1.c, .int .i64 E.fuse, .bool E.off, .slice q1.a E.bad.length q1.c]
  have yk := blk5 y
  have hB_4 := hB.alloc hB.size (.cells #[.string (bs E.data), .slice p1.a E.cache.length p1.c, .int .i64 E.fuse, .bool E.off, .slice q1.a E.bad.length q1.c] 25)
  have x_5 := x.alloc (.cells #[.string (bs E.data), .slice p1.a E.cache.length p1.c, .int .i64 E.fuse, .bool E.off, .slice q1.a E.bad.length q1.c] 25)
  have xk_5 := blk5 x_5
  have z_6 := z.alloc (.cells #[.string (bs E.data), .slice p1.a E.cache.length p1.c, .int .i64 E.fuse, .bool E.off, .slice q1.a E.bad.length q1.c] 25)
  have zk_6 := blk2 z_6
  have i1_7 := i1.below ((Below.refl _ _).alloc (Nat.le_refl _) (.cells #[.string (bs E.data), .slice p1.a E.cache.length p1.c, .int .i64 E.fuse, .bool E.off, .slice q1.a E.bad.length q1.c] 25))
  have hpos := Hpos.out
  go_wp2_with fail
  go_at_call 14
  refine ((awake05 _)).mono ?_
  rintro e w4 ⟨rfl, hb4⟩
  replace hB := bt hB_4 hb4
  replace x := x_5.below hb4 x_5.lt
  replace xk := blk5 x
  replace z := z_6.below hb4 z_6.lt
  replace zk := blk2 z
  replace i1 := i1_7.below hb4
  replace y := y.below hb4 y.lt
  replace yk := blk5 y
  clear hB_4 xk_5 x_5 zk_6 z_6 i1_7
  go_wp2_with fail
  go_ret
  exact ⟨rfl, hB⟩
set_option maxRecDepth 100000 in
set_option maxHeartbeats 1000000 in
theorem walk_ok (D : Dk) (L : Pn) (p q p' q' : Pl) (k : Int) (w : World) (h0 : IsDk0 w D p q) (hbl : D.bad.length ≤ 17592186044416) (hL : IsPn w L p' q') (hg : good D L = true) (hk : okInt k) (E : Dk) (hE : Pn.lay D L = (E, 0)) :
    Calls Try.prog 10 #[dval D p q, pval L p' q', .int .i64 k] w fun e w' => e = .returned (.bool true) ∧ Below w.heap.size w w' := by
  obtain ⟨g1, g2, g3, g4⟩ := good_iff.1 hg
  have hD := h0.full (by omega) hbl (by omega)
  have hG := fun (W : World) (hb : Below w.heap.size w W) => good05 D L p q p' q' W (h0.below hb) (hL.below hb) hbl
  rw [hg] at hG
  have hdl := (Dk.fit_parts g3).2.2.1
  have hst := fun (W : World) (hb : Below w.heap.size w W) => pl_lay D L p q p' q' W (hD.below hb) (hL.below hb) g4.1 (by have := g4.2.1; omega)
  rw [hE] at hst
  have hEd : E.data.length = E.sz * 64 := by
    have h := lay_data L.secs D
    rw [show Dk.layIn L.secs D = (E, 0) from hE] at h
    have h : E.data = D.data := h
    unfold Dk.sz
    rw [h]
    exact hdl
  have hlk := Pn.lay_reads g4 hE
  have Hrd := hid (fun (W : World) (p1 q1 : Pl) (h : IsDk W E p1 q1) (o : Int) => d_read E p1 q1 W h o hEd)
  have Hlo := hid (fun (W : World) (hb : Below w.heap.size w W) (o : Int) => pl_look D L p q p' q' W (hD.below hb) (hL.below hb) o hdl (by have := g4.2.1; omega) g4.1)
  have Hlk := hid (fun (o : Int) => hlk o)
  have Hcells := hid (fun (W : World) (hb : Below w.heap.size w W) => (hL.below hb).targets)
  have Hm := hid (show L.targets.length ≤ 24 from g4.2.1)
  have Hnil := hid hL.pn
  obtain ⟨j1, hi, iz1, iz2, iz3⟩ := info_parts Try.infoIntP
  clear h0 hL hg hD g1 g2 g3 g4 hdl hE hEd hlk
  obtain ⟨A1, a1⟩ := p
  obtain ⟨A2, a2⟩ := q
  obtain ⟨B1, b1⟩ := p'
  obtain ⟨B2, b2⟩ := q'
  have hB := Below.refl w.heap.size w
  have x := Blk.new w 25 #[.string (bs D.data), .slice A1 D.cache.length a1, .int .i64 D.fuse, .bool D.off, .slice A2 D.bad.length a2]
  have xk := blk5 x
  have hB_1 := hB.alloc hB.size (.cells #[.string (bs D.data), .slice A1 D.cache.length a1, .int .i64 D.fuse, .bool D.off, .slice A2 D.bad.length a2] 25)
  have z := Blk.new (w.alloc (.cells #[.string (bs D.data), .slice A1 D.cache.length a1, .int .i64 D.fuse, .bool D.off, .slice A2 D.bad.length a2] 25)) 28 #[.slice B1 L.targets.length b1, .slice B2 L.data.length b2]
  simp only [World.size_alloc] at z
  have zk := blk2 z
  have hB_2 := hB_1.alloc hB_1.size (.cells #[.slice B1 L.targets.length b1, .slice B2 L.data.length b2] 28)
  have x_3 := x.alloc (.cells #[.slice B1 L.targets.length b1, .slice B2 L.data.length b2] 28)
  have xk_3 := blk5 x_3
  go_enter Try.func10, Try.ntmps10
  cases B1 with
  | none =>
    go_wp2_with fail
    go_at_call 13
    refine ((hG _ hB_2)).mono ?_
    rintro e w1 ⟨rfl, hb1⟩
    replace hB := bt hB_2 hb1
    replace x := x_3.below hb1 x_3.lt
    replace xk := blk5 x
    replace z := z.below hb1 z.lt
    replace zk := blk2 z
    clear hB_1 hB_2 xk_3 x_3
    go_wp2_with fail
    go_at_call 39
    refine ((hst _ hB)).mono ?_
    rintro e w2 ⟨⟨p1, q1, rfl, i1, o1⟩, hb2⟩
    replace hB := bt hB hb2
    replace x := x.below hb2 x.lt
    replace xk := blk5 x
    replace z := z.below hb2 z.lt
    replace zk := blk2 z
    have y := Blk.new w2 25 #[.string (bs E.data), .slice p1.a E.cache.length p1.c, .int .i64 E.fuse, .bool E.off, .slice q1.a E.bad.length q1.c]
    have yk := blk5 y
    have hB_4 := hB.alloc hB.size (.cells #[.string (bs E.data), .slice p1.a E.cache.length p1.c, .int .i64 E.fuse, .bool E.off, .slice q1.a E.bad.length q1.c] 25)
    have x_5 := x.alloc (.cells #[.string (bs E.data), .slice p1.a E.cache.length p1.c, .int .i64 E.fuse, .bool E.off, .slice q1.a E.bad.length q1.c] 25)
    have xk_5 := blk5 x_5
    have z_6 := z.alloc (.cells #[.string (bs E.data), .slice p1.a E.cache.length p1.c, .int .i64 E.fuse, .bool E.off, .slice q1.a E.bad.length q1.c] 25)
    have zk_6 := blk2 z_6
    have i1_7 := i1.below ((Below.refl _ _).alloc (Nat.le_refl _) (.cells #[.string (bs E.data), .slice p1.a E.cache.length p1.c, .int .i64 E.fuse, .bool E.off, .slice q1.a E.bad.length q1.c] 25))
    have Hi1 := hid i1
    have s := Blk.new (w2.alloc (.cells #[.string (bs E.data), .slice p1.a E.cache.length p1.c, .int .i64 E.fuse, .bool E.off, .slice q1.a E.bad.length q1.c] 25)) 3 #[.int .i64 k]
    simp only [World.size_alloc] at s
    have sk := blk1 s
    have hB_8 := hB_4.alloc hB_4.size (.cells #[.int .i64 k] 3)
    have x_9 := x_5.alloc (.cells #[.int .i64 k] 3)
    have xk_9 := blk5 x_9
    have z_10 := z_6.alloc (.cells #[.int .i64 k] 3)
    have zk_10 := blk2 z_10
    have i1_11 := i1_7.below ((Below.refl _ _).alloc (Nat.le_refl _) (.cells #[.int .i64 k] 3))
    have y_12 := y.alloc (.cells #[.int .i64 k] 3)
    have yk_12 := blk5 y_12
    have HB := hid hB_8
    have hm := Hm.out
    have hrow := World.ownsRow_lit (base := w2.heap.size + 1) (e := 3) (size := 1) (w2.alloc (.cells #[.string (bs E.data), .slice p1.a E.cache.length p1.c, .int .i64 E.fuse, .bool E.off, .slice q1.a E.bad.length q1.c] 25)) #[.int .i64 k] 1 (by simp) (by unfold maxLen; omega) rfl
    rw [World.size_alloc] at hrow
    clear i1 hst hG
    go_wp2_with (at_builtin; go_must (refine wpList_app rfl _ _ 23 rfl (w2.heap.size + 1) 3 j1 (.int .i64 0) 1 8 Try.underlying23 hi iz1 iz2 iz3 rfl (by decide) _ 1 [.int .i64 k] (by first | rfl | simp) hrow none L.targets.length b1 (intCells L.targets) rfl (Hcells.out _ HB.out) (by rw [intCells_length]; simp) (fun h => by first | exact Hnil.out trivial | cases h) (one_ints _) (by unfold maxLen; omega) (by omega) (by simp) ?_); intro v1 w3 hown hb3; obtain ⟨A, c, rfl, _⟩ := own_slice hown)
    have hs2 : w.heap.size + 1 < w2.heap.size := z.lt
    have x3 := x_9.below hb3 (by omega)
    have z3 := z_10.below hb3 (by omega)
    have y3 := y_12.below hb3 (by omega)
    have b3 : Below w.heap.size w w3 := HB.out.trans (hb3.mono (by omega))
    have hE3 : IsDk w3 E p1 q1 := Hi1.out.below ((below_two _ _ _).trans (hb3.mono (by omega)))
    have hc : Cells w3 A (intCells (k :: L.targets)) := Cells.of_own hown
    obtain ⟨b, off, rfl, hci⟩ := hc.int (i := 0) (by simp)
    have Hci := hid hci
    have Hx := hid x3
    have Hz := hid z3
    have Hy := hid y3
    have Hb3 := hid b3
    have HE3 := hid hE3
    clear hown hb3 x3 z3 y3 b3 hE3 hc hci Hi1
    go_loopw [41] (fun x W => ∃ i : Nat, i ≤ 1 + L.targets.length ∧ x = .int .i64 i ∧ Below w3.heap.size w3 W) (fun x _ => 1 + L.targets.length - (intOf x).toNat)
    case atStart => exact ⟨0, by omega, rfl, Below.refl _ _⟩
    case round =>
      obtain ⟨i, hi, rfl, hV⟩ := hrel
      have hW := Hb3.out.trans (hV.mono Hb3.out.size)
      by_cases hlt : i < 1 + L.targets.length
      · have x := Hx.out.below hV Hx.out.lt
        have z := Hz.out.below hV Hz.out.lt
        have y := Hy.out.below hV Hy.out.lt
        have iE := HE3.out.below hV
        have hl : i < (k :: L.targets).length := by simp; omega
        have c0 := cell_below hV (Hci.out i hl)
        generalize (k :: L.targets)[i] = o at c0
        have hrd := fun (W : World) (h : IsDk W E p1 q1) => Hrd.out W p1 q1 h o
        have hlo := fun (W : World) (hb : Below w.heap.size w W) => Hlo.out W hb o
        rw [Hlk.out o] at hrd
        generalize Pn.look D L o = u at hrd hlo
        obtain ⟨s, f⟩ := u
        clear hl
        have xk := blk5 x
        have zk := blk2 z
        have yk := blk5 y
        go_wp2_with fail
        go_at_call 27
        refine ((hrd _ iE)).mono ?_
        rintro e w4 ⟨rfl, hb4⟩
        replace hV := bt hV hb4
        replace hW := bt hW hb4
        replace iE := iE.below hb4
        replace x := x.below hb4 x.lt
        replace xk := blk5 x
        replace z := z.below hb4 z.lt
        replace zk := blk2 z
        replace y := y.below hb4 y.lt
        replace yk := blk5 y
        go_wp2_with fail
        go_at_call 17
        refine ((hlo _ hW)).mono ?_
        rintro e w5 ⟨rfl, hb5⟩
        replace hV := bt hV hb5
        replace hW := bt hW hb5
        replace iE := iE.below hb5
        replace x := x.below hb5 x.lt
        replace xk := blk5 x
        replace z := z.below hb5 z.lt
        replace zk := blk2 z
        replace y := y.below hb5 y.lt
        replace yk := blk5 y
        go_wp2_with fail
        go_roundw
        case rel => exact ⟨i + 1, by omega, by go_num, hV⟩
        case measure => simp [intOf]; omega
      · obtain rfl : i = 1 + L.targets.length := by omega
        go_wp2_with fail
        go_at_call 14
        refine ((awake05 _)).mono ?_
        rintro e w4 ⟨rfl, hb4⟩
        replace hW := bt hW hb4
        go_wp2_with fail
        go_ret
        exact ⟨rfl, hW⟩
  | some ad =>
    go_wp2_with fail
    go_at_call 13
    refine ((hG _ hB_2)).mono ?_
    rintro e w1 ⟨rfl, hb1⟩
    replace hB := bt hB_2 hb1
    replace x := x_3.below hb1 x_3.lt
    replace xk := blk5 x
    replace z := z.below hb1 z.lt
    replace zk := blk2 z
    clear hB_1 hB_2 xk_3 x_3
    go_wp2_with fail
    go_at_call 39
    refine ((hst _ hB)).mono ?_
    rintro e w2 ⟨⟨p1, q1, rfl, i1, o1⟩, hb2⟩
    replace hB := bt hB hb2
    replace x := x.below hb2 x.lt
    replace xk := blk5 x
    replace z := z.below hb2 z.lt
    replace zk := blk2 z
    have y := Blk.new w2 25 #[.string (bs E.data), .slice p1.a E.cache.length p1.c, .int .i64 E.fuse, .bool E.off, .slice q1.a E.bad.length q1.c]
    have yk := blk5 y
    have hB_4 := hB.alloc hB.size (.cells #[.string (bs E.data), .slice p1.a E.cache.length p1.c, .int .i64 E.fuse, .bool E.off, .slice q1.a E.bad.length q1.c] 25)
    have x_5 := x.alloc (.cells #[.string (bs E.data), .slice p1.a E.cache.length p1.c, .int .i64 E.fuse, .bool E.off, .slice q1.a E.bad.length q1.c] 25)
    have xk_5 := blk5 x_5
    have z_6 := z.alloc (.cells #[.string (bs E.data), .slice p1.a E.cache.length p1.c, .int .i64 E.fuse, .bool E.off, .slice q1.a E.bad.length q1.c] 25)
    have zk_6 := blk2 z_6
    have i1_7 := i1.below ((Below.refl _ _).alloc (Nat.le_refl _) (.cells #[.string (bs E.data), .slice p1.a E.cache.length p1.c, .int .i64 E.fuse, .bool E.off, .slice q1.a E.bad.length q1.c] 25))
    have Hi1 := hid i1
    have s := Blk.new (w2.alloc (.cells #[.string (bs E.data), .slice p1.a E.cache.length p1.c, .int .i64 E.fuse, .bool E.off, .slice q1.a E.bad.length q1.c] 25)) 3 #[.int .i64 k]
    simp only [World.size_alloc] at s
    have sk := blk1 s
    have hB_8 := hB_4.alloc hB_4.size (.cells #[.int .i64 k] 3)
    have x_9 := x_5.alloc (.cells #[.int .i64 k] 3)
    have xk_9 := blk5 x_9
    have z_10 := z_6.alloc (.cells #[.int .i64 k] 3)
    have zk_10 := blk2 z_10
    have i1_11 := i1_7.below ((Below.refl _ _).alloc (Nat.le_refl _) (.cells #[.int .i64 k] 3))
    have y_12 := y.alloc (.cells #[.int .i64 k] 3)
    have yk_12 := blk5 y_12
    have HB := hid hB_8
    have hm := Hm.out
    have hrow := World.ownsRow_lit (base := w2.heap.size + 1) (e := 3) (size := 1) (w2.alloc (.cells #[.string (bs E.data), .slice p1.a E.cache.length p1.c, .int .i64 E.fuse, .bool E.off, .slice q1.a E.bad.length q1.c] 25)) #[.int .i64 k] 1 (by simp) (by unfold maxLen; omega) rfl
    rw [World.size_alloc] at hrow
    clear i1 hst hG
    go_wp2_with (at_builtin; go_must (refine wpList_app rfl _ _ 23 rfl (w2.heap.size + 1) 3 j1 (.int .i64 0) 1 8 Try.underlying23 hi iz1 iz2 iz3 rfl (by decide) _ 1 [.int .i64 k] (by first | rfl | simp) hrow (some ad) L.targets.length b1 (intCells L.targets) rfl (Hcells.out _ HB.out) (by rw [intCells_length]; simp) (fun h => by first | exact Hnil.out trivial | cases h) (one_ints _) (by unfold maxLen; omega) (by omega) (by simp) ?_); intro v1 w3 hown hb3; obtain ⟨A, c, rfl, _⟩ := own_slice hown)
    have hs2 : w.heap.size + 1 < w2.heap.size := z.lt
    have x3 := x_9.below hb3 (by omega)
    have z3 := z_10.below hb3 (by omega)
    have y3 := y_12.below hb3 (by omega)
    have b3 : Below w.heap.size w w3 := HB.out.trans (hb3.mono (by omega))
    have hE3 : IsDk w3 E p1 q1 := Hi1.out.below ((below_two _ _ _).trans (hb3.mono (by omega)))
    have hc : Cells w3 A (intCells (k :: L.targets)) := Cells.of_own hown
    obtain ⟨b, off, rfl, hci⟩ := hc.int (i := 0) (by simp)
    have Hci := hid hci
    have Hx := hid x3
    have Hz := hid z3
    have Hy := hid y3
    have Hb3 := hid b3
    have HE3 := hid hE3
    clear hown hb3 x3 z3 y3 b3 hE3 hc hci Hi1
    go_loopw [41] (fun x W => ∃ i : Nat, i ≤ 1 + L.targets.length ∧ x = .int .i64 i ∧ Below w3.heap.size w3 W) (fun x _ => 1 + L.targets.length - (intOf x).toNat)
    case atStart => exact ⟨0, by omega, rfl, Below.refl _ _⟩
    case round =>
      obtain ⟨i, hi, rfl, hV⟩ := hrel
      have hW := Hb3.out.trans (hV.mono Hb3.out.size)
      by_cases hlt : i < 1 + L.targets.length
      · have x := Hx.out.below hV Hx.out.lt
        have z := Hz.out.below hV Hz.out.lt
        have y := Hy.out.below hV Hy.out.lt
        have iE := HE3.out.below hV
        have hl : i < (k :: L.targets).length := by simp; omega
        have c0 := cell_below hV (Hci.out i hl)
        generalize (k :: L.targets)[i] = o at c0
        have hrd := fun (W : World) (h : IsDk W E p1 q1) => Hrd.out W p1 q1 h o
        have hlo := fun (W : World) (hb : Below w.heap.size w W) => Hlo.out W hb o
        rw [Hlk.out o] at hrd
        generalize Pn.look D L o = u at hrd hlo
        obtain ⟨s, f⟩ := u
        clear hl
        have xk := blk5 x
        have zk := blk2 z
        have yk := blk5 y
        go_wp2_with fail
        go_at_call 27
        refine ((hrd _ iE)).mono ?_
        rintro e w4 ⟨rfl, hb4⟩
        replace hV := bt hV hb4
        replace hW := bt hW hb4
        replace iE := iE.below hb4
        replace x := x.below hb4 x.lt
        replace xk := blk5 x
        replace z := z.below hb4 z.lt
        replace zk := blk2 z
        replace y := y.below hb4 y.lt
        replace yk := blk5 y
        go_wp2_with fail
        go_at_call 17
        refine ((hlo _ hW)).mono ?_
        rintro e w5 ⟨rfl, hb5⟩
        replace hV := bt hV hb5
        replace hW := bt hW hb5
        replace iE := iE.below hb5
        replace x := x.below hb5 x.lt
        replace xk := blk5 x
        replace z := z.below hb5 z.lt
        replace zk := blk2 z
        replace y := y.below hb5 y.lt
        replace yk := blk5 y
        go_wp2_with fail
        go_roundw
        case rel => exact ⟨i + 1, by omega, by go_num, hV⟩
        case measure => simp [intOf]; omega
      · obtain rfl : i = 1 + L.targets.length := by omega
        go_wp2_with fail
        go_at_call 14
        refine ((awake05 _)).mono ?_
        rintro e w4 ⟨rfl, hb4⟩
        replace hW := bt hW hb4
        go_wp2_with fail
        go_ret
        exact ⟨rfl, hW⟩
theorem walk (w : World) (D : Dk) (p q : Pl) (hD : IsDk0 w D p q ∧ D.cache.length * Try.prog.bytesOf 45 ≤ reachBytes ∧ D.bad.length * Try.prog.bytesOf 3 ≤ reachBytes) (L : Pn) (p' q' : Pl) (hL : IsPn w L p' q') (k : Int) (wk : (Lit.int .i64 k).wf = true) :
    Calls Try.prog 10 #[dval D p q, pval L p' q', .int .i64 k] w fun e w' => e = .returned (.bool true) ∧ Below w.heap.size w w' := by
  obtain ⟨hD, c1, b1⟩ := hD
  rw [show Try.prog.bytesOf 3 = 8 by kernel_rfl] at b1
  unfold reachBytes at b1
  cases hg : good D L with
  | false => exact walk_no D L p q p' q' k w hD (by omega) hL hg
  | true =>
    obtain ⟨E, er, hE⟩ : ∃ E er, Pn.lay D L = (E, er) := ⟨_, _, rfl⟩
    by_cases h0 : er = 0
    · subst h0
      exact walk_ok D L p q p' q' k w hD (by omega) hL hg (okInt_of wk) E hE
    · exact walk_not D L p q p' q' k w hD (by omega) hL hg (okInt_of wk) E er hE h0
/-! ### The row -/
theorem own : ownKnob Try.prog.godebug = none := by kernel_rfl
set_option maxRecDepth 100000 in
theorem lifted (os : Os) (started : os.Started) (H : Type) (enc : TypeId × Value → H) :
    ReturnsInHanded {} Try.checked os 10 .any (Rows.planLaysSpec.pre6 enc Try.prog Try.f10 Rows.planLaysRow.domain false) (Rows.planLaysSpec.post enc Try.prog Try.f10 false true false false) := by
  refine returnsInHanded_of_change_sized (C := Try.checked) own started (by kernel_rfl) Try.func10
    (ChangeSpec.witness6 (enc := enc) (C := Try.checked) false ⟨#[], #[.agg #[.string ByteArray.empty, .slice none 0 0, .int .i64 0, .bool false, .slice none 0 0], .agg #[.slice none 0 0, .slice none 0 0], .int .i64 0], []⟩ 8 (by kernel_rfl) (by kernel_rfl) (by kernel_rfl) (by kernel_rfl)) ?_
  intro W base args ds gs before hval0 hW hcnd hsz0 _
  have hval : ∀ (j : Nat) t v, Try.f10.params[j]? = some t → args[j]? = some v → Value.okWide Try.prog W .any base t v := hval0
  have hW' := hW
  obtain ⟨p, q, hA0, hV, rfl, hfz, hnd⟩ := hW
  have hA : DataW.TrodAll enc Try.prog W 0 (fun _ => true) true Try.f10.params.toList args.toList ds p := hA0
  have hAk := hA
  have hsz : (DataW.weightsEach Try.prog (Try.f10.params.toList ++ Rows.planLaysSpec.plain.varTypes Try.prog) (ds ++ gs)).all (· ≤ reachBytes) = true := hsz0
  rw [Try.params10] at hA hval hsz
  obtain ⟨v0, vs0, d0, ds0, p0, q0, hargs, rfl, rfl, h0, r0⟩ := trodAll_cons hA
  obtain ⟨v1, vs1, d1, ds1, p1, q1, rfl, rfl, rfl, h1, r1⟩ := trodAll_cons r0
  obtain ⟨v2, vs2, d2, ds2, p2, q2, rfl, rfl, rfl, h2, r2⟩ := trodAll_cons r1
  obtain ⟨rfl, rfl, rfl⟩ := trodAll_nil r2
  obtain rfl : args = #[v0, v1, v2] := by cases args; simp_all
  obtain ⟨rfl, rfl⟩ := trodVars_none hV
  obtain ⟨D0, P0, Q0, rfl, w0⟩ := open_dk_sized Try.underlying25 (by kernel_rfl) (by kernel_rfl) Try.underlying9 Try.underlying22 Try.underlying3 Try.underlying4 Try.underlying23 Try.underlying45 (by kernel_rfl) (by kernel_rfl) Try.underlying3 Try.underlying9 Try.underlying3 (by kernel_rfl) (hval 0 25 v0 rfl rfl) h0 (weights_each hsz (j := 0) rfl rfl)
  obtain ⟨D1, P1, Q1, rfl, w1⟩ := open_plan Try.underlying28 (by kernel_rfl) (by kernel_rfl) Try.underlying23 Try.underlying26 Try.underlying3 (by kernel_rfl) Try.underlying9 (by kernel_rfl) (hval 1 28 v1 rfl rfl) h1
  obtain ⟨a2, rfl, rfl, rfl, w2⟩ := open_int Try.underlying3 (hval 2 3 v2 rfl rfl) h2
  clear hA0 hval0
  simp only [List.append_nil] at hW'
  refine (walk W D0 P0 Q0 w0 D1 P1 Q1 w1 a2 w2).mono fun e W' ⟨he, hb⟩ => ?_
  subst he
  exact ⟨_, rfl, post_of_below (pa := _) (pv := []) hW' (fun _ _ _ => (trodAll_cons_mk (shut_bool Try.underlying4 _) trodAll_mk0)) (fun sp hsp => trodAll_stays (by kernel_rfl) hb (by kernel_rfl) hAk (fun x hx => hW'.lt x (by simpa using hx)) (fun x hx => hsp x (by simpa using hx))) (fun _ _ => rfl) (by simp) hb (ok_one (by kernel_rfl) rfl (okWide_bool_mk Try.underlying4 _))⟩
theorem over_ : Rows.planLaysRow.holds Try.pinned (OpenSpec.ofChange Rows.planLaysSpec) :=
  OpenClaim.holds_of_wide 10 Try.f10 rfl rfl rfl rfl rfl rfl rfl ⟨rfl, rfl, rfl, rfl, rfl⟩ rfl rfl rfl rfl rfl (by kernel_rfl) Try.func10 (by kernel_rfl)
    (of_decide_eq_true (by kernel_rfl)) (by unfold Func.isWrapper; first | (rw [if_pos (by decide +kernel)]; kernel_rfl) | (rw [if_neg (by decide +kernel)]; exact ⟨rfl, rfl⟩))
    (fun os started H enc _ => lifted os started H enc)
/-- The statement. -/
theorem proved : Rows.PlanLaysSaid := over_
#print axioms proved
end Go.Proofs.Ytjpjpiejcpeepaa.planLays
