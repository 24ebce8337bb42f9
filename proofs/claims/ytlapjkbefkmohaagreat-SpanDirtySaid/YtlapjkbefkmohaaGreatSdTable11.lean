/- The document's ref11: a table that has nothing. -/
import Derived.Test.YtlapjkbefkmohaaGreatSdTable10
import Derived.Test.YtlapjkbefkmohaaGreatSdRegs
set_option linter.unusedVariables false
set_option linter.unusedSimpArgs false
namespace Go.Proofs.YtlapjkbefkmohaaGreat
open Go.RowKit Go.Shelf
attribute [local go_sem] bs_mk bs_append bs_extract bs_size bs_toList bs_get
/-- A row of 64 zeros. -/
def Zr (W : World) (g : Nat) : Prop := ∀ j, j < 64 → W.cell? ⟨g, j, none⟩ = some (.int .u8 0)
theorem zr_new (W : World) (t : TypeId) : Zr (W.alloc (.cells (madeCells #[.int .u8 0] 64) t)) W.heap.size := fun j hj => by
 have h := (Blk.new W t (madeCells #[.int .u8 0] 64)).cell j
 rw [h]
 simp [madeCells, hj, Nat.mod_one]
theorem zr_alloc {W : World} {g : Nat} (h : Zr W g) (o : Obj) : Zr (W.alloc o) g := fun j hj => cell_below ((Below.refl _ _).alloc (Nat.le_refl _) o) (h j hj)
theorem zr_below {W W' : World} {g : Nat} (h : Zr W g) (hb : Below W.heap.size W W') : Zr W' g := fun j hj => cell_below hb (h j hj)
theorem zr_at {W : World} {t : TypeId} {g : Nat} (h : g = W.heap.size) : Zr (W.alloc (.cells (madeCells #[.int .u8 0] 64) t)) g := h ▸ zr_new W t
theorem zr_at2 {W : World} {t : TypeId} {g : Nat} {o : Obj} (h : g = W.heap.size) : Zr ((W.alloc (.cells (madeCells #[.int .u8 0] 64) t)).alloc o) g := zr_alloc (zr_at h) o
theorem zr_drew {W : World} {g : Nat} (h : Zr W g) : Zr W.drew g := h
theorem zr_at_d {W : World} {t : TypeId} {g : Nat} (h : g = W.heap.size) : Zr (W.alloc (.cells (madeCells #[.int .u8 0] 64) t)).drew g := zr_drew (zr_at h)
theorem zr_at2_d {W : World} {t : TypeId} {g : Nat} {o : Obj} (h : g = W.heap.size) : Zr ((W.alloc (.cells (madeCells #[.int .u8 0] 64) t)).alloc o).drew g := zr_drew (zr_at2 h)
theorem zr_conv {W : World} {g : Nat} (h : Zr W g) : (convert 77 9 (.slice (some ⟨g, 0, none⟩) 64 64)).run Tryz.prog W = .ok (.string (bs (List.replicate 64 0))) W := by
 have := run_convert_bytes_back (P := Tryz.prog) W 77 9 5 ⟨g, 0, none⟩ 64 (List.replicate 64 0) Tryz.underlying77 Tryz.underlying5 Tryz.underlying9 (fun j hj => by
  have h2 := h j (by simpa using hj)
  have e : (⟨g, 0, none⟩ : Addr).add j = ⟨g, j, none⟩ := by by_cases hz : j = 0 <;> simp [Addr.add, hz]
  rw [e, h2, List.getElem_replicate]; rfl)
 exact this
theorem zr_make (W : World) : (Instr.makeSlice 77 (.int .i64 64) (.int .i64 64)).run Tryz.prog W = .ok (.slice (some ⟨W.heap.size, 0, none⟩) 64 64) (W.alloc (.cells (madeCells #[.int .u8 0] 64) 5)) := by
 obtain ⟨i0, hi, hz0, hz1, hz2⟩ := info_parts Tryz.infoByte
 have := run_make_rowN (P := Tryz.prog) 77 5 i0 (.int .u8 0) Tryz.underlying77 hi hz0 .i64 .i64 64 64 (Nat.le_refl _) (by rw [hz2]; omega) (by omega) W
 rw [hz1] at this
 exact this
section
variable {P : Program} {ops : Array Oper} {Q : Exit → Act → World → Prop} {md : Region.Mode} {S : World → Prop} {late : Nat → Bool}
theorem wpLate_three {i j k : Nat} {o o1 o2 : Oper} {fuel : Nat} {listed : Array Bool} {a : Act} {w₀ : World} (hr : Region.ready md ops listed = [i, j, k]) (ho : ops[i]? = some o) (hg : o.guard = none) (ho1 : ops[j]? = some o1) (hg1 : o1.guard = none) (ho2 : ops[k]? = some o2) (hg2 : o2.guard = none)
 (h : ∀ K' : Act → World → Prop, (∀ a w, (late i = false → S w₀ → S w) → wpLate P md ops Q S late fuel (listed.setIfInBounds i true) a w → K' a w) → o.wp P a w₀ K' Q)
 (h1 : ∀ K' : Act → World → Prop, (∀ a w, (late j = false → S w₀ → S w) → wpLate P md ops Q S late fuel (listed.setIfInBounds j true) a w → K' a w) → o1.wp P a w₀ K' Q)
 (h2 : ∀ K' : Act → World → Prop, (∀ a w, (late k = false → S w₀ → S w) → wpLate P md ops Q S late fuel (listed.setIfInBounds k true) a w → K' a w) → o2.wp P a w₀ K' Q) : wpLate P md ops Q S late (fuel + 1) listed a w₀ :=
 ⟨fun h0 => (by rw [hr] at h0; cases h0), fun x hx => by
  rw [hr] at hx
  rcases List.mem_cons.1 hx with hx | hx
  · rw [hx]
    refine wpOp_step ho fun K' hK => ?_
    rw [if_pos (by simp [Region.wanted, hg])]
    exact h K' fun a w h1 h2 => hK a w ⟨h1, h2⟩
  rcases List.mem_cons.1 hx with hx | hx
  · rw [hx]
    refine wpOp_step ho1 fun K' hK => ?_
    rw [if_pos (by simp [Region.wanted, hg1])]
    exact h1 K' fun a w h1 h2 => hK a w ⟨h1, h2⟩
  · rw [List.mem_singleton.1 hx]
    refine wpOp_step ho2 fun K' hK => ?_
    rw [if_pos (by simp [Region.wanted, hg2])]
    exact h2 K' fun a w h1 h2 => hK a w ⟨h1, h2⟩⟩
theorem oper_enter {o : Oper} {a : Act} {w w' : World} {f : FuncId} {args : Array Value} {K : Act → World → Prop} (hr : (execOp a.eval o).run P w = .ok (.enter f args) w')
 (h : Calls P f args w' fun e w'' => ∃ v, e = .returned v ∧ K (a.put o.dst v) w'') : o.wp P a w K Q := by
 simp only [Oper.wp, hr, Oper.upon]
 refine h.mono ?_
 rintro e w'' ⟨v, rfl, hv⟩
 exact hv
end

theorem t11_blank_no (L : Pn) (p' q' : Pl) (w : World) (hL : IsPn w L p' q') (t : Int) (h : t < 0 ∨ 256 ≤ t) :
 Calls Tryz.prog 95 #[pval L p' q', .int .i64 t] w fun e w' => RetPn w.heap.size L p' q' (Pn.tabBlank L t) e w' ∧ Below w.heap.size w w' := by
 have Hz := hid (fun (W : World) (hb : Below w.heap.size w W) => hL.below hb)
 have Hr := hid (show Pn.tabBlank L t = (L, 10) by rw [Pn.tabBlank, if_pos h])
 have ho := fun W => t11_cluster_out t h W
 clear hL h
 obtain ⟨B1, b1⟩ := p'
 obtain ⟨B2, b2⟩ := q'
 have hB := Below.refl w.heap.size w
 have z := Blk.new w 67 #[.slice B1 L.targets.length b1, .slice B2 L.data.length b2]
 have zk := blk2 z
 have hB_1 := hB.alloc hB.size (.cells #[.slice B1 L.targets.length b1, .slice B2 L.data.length b2] 67)
 have r := Blk.new (w.alloc (.cells #[.slice B1 L.targets.length b1, .slice B2 L.data.length b2] 67)) 67 #[.slice none 0 0, .slice none 0 0]
 simp only [World.size_alloc] at r
 have rk := blk2 r
 have rkf := r.frozen
 have hB_2 := hB_1.alloc hB_1.size (.cells #[.slice none 0 0, .slice none 0 0] 67)
 have z_3 := z.alloc (.cells #[.slice none 0 0, .slice none 0 0] 67)
 have zk_3 := blk2 z_3
 go_enter Tryz.func95, Tryz.ntmps95
 go_wp2_with fail
 go_at_call 94
 refine ((ho _)).mono ?_
 rintro e w1 ⟨rfl, hb1⟩
 replace hB := bt hB_2 hb1
 replace z := z_3.below hb1 z_3.lt
 replace zk := blk2 z
 replace r := r.below hb1 r.lt
 replace rk := blk2 r
 replace rkf := r.frozen
 clear hB_1 hB_2 zk_3 z_3
 have rl : w.heap.size + 1 < w1.heap.size := r.lt
 go_wp2_with fail
 rw [Hr.out]
 have yy := blk2 (blk_set2 r (.slice B1 L.targets.length b1) (.slice B2 L.data.length b2))
 have b9 := below_set2 hB (g := w.heap.size + 1) (by omega) (.slice B1 L.targets.length b1) (.slice B2 L.data.length b2)
 refine bodyPost_ret (v := .tuple #[pval L ⟨B1, b1⟩ ⟨B2, b2⟩, .int .i64 10]) (by simp [results, Tryz.results95, go_sem, yy]) rfl ?_
 exact ⟨⟨_, _, rfl, Hz.out _ b9, fun _ _ h => h⟩, b9⟩
attribute [local go_sem] zr_at zr_at2 zr_at_d zr_at2_d zr_alloc zr_conv zr_make
set_option maxRecDepth 100000 in
set_option maxHeartbeats 2000000 in
theorem t11_blank_yes (L : Pn) (p' q' : Pl) (w : World) (hL : IsPn w L p' q') (hfl : L.Fit) (t : Int) (h : ¬ (t < 0 ∨ 256 ≤ t)) :
 Calls Tryz.prog 95 #[pval L p' q', .int .i64 t] w fun e w' => RetPn w.heap.size L p' q' (Pn.tabBlank L t) e w' ∧ Below w.heap.size w w' := by
 have Hap := hid (fun g (hg : w.heap.size ≤ g) => hL.apart hg)
 have Hz := hid (fun (W : World) (hb : Below w.heap.size w W) => hL.below hb)
 have Hr := hid (show Pn.tabBlank L t = Pn.set2 L t (fun _ _ => (List.replicate 64 0, 0)) by rw [Pn.tabBlank, if_neg h])
 have ho := fun W => t11_cluster_in t (by omega) (by omega) W
 have Hfl := hid hfl
 have t0 : 0 ≤ t := by omega
 have t1 : t < 256 := by omega
 clear hL h hfl
 obtain ⟨B1, b1⟩ := p'
 obtain ⟨B2, b2⟩ := q'
 have hB := Below.refl w.heap.size w
 have z := Blk.new w 67 #[.slice B1 L.targets.length b1, .slice B2 L.data.length b2]
 have zk := blk2 z
 have hB_1 := hB.alloc hB.size (.cells #[.slice B1 L.targets.length b1, .slice B2 L.data.length b2] 67)
 have r := Blk.new (w.alloc (.cells #[.slice B1 L.targets.length b1, .slice B2 L.data.length b2] 67)) 67 #[.slice none 0 0, .slice none 0 0]
 simp only [World.size_alloc] at r
 have rk := blk2 r
 have rkf := r.frozen
 have hB_2 := hB_1.alloc hB_1.size (.cells #[.slice none 0 0, .slice none 0 0] 67)
 have z_3 := z.alloc (.cells #[.slice none 0 0, .slice none 0 0] 67)
 have zk_3 := blk2 z_3
 go_enter Tryz.func95, Tryz.ntmps95
 go_wp2_with fail
 go_at_call 94
 refine ((ho _)).mono ?_
 rintro e w2 ⟨rfl, hb2⟩
 replace hB := bt hB_2 hb2
 replace z := z_3.below hb2 z_3.lt
 replace zk := blk2 z
 replace r := r.below hb2 r.lt
 replace rk := blk2 r
 replace rkf := r.frozen
 clear hB_1 hB_2 zk_3 z_3
 have w2l : w.heap.size + 1 < w2.heap.size := r.lt
 go_wp2_with fail
 have y := Blk.new w2 67 #[.slice B1 L.targets.length b1, .slice B2 L.data.length b2]
 have yk := blk2 y
 have ykf := y.frozen
 have hB_4 := hB.alloc hB.size (.cells #[.slice B1 L.targets.length b1, .slice B2 L.data.length b2] 67)
 have z_5 := z.alloc (.cells #[.slice B1 L.targets.length b1, .slice B2 L.data.length b2] 67)
 have zk_5 := blk2 z_5
 have r_6 := r.alloc (.cells #[.slice B1 L.targets.length b1, .slice B2 L.data.length b2] 67)
 have rk_6 := blk2 r_6
 have rkf_6 := r_6.frozen
 generalize (w2.alloc (.cells #[.slice B1 L.targets.length b1, .slice B2 L.data.length b2] 67)) = V at hB_4 z_5 zk_5 r_6 rk_6 rkf_6 y yk ykf ⊢
 clear hB z r zk rk rkf
 have hB := hB_4
 have z := z_5
 have zk := zk_5
 have r := r_6
 have rk := rk_6
 have rkf := rkf_6
 clear hB_4 z_5 zk_5 r_6 rk_6 rkf_6
 have wl := hB.size
 go_loopw [7] (fun v W => ∃ i : Nat, i ≤ 2 ∧ v = .int .i64 i ∧ ∃ X pp qq, Hid (Pn.st2 L t (fun _ _ => (List.replicate 64 0, 0)) i X) ∧ Hid X.Fit ∧ IsPn W X pp qq ∧ Hid (∀ g, g < w2.heap.size + 1 → PnOff g L ⟨B1, b1⟩ ⟨B2, b2⟩ → PnOff g X pp qq) ∧
  Blk W w.heap.size 67 #[.slice B1 L.targets.length b1, .slice B2 L.data.length b2] ∧ Blk W (w.heap.size + 1) 67 #[.slice none 0 0, .slice none 0 0] ∧
  Blk W w2.heap.size 67 #[.slice pp.a X.targets.length pp.c, .slice qq.a X.data.length qq.c] ∧ Below w.heap.size w W) (fun v _ => 2 - (intOf v).toNat)
 case atStart => exact ⟨0, by omega, rfl, L, ⟨B1, b1⟩, ⟨B2, b2⟩, hid rfl, Hfl, Hz.out _ hB, hid (fun g _ h => h), z, r, y, hB⟩
 case round =>
  clear z zk r rk y yk hB wl
  obtain ⟨i, hi, rfl, X, ⟨P1, c1⟩, ⟨P2, c2⟩, hst, hXf, hX, hoff, z, r, y, hB⟩ := hrel
  have Hap2 := hid (fun g (hg : w.heap.size ≤ g) (hg' : g < w2.heap.size + 1) => hoff.out g hg' (Hap.out g hg))
  by_cases hlt : i < 2
  · have i1 : (i : Int) < 2 := by omega
    have Hbad := hid (Pn.st2_bad (half := fun _ _ => (List.replicate 64 0, 0)) hlt hst.out)
    have Hnext := hid (Pn.st2_next (half := fun _ _ => (List.replicate 64 0, 0)) hlt hst.out)
    have Hbad1 := hid (Hbad.out rfl)
    have Hnext1 := hid (Hnext.out rfl)
    clear Hbad Hnext
    have hw1 := i64w (x := 96 + 2 * t + (i : Int)) (by omega)
    have hat := fun W => r4_at t (by omega) (by omega) W
    have hs := fun (W : World) (hb : Below wr.heap.size wr W) => r5_set X ⟨P1, c1⟩ ⟨P2, c2⟩ W (hX.below hb) (96 + 2 * t + (i : Int)) (by omega) (List.replicate 64 0) (by simp) (by have := hXf.out.2.1; omega) hXf.out.1
    have hYf := Pn.set_fit hXf.out (96 + 2 * t + (i : Int)) (List.replicate 64 0)
    generalize X.set (96 + 2 * t + (i : Int)) (List.replicate 64 0) = N at hs Hbad1 Hnext1 hYf
    obtain ⟨Y, er2⟩ := N
    simp only at hYf hs
    have yk := blk2 y
    have hYf := hid hYf
    generalize hw3 : wr = w3 at *
    have Hap3 := hid (fun g (hg : w3.heap.size ≤ g) => hX.apart hg)
    have yl : w2.heap.size < w3.heap.size := y.lt
    have s0 : (w3.drew.cell? ⟨w2.heap.size, 0, none⟩ = some (.slice P1 X.targets.length c1) ∧ w3.drew.cell? ⟨w2.heap.size, 1, none⟩ = some (.slice P2 X.data.length c2)) ∧ Below w3.heap.size w3 w3.drew := ⟨yk, (Below.refl _ _).drew⟩
    have s00 : (w3.cell? ⟨w2.heap.size, 0, none⟩ = some (.slice P1 X.targets.length c1) ∧ w3.cell? ⟨w2.heap.size, 1, none⟩ = some (.slice P2 X.data.length c2)) ∧ Below w3.heap.size w3 w3 := ⟨s0.1, Below.refl _ _⟩
    have b0 := s0.2
    have hsz : w3.drew.heap.size = w3.heap.size := rfl
    have Hsz := hid hsz
    clear hsz yk
    go_upto_region 7 with fail
    go_cut [8, 9] (fun s8 s9 wx => PnMade w3 w3.heap.size w3.heap.size w3.heap.size X ⟨P1, c1⟩ ⟨P2, c2⟩ Y er2 s8 s9 wx)
    case first =>
     have Hs0 := s0
     refine wp_region_late (S := fun W => (W.cell? ⟨w2.heap.size, 0, none⟩ = some (.slice P1 X.targets.length c1) ∧ W.cell? ⟨w2.heap.size, 1, none⟩ = some (.slice P2 X.data.length c2)) ∧ Below w3.heap.size w3 W) (late := fun i => i == 12) (by kernel_rfl) ?_
     generalize w3.drew = U0 at s0 ⊢
     simp only [List.size_toArray, List.length_cons, List.length_nil, Nat.reduceAdd, Array.replicate_succ, Array.replicate_zero, List.push_toArray, List.nil_append, List.cons_append]
     refine wpLate_take (i := 0) (oi := _) (v := pval X ⟨P1, c1⟩ ⟨P2, c2⟩) (d := some 20) rfl rfl (by kernel_rfl) (by kernel_rfl) (by kernel_rfl) (by kernel_rfl) (fun _ _ _ h => h) rfl (fun W hW => by have h := hW.1; go_simp) s0 ?_
     simp only [Act.put, List.setIfInBounds_toArray, List.set_cons_zero, List.set_cons_succ]
     refine wpLate_take0 (i := 1) (oi := _) (v := .int .i64 t) (d := some 21) rfl rfl (by kernel_rfl) (by kernel_rfl) (by kernel_rfl) (fun _ _ _ h => h) rfl (fun W => by rfl) ?_
     simp only [Act.put, List.setIfInBounds_toArray, List.set_cons_zero, List.set_cons_succ]
     refine wpLate_take0 (i := 3) (oi := _) (v := .int .i64 (i : Int)) (d := some 23) rfl rfl (by kernel_rfl) (by kernel_rfl) (by kernel_rfl) (fun _ _ _ h => h) rfl (fun W => by rfl) ?_
     simp only [Act.put, List.setIfInBounds_toArray, List.set_cons_zero, List.set_cons_succ]
     refine wpLate_three (i := 2) (j := 5) (k := 11) (by kernel_rfl) rfl rfl rfl rfl rfl rfl (fun K hK => ?_) (fun K hK => ?_) (fun K hK => ?_)
     · refine oper_enter (f := 38) (args := #[.int .i64 t]) (w' := U0) (by go_simp) ((hat U0).mono ?_)
       rintro e U1 ⟨rfl, hb⟩
       refine ⟨_, rfl, ?_⟩
       show K (Act.put _ (some 22) _) _
       have s1 := held2 s0 hb
       refine hK _ _ (fun _ _ => s1) ?_
       simp only [Act.put, List.setIfInBounds_toArray, List.set_cons_zero, List.set_cons_succ]
       refine wpLate_take0 (i := 4) (oi := _) (v := .int .i64 (96 + 2 * t + (i : Int))) (d := some 24) rfl rfl (by kernel_rfl) (by kernel_rfl) (by kernel_rfl) (fun _ _ _ h => h) rfl (fun W => by go_simp) ?_
       simp only [Act.put, List.setIfInBounds_toArray, List.set_cons_zero, List.set_cons_succ]
       refine wpLate_two (i := 5) (k := 11) (by kernel_rfl) rfl rfl rfl rfl (fun K hK => ?_) (fun K hK => ?_)
       · refine oper_ran (v := .slice (some ⟨U1.heap.size, 0, none⟩) 64 64) (w' := U1.alloc (.cells (madeCells #[.int .u8 0] 64) 5)) (by go_simp) ?_
         show K (Act.put _ (some 25) _) _
         have s2 := held2 s1 ((Below.refl U1.heap.size U1).alloc (Nat.le_refl _) (.cells (madeCells #[.int .u8 0] 64) 5))
         have z2 := zr_new U1 5
         refine hK _ _ (fun _ _ => s2) ?_
         generalize U1.alloc (.cells (madeCells #[.int .u8 0] 64) 5) = U2 at s2 z2 ⊢
         generalize U1.heap.size = gz at z2 ⊢
         simp only [Act.put, List.setIfInBounds_toArray, List.set_cons_zero, List.set_cons_succ]
         refine wpLate_two (i := 6) (k := 11) (by kernel_rfl) rfl rfl rfl rfl (fun K hK => ?_) (fun K hK => ?_)
         · refine oper_ran (v := .string (bs (List.replicate 64 0))) (w' := U2) (by have h := zr_conv z2; go_simp) ?_
           show K (Act.put _ (some 26) _) _
           refine hK _ _ (fun _ h => h) ?_
           simp only [Act.put, List.setIfInBounds_toArray, List.set_cons_zero, List.set_cons_succ]
           refine wpLate_two (i := 7) (k := 11) (by kernel_rfl) rfl rfl rfl rfl (fun K hK => ?_) (fun K hK => ?_)
           · refine oper_enter (f := 50) (args := #[pval X ⟨P1, c1⟩ ⟨P2, c2⟩, .int .i64 (96 + 2 * t + (i : Int)), .string (bs (List.replicate 64 0))]) (w' := U2) (by go_simp) ((hs U2 s2.2).mono ?_)
             rintro e U4 ⟨⟨p3, q3, rfl, i3, o3⟩, hb⟩
             have o4 : ∀ h, h < w3.heap.size → PnOff h X ⟨P1, c1⟩ ⟨P2, c2⟩ → PnOff h Y p3 q3 := fun h hh ho => o3 h (Nat.lt_of_lt_of_le hh s2.2.size) ho
             clear o3
             refine ⟨_, rfl, ?_⟩
             show K (Act.put _ (some 27) _) _
             have s4 := held2 s2 hb
             have z4 := zr_below z2 hb
             refine hK _ _ (fun _ _ => s4) ?_
             simp only [Act.put, List.setIfInBounds_toArray, List.set_cons_zero, List.set_cons_succ]
             refine wpLate_take0 (i := 8) (oi := _) (v := .tuple #[pval Y p3 q3, .int .i64 er2]) (d := some 19) rfl rfl (by kernel_rfl) (by kernel_rfl) (by kernel_rfl) (fun _ _ _ h => h) rfl (fun W => by rfl) ?_
             simp only [Act.put, List.setIfInBounds_toArray, List.set_cons_zero, List.set_cons_succ]
             refine wpLate_take0 (i := 9) (oi := _) (v := pval Y p3 q3) (d := some 28) rfl rfl (by kernel_rfl) (by kernel_rfl) (by kernel_rfl) (fun _ _ _ h => h) rfl (fun W => by rfl) ?_
             simp only [Act.put, List.setIfInBounds_toArray, List.set_cons_zero, List.set_cons_succ]
             refine wpLate_take0 (i := 10) (oi := _) (v := .int .i64 er2) (d := some 29) rfl rfl (by kernel_rfl) (by kernel_rfl) (by kernel_rfl) (fun _ _ _ h => h) rfl (fun W => by rfl) ?_
             simp only [Act.put, List.setIfInBounds_toArray, List.set_cons_zero, List.set_cons_succ]
             refine wpLate_one (i := 11) (by kernel_rfl) rfl rfl (fun K hK => ?_)
             refine oper_ran (v := .pointer (some ⟨U4.heap.size, 0, none⟩)) (w' := U4.alloc (.cells #[.slice none 0 0, .slice none 0 0] 67)) (by go_simp) ?_
             show K (Act.put _ (some 8) _) _
             have s5 := held2 s4 ((Below.refl U4.heap.size U4).alloc (Nat.le_refl _) (.cells #[.slice none 0 0, .slice none 0 0] 67))
             have z5 := zr_alloc z4 (.cells #[.slice none 0 0, .slice none 0 0] 67)
             have b5 := Blk.new U4 67 #[.slice none 0 0, .slice none 0 0]
             have gb0 : w3.heap.size ≤ U4.heap.size := s4.2.size
             have oB := i3.apart (g := U4.heap.size) (Nat.le_refl _)
             replace i3 := i3.below ((Below.refl U4.heap.size U4).alloc (Nat.le_refl _) (.cells #[.slice none 0 0, .slice none 0 0] 67))
             refine hK _ _ (fun _ _ => s5) ?_
             generalize U4.alloc (.cells #[.slice none 0 0, .slice none 0 0] 67) = U5 at s5 z5 b5 i3 ⊢
             generalize U4.heap.size = gb at b5 gb0 oB ⊢
             simp only [Act.put, List.setIfInBounds_toArray, List.set_cons_zero, List.set_cons_succ]
             refine wpLate_one (i := 12) (by kernel_rfl) rfl rfl (fun K hK => ?_)
             refine oper_skip (w' := (U5.setCell ⟨gb, 0, none⟩ (.slice p3.a Y.targets.length p3.c)).setCell ⟨gb, 1, none⟩ (.slice q3.a Y.data.length q3.c)) (by have u0 := blk2 b5; have uf := b5.frozen; have qq := b5.set 0 (.slice p3.a Y.targets.length p3.c); have uf2 := qq.frozen; have u1 := blk2 qq; go_simp) ?_
             show K (Act.put _ none _) _
             have b6 := blk_set2 b5 (.slice p3.a Y.targets.length p3.c) (.slice q3.a Y.data.length q3.c)
             have bw := below_set2 s5.2 gb0 (.slice p3.a Y.targets.length p3.c) (.slice q3.a Y.data.length q3.c)
             replace i3 := i3.off2 oB (.slice p3.a Y.targets.length p3.c) (.slice q3.a Y.data.length q3.c)
             refine hK _ _ (fun h => by cases h) ?_
             try simp only [Act.put, List.setIfInBounds_toArray, List.set_cons_zero, List.set_cons_succ]
             refine wpLate_take0 (i := 13) (oi := _) (v := .int .i64 er2) (d := some 9) rfl rfl (by kernel_rfl) (by kernel_rfl) (by kernel_rfl) (fun _ _ _ h => h) rfl (fun W => by rfl) ?_
             simp only [Act.put, List.setIfInBounds_toArray, List.set_cons_zero, List.set_cons_succ]
             refine wpLate_done (by kernel_rfl) ?_ _
             go_wp2_with fail
             go_meet
             exact ⟨gb, p3, q3, rfl, rfl, gb0, b6, i3, o4, bw⟩
           · refine oper_ran (v := .pointer (some ⟨U2.heap.size, 0, none⟩)) (w' := U2.alloc (.cells #[.slice none 0 0, .slice none 0 0] 67)) (by go_simp) ?_
             show K (Act.put _ (some 8) _) _
             have s7 := held2 s2 ((Below.refl U2.heap.size U2).alloc (Nat.le_refl _) (.cells #[.slice none 0 0, .slice none 0 0] 67))
             have z7 := zr_alloc z2 (.cells #[.slice none 0 0, .slice none 0 0] 67)
             have b7 := Blk.new U2 67 #[.slice none 0 0, .slice none 0 0]
             have gb0 : w3.heap.size ≤ U2.heap.size := s2.2.size
             refine hK _ _ (fun _ _ => s7) ?_
             generalize U2.alloc (.cells #[.slice none 0 0, .slice none 0 0] 67) = U7 at s7 z7 b7 ⊢
             generalize U2.heap.size = gb at b7 gb0 ⊢
             simp only [Act.put, List.setIfInBounds_toArray, List.set_cons_zero, List.set_cons_succ]
             refine wpLate_one (i := 7) (by kernel_rfl) rfl rfl (fun K hK => ?_)
             refine oper_enter (f := 50) (args := #[pval X ⟨P1, c1⟩ ⟨P2, c2⟩, .int .i64 (96 + 2 * t + (i : Int)), .string (bs (List.replicate 64 0))]) (w' := U7) (by go_simp) ((hs U7 s7.2).mono ?_)
             rintro e U8 ⟨⟨p3, q3, rfl, i3, o3⟩, hb⟩
             have o4 : ∀ h, h < w3.heap.size → PnOff h X ⟨P1, c1⟩ ⟨P2, c2⟩ → PnOff h Y p3 q3 := fun h hh ho => o3 h (Nat.lt_of_lt_of_le hh s7.2.size) ho
             have oB := o3 gb b7.lt (Hap3.out gb gb0)
             clear o3
             refine ⟨_, rfl, ?_⟩
             show K (Act.put _ (some 27) _) _
             have s8 := held2 s7 hb
             have z8 := zr_below z7 hb
             have b8 := b7.below hb b7.lt
             refine hK _ _ (fun _ _ => s8) ?_
             simp only [Act.put, List.setIfInBounds_toArray, List.set_cons_zero, List.set_cons_succ]
             refine wpLate_take0 (i := 8) (oi := _) (v := .tuple #[pval Y p3 q3, .int .i64 er2]) (d := some 19) rfl rfl (by kernel_rfl) (by kernel_rfl) (by kernel_rfl) (fun _ _ _ h => h) rfl (fun W => by rfl) ?_
             simp only [Act.put, List.setIfInBounds_toArray, List.set_cons_zero, List.set_cons_succ]
             refine wpLate_take0 (i := 9) (oi := _) (v := pval Y p3 q3) (d := some 28) rfl rfl (by kernel_rfl) (by kernel_rfl) (by kernel_rfl) (fun _ _ _ h => h) rfl (fun W => by rfl) ?_
             simp only [Act.put, List.setIfInBounds_toArray, List.set_cons_zero, List.set_cons_succ]
             refine wpLate_take0 (i := 10) (oi := _) (v := .int .i64 er2) (d := some 29) rfl rfl (by kernel_rfl) (by kernel_rfl) (by kernel_rfl) (fun _ _ _ h => h) rfl (fun W => by rfl) ?_
             simp only [Act.put, List.setIfInBounds_toArray, List.set_cons_zero, List.set_cons_succ]
             refine wpLate_one (i := 12) (by kernel_rfl) rfl rfl (fun K hK => ?_)
             refine oper_skip (w' := (U8.setCell ⟨gb, 0, none⟩ (.slice p3.a Y.targets.length p3.c)).setCell ⟨gb, 1, none⟩ (.slice q3.a Y.data.length q3.c)) (by have u0 := blk2 b8; have uf := b8.frozen; have qq := b8.set 0 (.slice p3.a Y.targets.length p3.c); have uf2 := qq.frozen; have u1 := blk2 qq; go_simp) ?_
             show K (Act.put _ none _) _
             have b9 := blk_set2 b8 (.slice p3.a Y.targets.length p3.c) (.slice q3.a Y.data.length q3.c)
             have bw := below_set2 s8.2 gb0 (.slice p3.a Y.targets.length p3.c) (.slice q3.a Y.data.length q3.c)
             replace i3 := i3.off2 oB (.slice p3.a Y.targets.length p3.c) (.slice q3.a Y.data.length q3.c)
             refine hK _ _ (fun h => by cases h) ?_
             try simp only [Act.put, List.setIfInBounds_toArray, List.set_cons_zero, List.set_cons_succ]
             refine wpLate_take0 (i := 13) (oi := _) (v := .int .i64 er2) (d := some 9) rfl rfl (by kernel_rfl) (by kernel_rfl) (by kernel_rfl) (fun _ _ _ h => h) rfl (fun W => by rfl) ?_
             simp only [Act.put, List.setIfInBounds_toArray, List.set_cons_zero, List.set_cons_succ]
             refine wpLate_done (by kernel_rfl) ?_ _
             go_wp2_with fail
             go_meet
             exact ⟨gb, p3, q3, rfl, rfl, gb0, b9, i3, o4, bw⟩
         · refine oper_ran (v := .pointer (some ⟨U2.heap.size, 0, none⟩)) (w' := U2.alloc (.cells #[.slice none 0 0, .slice none 0 0] 67)) (by go_simp) ?_
           show K (Act.put _ (some 8) _) _
           have s10 := held2 s2 ((Below.refl U2.heap.size U2).alloc (Nat.le_refl _) (.cells #[.slice none 0 0, .slice none 0 0] 67))
           have z10 := zr_alloc z2 (.cells #[.slice none 0 0, .slice none 0 0] 67)
           have b10 := Blk.new U2 67 #[.slice none 0 0, .slice none 0 0]
           have gb0 : w3.heap.size ≤ U2.heap.size := s2.2.size
           refine hK _ _ (fun _ _ => s10) ?_
           generalize U2.alloc (.cells #[.slice none 0 0, .slice none 0 0] 67) = U10 at s10 z10 b10 ⊢
           generalize U2.heap.size = gb at b10 gb0 ⊢
           simp only [Act.put, List.setIfInBounds_toArray, List.set_cons_zero, List.set_cons_succ]
           refine wpLate_one (i := 6) (by kernel_rfl) rfl rfl (fun K hK => ?_)
           refine oper_ran (v := .string (bs (List.replicate 64 0))) (w' := U10) (by have h := zr_conv z10; go_simp) ?_
           show K (Act.put _ (some 26) _) _
           refine hK _ _ (fun _ h => h) ?_
           simp only [Act.put, List.setIfInBounds_toArray, List.set_cons_zero, List.set_cons_succ]
           refine wpLate_one (i := 7) (by kernel_rfl) rfl rfl (fun K hK => ?_)
           refine oper_enter (f := 50) (args := #[pval X ⟨P1, c1⟩ ⟨P2, c2⟩, .int .i64 (96 + 2 * t + (i : Int)), .string (bs (List.replicate 64 0))]) (w' := U10) (by go_simp) ((hs U10 s10.2).mono ?_)
           rintro e U12 ⟨⟨p3, q3, rfl, i3, o3⟩, hb⟩
           have o4 : ∀ h, h < w3.heap.size → PnOff h X ⟨P1, c1⟩ ⟨P2, c2⟩ → PnOff h Y p3 q3 := fun h hh ho => o3 h (Nat.lt_of_lt_of_le hh s10.2.size) ho
           have oB := o3 gb b10.lt (Hap3.out gb gb0)
           clear o3
           refine ⟨_, rfl, ?_⟩
           show K (Act.put _ (some 27) _) _
           have s12 := held2 s10 hb
           have z12 := zr_below z10 hb
           have b12 := b10.below hb b10.lt
           refine hK _ _ (fun _ _ => s12) ?_
           simp only [Act.put, List.setIfInBounds_toArray, List.set_cons_zero, List.set_cons_succ]
           refine wpLate_take0 (i := 8) (oi := _) (v := .tuple #[pval Y p3 q3, .int .i64 er2]) (d := some 19) rfl rfl (by kernel_rfl) (by kernel_rfl) (by kernel_rfl) (fun _ _ _ h => h) rfl (fun W => by rfl) ?_
           simp only [Act.put, List.setIfInBounds_toArray, List.set_cons_zero, List.set_cons_succ]
           refine wpLate_take0 (i := 9) (oi := _) (v := pval Y p3 q3) (d := some 28) rfl rfl (by kernel_rfl) (by kernel_rfl) (by kernel_rfl) (fun _ _ _ h => h) rfl (fun W => by rfl) ?_
           simp only [Act.put, List.setIfInBounds_toArray, List.set_cons_zero, List.set_cons_succ]
           refine wpLate_take0 (i := 10) (oi := _) (v := .int .i64 er2) (d := some 29) rfl rfl (by kernel_rfl) (by kernel_rfl) (by kernel_rfl) (fun _ _ _ h => h) rfl (fun W => by rfl) ?_
           simp only [Act.put, List.setIfInBounds_toArray, List.set_cons_zero, List.set_cons_succ]
           refine wpLate_one (i := 12) (by kernel_rfl) rfl rfl (fun K hK => ?_)
           refine oper_skip (w' := (U12.setCell ⟨gb, 0, none⟩ (.slice p3.a Y.targets.length p3.c)).setCell ⟨gb, 1, none⟩ (.slice q3.a Y.data.length q3.c)) (by have u0 := blk2 b12; have uf := b12.frozen; have qq := b12.set 0 (.slice p3.a Y.targets.length p3.c); have uf2 := qq.frozen; have u1 := blk2 qq; go_simp) ?_
           show K (Act.put _ none _) _
           have b13 := blk_set2 b12 (.slice p3.a Y.targets.length p3.c) (.slice q3.a Y.data.length q3.c)
           have bw := below_set2 s12.2 gb0 (.slice p3.a Y.targets.length p3.c) (.slice q3.a Y.data.length q3.c)
           replace i3 := i3.off2 oB (.slice p3.a Y.targets.length p3.c) (.slice q3.a Y.data.length q3.c)
           refine hK _ _ (fun h => by cases h) ?_
           try simp only [Act.put, List.setIfInBounds_toArray, List.set_cons_zero, List.set_cons_succ]
           refine wpLate_take0 (i := 13) (oi := _) (v := .int .i64 er2) (d := some 9) rfl rfl (by kernel_rfl) (by kernel_rfl) (by kernel_rfl) (fun _ _ _ h => h) rfl (fun W => by rfl) ?_
           simp only [Act.put, List.setIfInBounds_toArray, List.set_cons_zero, List.set_cons_succ]
           refine wpLate_done (by kernel_rfl) ?_ _
           go_wp2_with fail
           go_meet
           exact ⟨gb, p3, q3, rfl, rfl, gb0, b13, i3, o4, bw⟩
       · refine oper_ran (v := .pointer (some ⟨U1.heap.size, 0, none⟩)) (w' := U1.alloc (.cells #[.slice none 0 0, .slice none 0 0] 67)) (by go_simp) ?_
         show K (Act.put _ (some 8) _) _
         have s14 := held2 s1 ((Below.refl U1.heap.size U1).alloc (Nat.le_refl _) (.cells #[.slice none 0 0, .slice none 0 0] 67))
         have b14 := Blk.new U1 67 #[.slice none 0 0, .slice none 0 0]
         have gb0 : w3.heap.size ≤ U1.heap.size := s1.2.size
         refine hK _ _ (fun _ _ => s14) ?_
         generalize U1.alloc (.cells #[.slice none 0 0, .slice none 0 0] 67) = U14 at s14 b14 ⊢
         generalize U1.heap.size = gb at b14 gb0 ⊢
         simp only [Act.put, List.setIfInBounds_toArray, List.set_cons_zero, List.set_cons_succ]
         refine wpLate_one (i := 5) (by kernel_rfl) rfl rfl (fun K hK => ?_)
         refine oper_ran (v := .slice (some ⟨U14.heap.size, 0, none⟩) 64 64) (w' := U14.alloc (.cells (madeCells #[.int .u8 0] 64) 5)) (by go_simp) ?_
         show K (Act.put _ (some 25) _) _
         have s15 := held2 s14 ((Below.refl U14.heap.size U14).alloc (Nat.le_refl _) (.cells (madeCells #[.int .u8 0] 64) 5))
         have z15 := zr_new U14 5
         have b15 := b14.alloc (.cells (madeCells #[.int .u8 0] 64) 5)
         refine hK _ _ (fun _ _ => s15) ?_
         generalize U14.alloc (.cells (madeCells #[.int .u8 0] 64) 5) = U15 at s15 z15 b15 ⊢
         generalize U14.heap.size = gz at z15 ⊢
         simp only [Act.put, List.setIfInBounds_toArray, List.set_cons_zero, List.set_cons_succ]
         refine wpLate_one (i := 6) (by kernel_rfl) rfl rfl (fun K hK => ?_)
         refine oper_ran (v := .string (bs (List.replicate 64 0))) (w' := U15) (by have h := zr_conv z15; go_simp) ?_
         show K (Act.put _ (some 26) _) _
         refine hK _ _ (fun _ h => h) ?_
         simp only [Act.put, List.setIfInBounds_toArray, List.set_cons_zero, List.set_cons_succ]
         refine wpLate_one (i := 7) (by kernel_rfl) rfl rfl (fun K hK => ?_)
         refine oper_enter (f := 50) (args := #[pval X ⟨P1, c1⟩ ⟨P2, c2⟩, .int .i64 (96 + 2 * t + (i : Int)), .string (bs (List.replicate 64 0))]) (w' := U15) (by go_simp) ((hs U15 s15.2).mono ?_)
         rintro e U17 ⟨⟨p3, q3, rfl, i3, o3⟩, hb⟩
         have o4 : ∀ h, h < w3.heap.size → PnOff h X ⟨P1, c1⟩ ⟨P2, c2⟩ → PnOff h Y p3 q3 := fun h hh ho => o3 h (Nat.lt_of_lt_of_le hh s15.2.size) ho
         have oB := o3 gb b15.lt (Hap3.out gb gb0)
         clear o3
         refine ⟨_, rfl, ?_⟩
         show K (Act.put _ (some 27) _) _
         have s17 := held2 s15 hb
         have z17 := zr_below z15 hb
         have b17 := b15.below hb b15.lt
         refine hK _ _ (fun _ _ => s17) ?_
         simp only [Act.put, List.setIfInBounds_toArray, List.set_cons_zero, List.set_cons_succ]
         refine wpLate_take0 (i := 8) (oi := _) (v := .tuple #[pval Y p3 q3, .int .i64 er2]) (d := some 19) rfl rfl (by kernel_rfl) (by kernel_rfl) (by kernel_rfl) (fun _ _ _ h => h) rfl (fun W => by rfl) ?_
         simp only [Act.put, List.setIfInBounds_toArray, List.set_cons_zero, List.set_cons_succ]
         refine wpLate_take0 (i := 9) (oi := _) (v := pval Y p3 q3) (d := some 28) rfl rfl (by kernel_rfl) (by kernel_rfl) (by kernel_rfl) (fun _ _ _ h => h) rfl (fun W => by rfl) ?_
         simp only [Act.put, List.setIfInBounds_toArray, List.set_cons_zero, List.set_cons_succ]
         refine wpLate_take0 (i := 10) (oi := _) (v := .int .i64 er2) (d := some 29) rfl rfl (by kernel_rfl) (by kernel_rfl) (by kernel_rfl) (fun _ _ _ h => h) rfl (fun W => by rfl) ?_
         simp only [Act.put, List.setIfInBounds_toArray, List.set_cons_zero, List.set_cons_succ]
         refine wpLate_one (i := 12) (by kernel_rfl) rfl rfl (fun K hK => ?_)
         refine oper_skip (w' := (U17.setCell ⟨gb, 0, none⟩ (.slice p3.a Y.targets.length p3.c)).setCell ⟨gb, 1, none⟩ (.slice q3.a Y.data.length q3.c)) (by have u0 := blk2 b17; have uf := b17.frozen; have qq := b17.set 0 (.slice p3.a Y.targets.length p3.c); have uf2 := qq.frozen; have u1 := blk2 qq; go_simp) ?_
         show K (Act.put _ none _) _
         have b18 := blk_set2 b17 (.slice p3.a Y.targets.length p3.c) (.slice q3.a Y.data.length q3.c)
         have bw := below_set2 s17.2 gb0 (.slice p3.a Y.targets.length p3.c) (.slice q3.a Y.data.length q3.c)
         replace i3 := i3.off2 oB (.slice p3.a Y.targets.length p3.c) (.slice q3.a Y.data.length q3.c)
         refine hK _ _ (fun h => by cases h) ?_
         try simp only [Act.put, List.setIfInBounds_toArray, List.set_cons_zero, List.set_cons_succ]
         refine wpLate_take0 (i := 13) (oi := _) (v := .int .i64 er2) (d := some 9) rfl rfl (by kernel_rfl) (by kernel_rfl) (by kernel_rfl) (fun _ _ _ h => h) rfl (fun W => by rfl) ?_
         simp only [Act.put, List.setIfInBounds_toArray, List.set_cons_zero, List.set_cons_succ]
         refine wpLate_done (by kernel_rfl) ?_ _
         go_wp2_with fail
         go_meet
         exact ⟨gb, p3, q3, rfl, rfl, gb0, b18, i3, o4, bw⟩
     · refine oper_ran (v := .slice (some ⟨U0.heap.size, 0, none⟩) 64 64) (w' := U0.alloc (.cells (madeCells #[.int .u8 0] 64) 5)) (by go_simp) ?_
       show K (Act.put _ (some 25) _) _
       have s19 := held2 s0 ((Below.refl U0.heap.size U0).alloc (Nat.le_refl _) (.cells (madeCells #[.int .u8 0] 64) 5))
       have z19 := zr_new U0 5
       refine hK _ _ (fun _ _ => s19) ?_
       generalize U0.alloc (.cells (madeCells #[.int .u8 0] 64) 5) = U19 at s19 z19 ⊢
       generalize U0.heap.size = gz at z19 ⊢
       simp only [Act.put, List.setIfInBounds_toArray, List.set_cons_zero, List.set_cons_succ]
       refine wpLate_three (i := 2) (j := 6) (k := 11) (by kernel_rfl) rfl rfl rfl rfl rfl rfl (fun K hK => ?_) (fun K hK => ?_) (fun K hK => ?_)
       · refine oper_enter (f := 38) (args := #[.int .i64 t]) (w' := U19) (by go_simp) ((hat U19).mono ?_)
         rintro e U20 ⟨rfl, hb⟩
         refine ⟨_, rfl, ?_⟩
         show K (Act.put _ (some 22) _) _
         have s20 := held2 s19 hb
         have z20 := zr_below z19 hb
         refine hK _ _ (fun _ _ => s20) ?_
         simp only [Act.put, List.setIfInBounds_toArray, List.set_cons_zero, List.set_cons_succ]
         refine wpLate_take0 (i := 4) (oi := _) (v := .int .i64 (96 + 2 * t + (i : Int))) (d := some 24) rfl rfl (by kernel_rfl) (by kernel_rfl) (by kernel_rfl) (fun _ _ _ h => h) rfl (fun W => by go_simp) ?_
         simp only [Act.put, List.setIfInBounds_toArray, List.set_cons_zero, List.set_cons_succ]
         refine wpLate_two (i := 6) (k := 11) (by kernel_rfl) rfl rfl rfl rfl (fun K hK => ?_) (fun K hK => ?_)
         · refine oper_ran (v := .string (bs (List.replicate 64 0))) (w' := U20) (by have h := zr_conv z20; go_simp) ?_
           show K (Act.put _ (some 26) _) _
           refine hK _ _ (fun _ h => h) ?_
           simp only [Act.put, List.setIfInBounds_toArray, List.set_cons_zero, List.set_cons_succ]
           refine wpLate_two (i := 7) (k := 11) (by kernel_rfl) rfl rfl rfl rfl (fun K hK => ?_) (fun K hK => ?_)
           · refine oper_enter (f := 50) (args := #[pval X ⟨P1, c1⟩ ⟨P2, c2⟩, .int .i64 (96 + 2 * t + (i : Int)), .string (bs (List.replicate 64 0))]) (w' := U20) (by go_simp) ((hs U20 s20.2).mono ?_)
             rintro e U22 ⟨⟨p3, q3, rfl, i3, o3⟩, hb⟩
             have o4 : ∀ h, h < w3.heap.size → PnOff h X ⟨P1, c1⟩ ⟨P2, c2⟩ → PnOff h Y p3 q3 := fun h hh ho => o3 h (Nat.lt_of_lt_of_le hh s20.2.size) ho
             clear o3
             refine ⟨_, rfl, ?_⟩
             show K (Act.put _ (some 27) _) _
             have s22 := held2 s20 hb
             have z22 := zr_below z20 hb
             refine hK _ _ (fun _ _ => s22) ?_
             simp only [Act.put, List.setIfInBounds_toArray, List.set_cons_zero, List.set_cons_succ]
             refine wpLate_take0 (i := 8) (oi := _) (v := .tuple #[pval Y p3 q3, .int .i64 er2]) (d := some 19) rfl rfl (by kernel_rfl) (by kernel_rfl) (by kernel_rfl) (fun _ _ _ h => h) rfl (fun W => by rfl) ?_
             simp only [Act.put, List.setIfInBounds_toArray, List.set_cons_zero, List.set_cons_succ]
             refine wpLate_take0 (i := 9) (oi := _) (v := pval Y p3 q3) (d := some 28) rfl rfl (by kernel_rfl) (by kernel_rfl) (by kernel_rfl) (fun _ _ _ h => h) rfl (fun W => by rfl) ?_
             simp only [Act.put, List.setIfInBounds_toArray, List.set_cons_zero, List.set_cons_succ]
             refine wpLate_take0 (i := 10) (oi := _) (v := .int .i64 er2) (d := some 29) rfl rfl (by kernel_rfl) (by kernel_rfl) (by kernel_rfl) (fun _ _ _ h => h) rfl (fun W => by rfl) ?_
             simp only [Act.put, List.setIfInBounds_toArray, List.set_cons_zero, List.set_cons_succ]
             refine wpLate_one (i := 11) (by kernel_rfl) rfl rfl (fun K hK => ?_)
             refine oper_ran (v := .pointer (some ⟨U22.heap.size, 0, none⟩)) (w' := U22.alloc (.cells #[.slice none 0 0, .slice none 0 0] 67)) (by go_simp) ?_
             show K (Act.put _ (some 8) _) _
             have s23 := held2 s22 ((Below.refl U22.heap.size U22).alloc (Nat.le_refl _) (.cells #[.slice none 0 0, .slice none 0 0] 67))
             have z23 := zr_alloc z22 (.cells #[.slice none 0 0, .slice none 0 0] 67)
             have b23 := Blk.new U22 67 #[.slice none 0 0, .slice none 0 0]
             have gb0 : w3.heap.size ≤ U22.heap.size := s22.2.size
             have oB := i3.apart (g := U22.heap.size) (Nat.le_refl _)
             replace i3 := i3.below ((Below.refl U22.heap.size U22).alloc (Nat.le_refl _) (.cells #[.slice none 0 0, .slice none 0 0] 67))
             refine hK _ _ (fun _ _ => s23) ?_
             generalize U22.alloc (.cells #[.slice none 0 0, .slice none 0 0] 67) = U23 at s23 z23 b23 i3 ⊢
             generalize U22.heap.size = gb at b23 gb0 oB ⊢
             simp only [Act.put, List.setIfInBounds_toArray, List.set_cons_zero, List.set_cons_succ]
             refine wpLate_one (i := 12) (by kernel_rfl) rfl rfl (fun K hK => ?_)
             refine oper_skip (w' := (U23.setCell ⟨gb, 0, none⟩ (.slice p3.a Y.targets.length p3.c)).setCell ⟨gb, 1, none⟩ (.slice q3.a Y.data.length q3.c)) (by have u0 := blk2 b23; have uf := b23.frozen; have qq := b23.set 0 (.slice p3.a Y.targets.length p3.c); have uf2 := qq.frozen; have u1 := blk2 qq; go_simp) ?_
             show K (Act.put _ none _) _
             have b24 := blk_set2 b23 (.slice p3.a Y.targets.length p3.c) (.slice q3.a Y.data.length q3.c)
             have bw := below_set2 s23.2 gb0 (.slice p3.a Y.targets.length p3.c) (.slice q3.a Y.data.length q3.c)
             replace i3 := i3.off2 oB (.slice p3.a Y.targets.length p3.c) (.slice q3.a Y.data.length q3.c)
             refine hK _ _ (fun h => by cases h) ?_
             try simp only [Act.put, List.setIfInBounds_toArray, List.set_cons_zero, List.set_cons_succ]
             refine wpLate_take0 (i := 13) (oi := _) (v := .int .i64 er2) (d := some 9) rfl rfl (by kernel_rfl) (by kernel_rfl) (by kernel_rfl) (fun _ _ _ h => h) rfl (fun W => by rfl) ?_
             simp only [Act.put, List.setIfInBounds_toArray, List.set_cons_zero, List.set_cons_succ]
             refine wpLate_done (by kernel_rfl) ?_ _
             go_wp2_with fail
             go_meet
             exact ⟨gb, p3, q3, rfl, rfl, gb0, b24, i3, o4, bw⟩
           · refine oper_ran (v := .pointer (some ⟨U20.heap.size, 0, none⟩)) (w' := U20.alloc (.cells #[.slice none 0 0, .slice none 0 0] 67)) (by go_simp) ?_
             show K (Act.put _ (some 8) _) _
             have s25 := held2 s20 ((Below.refl U20.heap.size U20).alloc (Nat.le_refl _) (.cells #[.slice none 0 0, .slice none 0 0] 67))
             have z25 := zr_alloc z20 (.cells #[.slice none 0 0, .slice none 0 0] 67)
             have b25 := Blk.new U20 67 #[.slice none 0 0, .slice none 0 0]
             have gb0 : w3.heap.size ≤ U20.heap.size := s20.2.size
             refine hK _ _ (fun _ _ => s25) ?_
             generalize U20.alloc (.cells #[.slice none 0 0, .slice none 0 0] 67) = U25 at s25 z25 b25 ⊢
             generalize U20.heap.size = gb at b25 gb0 ⊢
             simp only [Act.put, List.setIfInBounds_toArray, List.set_cons_zero, List.set_cons_succ]
             refine wpLate_one (i := 7) (by kernel_rfl) rfl rfl (fun K hK => ?_)
             refine oper_enter (f := 50) (args := #[pval X ⟨P1, c1⟩ ⟨P2, c2⟩, .int .i64 (96 + 2 * t + (i : Int)), .string (bs (List.replicate 64 0))]) (w' := U25) (by go_simp) ((hs U25 s25.2).mono ?_)
             rintro e U26 ⟨⟨p3, q3, rfl, i3, o3⟩, hb⟩
             have o4 : ∀ h, h < w3.heap.size → PnOff h X ⟨P1, c1⟩ ⟨P2, c2⟩ → PnOff h Y p3 q3 := fun h hh ho => o3 h (Nat.lt_of_lt_of_le hh s25.2.size) ho
             have oB := o3 gb b25.lt (Hap3.out gb gb0)
             clear o3
             refine ⟨_, rfl, ?_⟩
             show K (Act.put _ (some 27) _) _
             have s26 := held2 s25 hb
             have z26 := zr_below z25 hb
             have b26 := b25.below hb b25.lt
             refine hK _ _ (fun _ _ => s26) ?_
             simp only [Act.put, List.setIfInBounds_toArray, List.set_cons_zero, List.set_cons_succ]
             refine wpLate_take0 (i := 8) (oi := _) (v := .tuple #[pval Y p3 q3, .int .i64 er2]) (d := some 19) rfl rfl (by kernel_rfl) (by kernel_rfl) (by kernel_rfl) (fun _ _ _ h => h) rfl (fun W => by rfl) ?_
             simp only [Act.put, List.setIfInBounds_toArray, List.set_cons_zero, List.set_cons_succ]
             refine wpLate_take0 (i := 9) (oi := _) (v := pval Y p3 q3) (d := some 28) rfl rfl (by kernel_rfl) (by kernel_rfl) (by kernel_rfl) (fun _ _ _ h => h) rfl (fun W => by rfl) ?_
             simp only [Act.put, List.setIfInBounds_toArray, List.set_cons_zero, List.set_cons_succ]
             refine wpLate_take0 (i := 10) (oi := _) (v := .int .i64 er2) (d := some 29) rfl rfl (by kernel_rfl) (by kernel_rfl) (by kernel_rfl) (fun _ _ _ h => h) rfl (fun W => by rfl) ?_
             simp only [Act.put, List.setIfInBounds_toArray, List.set_cons_zero, List.set_cons_succ]
             refine wpLate_one (i := 12) (by kernel_rfl) rfl rfl (fun K hK => ?_)
             refine oper_skip (w' := (U26.setCell ⟨gb, 0, none⟩ (.slice p3.a Y.targets.length p3.c)).setCell ⟨gb, 1, none⟩ (.slice q3.a Y.data.length q3.c)) (by have u0 := blk2 b26; have uf := b26.frozen; have qq := b26.set 0 (.slice p3.a Y.targets.length p3.c); have uf2 := qq.frozen; have u1 := blk2 qq; go_simp) ?_
             show K (Act.put _ none _) _
             have b27 := blk_set2 b26 (.slice p3.a Y.targets.length p3.c) (.slice q3.a Y.data.length q3.c)
             have bw := below_set2 s26.2 gb0 (.slice p3.a Y.targets.length p3.c) (.slice q3.a Y.data.length q3.c)
             replace i3 := i3.off2 oB (.slice p3.a Y.targets.length p3.c) (.slice q3.a Y.data.length q3.c)
             refine hK _ _ (fun h => by cases h) ?_
             try simp only [Act.put, List.setIfInBounds_toArray, List.set_cons_zero, List.set_cons_succ]
             refine wpLate_take0 (i := 13) (oi := _) (v := .int .i64 er2) (d := some 9) rfl rfl (by kernel_rfl) (by kernel_rfl) (by kernel_rfl) (fun _ _ _ h => h) rfl (fun W => by rfl) ?_
             simp only [Act.put, List.setIfInBounds_toArray, List.set_cons_zero, List.set_cons_succ]
             refine wpLate_done (by kernel_rfl) ?_ _
             go_wp2_with fail
             go_meet
             exact ⟨gb, p3, q3, rfl, rfl, gb0, b27, i3, o4, bw⟩
         · refine oper_ran (v := .pointer (some ⟨U20.heap.size, 0, none⟩)) (w' := U20.alloc (.cells #[.slice none 0 0, .slice none 0 0] 67)) (by go_simp) ?_
           show K (Act.put _ (some 8) _) _
           have s28 := held2 s20 ((Below.refl U20.heap.size U20).alloc (Nat.le_refl _) (.cells #[.slice none 0 0, .slice none 0 0] 67))
           have z28 := zr_alloc z20 (.cells #[.slice none 0 0, .slice none 0 0] 67)
           have b28 := Blk.new U20 67 #[.slice none 0 0, .slice none 0 0]
           have gb0 : w3.heap.size ≤ U20.heap.size := s20.2.size
           refine hK _ _ (fun _ _ => s28) ?_
           generalize U20.alloc (.cells #[.slice none 0 0, .slice none 0 0] 67) = U28 at s28 z28 b28 ⊢
           generalize U20.heap.size = gb at b28 gb0 ⊢
           simp only [Act.put, List.setIfInBounds_toArray, List.set_cons_zero, List.set_cons_succ]
           refine wpLate_one (i := 6) (by kernel_rfl) rfl rfl (fun K hK => ?_)
           refine oper_ran (v := .string (bs (List.replicate 64 0))) (w' := U28) (by have h := zr_conv z28; go_simp) ?_
           show K (Act.put _ (some 26) _) _
           refine hK _ _ (fun _ h => h) ?_
           simp only [Act.put, List.setIfInBounds_toArray, List.set_cons_zero, List.set_cons_succ]
           refine wpLate_one (i := 7) (by kernel_rfl) rfl rfl (fun K hK => ?_)
           refine oper_enter (f := 50) (args := #[pval X ⟨P1, c1⟩ ⟨P2, c2⟩, .int .i64 (96 + 2 * t + (i : Int)), .string (bs (List.replicate 64 0))]) (w' := U28) (by go_simp) ((hs U28 s28.2).mono ?_)
           rintro e U30 ⟨⟨p3, q3, rfl, i3, o3⟩, hb⟩
           have o4 : ∀ h, h < w3.heap.size → PnOff h X ⟨P1, c1⟩ ⟨P2, c2⟩ → PnOff h Y p3 q3 := fun h hh ho => o3 h (Nat.lt_of_lt_of_le hh s28.2.size) ho
           have oB := o3 gb b28.lt (Hap3.out gb gb0)
           clear o3
           refine ⟨_, rfl, ?_⟩
           show K (Act.put _ (some 27) _) _
           have s30 := held2 s28 hb
           have z30 := zr_below z28 hb
           have b30 := b28.below hb b28.lt
           refine hK _ _ (fun _ _ => s30) ?_
           simp only [Act.put, List.setIfInBounds_toArray, List.set_cons_zero, List.set_cons_succ]
           refine wpLate_take0 (i := 8) (oi := _) (v := .tuple #[pval Y p3 q3, .int .i64 er2]) (d := some 19) rfl rfl (by kernel_rfl) (by kernel_rfl) (by kernel_rfl) (fun _ _ _ h => h) rfl (fun W => by rfl) ?_
           simp only [Act.put, List.setIfInBounds_toArray, List.set_cons_zero, List.set_cons_succ]
           refine wpLate_take0 (i := 9) (oi := _) (v := pval Y p3 q3) (d := some 28) rfl rfl (by kernel_rfl) (by kernel_rfl) (by kernel_rfl) (fun _ _ _ h => h) rfl (fun W => by rfl) ?_
           simp only [Act.put, List.setIfInBounds_toArray, List.set_cons_zero, List.set_cons_succ]
           refine wpLate_take0 (i := 10) (oi := _) (v := .int .i64 er2) (d := some 29) rfl rfl (by kernel_rfl) (by kernel_rfl) (by kernel_rfl) (fun _ _ _ h => h) rfl (fun W => by rfl) ?_
           simp only [Act.put, List.setIfInBounds_toArray, List.set_cons_zero, List.set_cons_succ]
           refine wpLate_one (i := 12) (by kernel_rfl) rfl rfl (fun K hK => ?_)
           refine oper_skip (w' := (U30.setCell ⟨gb, 0, none⟩ (.slice p3.a Y.targets.length p3.c)).setCell ⟨gb, 1, none⟩ (.slice q3.a Y.data.length q3.c)) (by have u0 := blk2 b30; have uf := b30.frozen; have qq := b30.set 0 (.slice p3.a Y.targets.length p3.c); have uf2 := qq.frozen; have u1 := blk2 qq; go_simp) ?_
           show K (Act.put _ none _) _
           have b31 := blk_set2 b30 (.slice p3.a Y.targets.length p3.c) (.slice q3.a Y.data.length q3.c)
           have bw := below_set2 s30.2 gb0 (.slice p3.a Y.targets.length p3.c) (.slice q3.a Y.data.length q3.c)
           replace i3 := i3.off2 oB (.slice p3.a Y.targets.length p3.c) (.slice q3.a Y.data.length q3.c)
           refine hK _ _ (fun h => by cases h) ?_
           try simp only [Act.put, List.setIfInBounds_toArray, List.set_cons_zero, List.set_cons_succ]
           refine wpLate_take0 (i := 13) (oi := _) (v := .int .i64 er2) (d := some 9) rfl rfl (by kernel_rfl) (by kernel_rfl) (by kernel_rfl) (fun _ _ _ h => h) rfl (fun W => by rfl) ?_
           simp only [Act.put, List.setIfInBounds_toArray, List.set_cons_zero, List.set_cons_succ]
           refine wpLate_done (by kernel_rfl) ?_ _
           go_wp2_with fail
           go_meet
           exact ⟨gb, p3, q3, rfl, rfl, gb0, b31, i3, o4, bw⟩
       · refine oper_ran (v := .string (bs (List.replicate 64 0))) (w' := U19) (by have h := zr_conv z19; go_simp) ?_
         show K (Act.put _ (some 26) _) _
         refine hK _ _ (fun _ h => h) ?_
         simp only [Act.put, List.setIfInBounds_toArray, List.set_cons_zero, List.set_cons_succ]
         refine wpLate_two (i := 2) (k := 11) (by kernel_rfl) rfl rfl rfl rfl (fun K hK => ?_) (fun K hK => ?_)
         · refine oper_enter (f := 38) (args := #[.int .i64 t]) (w' := U19) (by go_simp) ((hat U19).mono ?_)
           rintro e U33 ⟨rfl, hb⟩
           refine ⟨_, rfl, ?_⟩
           show K (Act.put _ (some 22) _) _
           have s33 := held2 s19 hb
           have z33 := zr_below z19 hb
           refine hK _ _ (fun _ _ => s33) ?_
           simp only [Act.put, List.setIfInBounds_toArray, List.set_cons_zero, List.set_cons_succ]
           refine wpLate_take0 (i := 4) (oi := _) (v := .int .i64 (96 + 2 * t + (i : Int))) (d := some 24) rfl rfl (by kernel_rfl) (by kernel_rfl) (by kernel_rfl) (fun _ _ _ h => h) rfl (fun W => by go_simp) ?_
           simp only [Act.put, List.setIfInBounds_toArray, List.set_cons_zero, List.set_cons_succ]
           refine wpLate_two (i := 7) (k := 11) (by kernel_rfl) rfl rfl rfl rfl (fun K hK => ?_) (fun K hK => ?_)
           · refine oper_enter (f := 50) (args := #[pval X ⟨P1, c1⟩ ⟨P2, c2⟩, .int .i64 (96 + 2 * t + (i : Int)), .string (bs (List.replicate 64 0))]) (w' := U33) (by go_simp) ((hs U33 s33.2).mono ?_)
             rintro e U34 ⟨⟨p3, q3, rfl, i3, o3⟩, hb⟩
             have o4 : ∀ h, h < w3.heap.size → PnOff h X ⟨P1, c1⟩ ⟨P2, c2⟩ → PnOff h Y p3 q3 := fun h hh ho => o3 h (Nat.lt_of_lt_of_le hh s33.2.size) ho
             clear o3
             refine ⟨_, rfl, ?_⟩
             show K (Act.put _ (some 27) _) _
             have s34 := held2 s33 hb
             have z34 := zr_below z33 hb
             refine hK _ _ (fun _ _ => s34) ?_
             simp only [Act.put, List.setIfInBounds_toArray, List.set_cons_zero, List.set_cons_succ]
             refine wpLate_take0 (i := 8) (oi := _) (v := .tuple #[pval Y p3 q3, .int .i64 er2]) (d := some 19) rfl rfl (by kernel_rfl) (by kernel_rfl) (by kernel_rfl) (fun _ _ _ h => h) rfl (fun W => by rfl) ?_
             simp only [Act.put, List.setIfInBounds_toArray, List.set_cons_zero, List.set_cons_succ]
             refine wpLate_take0 (i := 9) (oi := _) (v := pval Y p3 q3) (d := some 28) rfl rfl (by kernel_rfl) (by kernel_rfl) (by kernel_rfl) (fun _ _ _ h => h) rfl (fun W => by rfl) ?_
             simp only [Act.put, List.setIfInBounds_toArray, List.set_cons_zero, List.set_cons_succ]
             refine wpLate_take0 (i := 10) (oi := _) (v := .int .i64 er2) (d := some 29) rfl rfl (by kernel_rfl) (by kernel_rfl) (by kernel_rfl) (fun _ _ _ h => h) rfl (fun W => by rfl) ?_
             simp only [Act.put, List.setIfInBounds_toArray, List.set_cons_zero, List.set_cons_succ]
             refine wpLate_one (i := 11) (by kernel_rfl) rfl rfl (fun K hK => ?_)
             refine oper_ran (v := .pointer (some ⟨U34.heap.size, 0, none⟩)) (w' := U34.alloc (.cells #[.slice none 0 0, .slice none 0 0] 67)) (by go_simp) ?_
             show K (Act.put _ (some 8) _) _
             have s35 := held2 s34 ((Below.refl U34.heap.size U34).alloc (Nat.le_refl _) (.cells #[.slice none 0 0, .slice none 0 0] 67))
             have z35 := zr_alloc z34 (.cells #[.slice none 0 0, .slice none 0 0] 67)
             have b35 := Blk.new U34 67 #[.slice none 0 0, .slice none 0 0]
             have gb0 : w3.heap.size ≤ U34.heap.size := s34.2.size
             have oB := i3.apart (g := U34.heap.size) (Nat.le_refl _)
             replace i3 := i3.below ((Below.refl U34.heap.size U34).alloc (Nat.le_refl _) (.cells #[.slice none 0 0, .slice none 0 0] 67))
             refine hK _ _ (fun _ _ => s35) ?_
             generalize U34.alloc (.cells #[.slice none 0 0, .slice none 0 0] 67) = U35 at s35 z35 b35 i3 ⊢
             generalize U34.heap.size = gb at b35 gb0 oB ⊢
             simp only [Act.put, List.setIfInBounds_toArray, List.set_cons_zero, List.set_cons_succ]
             refine wpLate_one (i := 12) (by kernel_rfl) rfl rfl (fun K hK => ?_)
             refine oper_skip (w' := (U35.setCell ⟨gb, 0, none⟩ (.slice p3.a Y.targets.length p3.c)).setCell ⟨gb, 1, none⟩ (.slice q3.a Y.data.length q3.c)) (by have u0 := blk2 b35; have uf := b35.frozen; have qq := b35.set 0 (.slice p3.a Y.targets.length p3.c); have uf2 := qq.frozen; have u1 := blk2 qq; go_simp) ?_
             show K (Act.put _ none _) _
             have b36 := blk_set2 b35 (.slice p3.a Y.targets.length p3.c) (.slice q3.a Y.data.length q3.c)
             have bw := below_set2 s35.2 gb0 (.slice p3.a Y.targets.length p3.c) (.slice q3.a Y.data.length q3.c)
             replace i3 := i3.off2 oB (.slice p3.a Y.targets.length p3.c) (.slice q3.a Y.data.length q3.c)
             refine hK _ _ (fun h => by cases h) ?_
             try simp only [Act.put, List.setIfInBounds_toArray, List.set_cons_zero, List.set_cons_succ]
             refine wpLate_take0 (i := 13) (oi := _) (v := .int .i64 er2) (d := some 9) rfl rfl (by kernel_rfl) (by kernel_rfl) (by kernel_rfl) (fun _ _ _ h => h) rfl (fun W => by rfl) ?_
             simp only [Act.put, List.setIfInBounds_toArray, List.set_cons_zero, List.set_cons_succ]
             refine wpLate_done (by kernel_rfl) ?_ _
             go_wp2_with fail
             go_meet
             exact ⟨gb, p3, q3, rfl, rfl, gb0, b36, i3, o4, bw⟩
           · refine oper_ran (v := .pointer (some ⟨U33.heap.size, 0, none⟩)) (w' := U33.alloc (.cells #[.slice none 0 0, .slice none 0 0] 67)) (by go_simp) ?_
             show K (Act.put _ (some 8) _) _
             have s37 := held2 s33 ((Below.refl U33.heap.size U33).alloc (Nat.le_refl _) (.cells #[.slice none 0 0, .slice none 0 0] 67))
             have z37 := zr_alloc z33 (.cells #[.slice none 0 0, .slice none 0 0] 67)
             have b37 := Blk.new U33 67 #[.slice none 0 0, .slice none 0 0]
             have gb0 : w3.heap.size ≤ U33.heap.size := s33.2.size
             refine hK _ _ (fun _ _ => s37) ?_
             generalize U33.alloc (.cells #[.slice none 0 0, .slice none 0 0] 67) = U37 at s37 z37 b37 ⊢
             generalize U33.heap.size = gb at b37 gb0 ⊢
             simp only [Act.put, List.setIfInBounds_toArray, List.set_cons_zero, List.set_cons_succ]
             refine wpLate_one (i := 7) (by kernel_rfl) rfl rfl (fun K hK => ?_)
             refine oper_enter (f := 50) (args := #[pval X ⟨P1, c1⟩ ⟨P2, c2⟩, .int .i64 (96 + 2 * t + (i : Int)), .string (bs (List.replicate 64 0))]) (w' := U37) (by go_simp) ((hs U37 s37.2).mono ?_)
             rintro e U38 ⟨⟨p3, q3, rfl, i3, o3⟩, hb⟩
             have o4 : ∀ h, h < w3.heap.size → PnOff h X ⟨P1, c1⟩ ⟨P2, c2⟩ → PnOff h Y p3 q3 := fun h hh ho => o3 h (Nat.lt_of_lt_of_le hh s37.2.size) ho
             have oB := o3 gb b37.lt (Hap3.out gb gb0)
             clear o3
             refine ⟨_, rfl, ?_⟩
             show K (Act.put _ (some 27) _) _
             have s38 := held2 s37 hb
             have z38 := zr_below z37 hb
             have b38 := b37.below hb b37.lt
             refine hK _ _ (fun _ _ => s38) ?_
             simp only [Act.put, List.setIfInBounds_toArray, List.set_cons_zero, List.set_cons_succ]
             refine wpLate_take0 (i := 8) (oi := _) (v := .tuple #[pval Y p3 q3, .int .i64 er2]) (d := some 19) rfl rfl (by kernel_rfl) (by kernel_rfl) (by kernel_rfl) (fun _ _ _ h => h) rfl (fun W => by rfl) ?_
             simp only [Act.put, List.setIfInBounds_toArray, List.set_cons_zero, List.set_cons_succ]
             refine wpLate_take0 (i := 9) (oi := _) (v := pval Y p3 q3) (d := some 28) rfl rfl (by kernel_rfl) (by kernel_rfl) (by kernel_rfl) (fun _ _ _ h => h) rfl (fun W => by rfl) ?_
             simp only [Act.put, List.setIfInBounds_toArray, List.set_cons_zero, List.set_cons_succ]
             refine wpLate_take0 (i := 10) (oi := _) (v := .int .i64 er2) (d := some 29) rfl rfl (by kernel_rfl) (by kernel_rfl) (by kernel_rfl) (fun _ _ _ h => h) rfl (fun W => by rfl) ?_
             simp only [Act.put, List.setIfInBounds_toArray, List.set_cons_zero, List.set_cons_succ]
             refine wpLate_one (i := 12) (by kernel_rfl) rfl rfl (fun K hK => ?_)
             refine oper_skip (w' := (U38.setCell ⟨gb, 0, none⟩ (.slice p3.a Y.targets.length p3.c)).setCell ⟨gb, 1, none⟩ (.slice q3.a Y.data.length q3.c)) (by have u0 := blk2 b38; have uf := b38.frozen; have qq := b38.set 0 (.slice p3.a Y.targets.length p3.c); have uf2 := qq.frozen; have u1 := blk2 qq; go_simp) ?_
             show K (Act.put _ none _) _
             have b39 := blk_set2 b38 (.slice p3.a Y.targets.length p3.c) (.slice q3.a Y.data.length q3.c)
             have bw := below_set2 s38.2 gb0 (.slice p3.a Y.targets.length p3.c) (.slice q3.a Y.data.length q3.c)
             replace i3 := i3.off2 oB (.slice p3.a Y.targets.length p3.c) (.slice q3.a Y.data.length q3.c)
             refine hK _ _ (fun h => by cases h) ?_
             try simp only [Act.put, List.setIfInBounds_toArray, List.set_cons_zero, List.set_cons_succ]
             refine wpLate_take0 (i := 13) (oi := _) (v := .int .i64 er2) (d := some 9) rfl rfl (by kernel_rfl) (by kernel_rfl) (by kernel_rfl) (fun _ _ _ h => h) rfl (fun W => by rfl) ?_
             simp only [Act.put, List.setIfInBounds_toArray, List.set_cons_zero, List.set_cons_succ]
             refine wpLate_done (by kernel_rfl) ?_ _
             go_wp2_with fail
             go_meet
             exact ⟨gb, p3, q3, rfl, rfl, gb0, b39, i3, o4, bw⟩
         · refine oper_ran (v := .pointer (some ⟨U19.heap.size, 0, none⟩)) (w' := U19.alloc (.cells #[.slice none 0 0, .slice none 0 0] 67)) (by go_simp) ?_
           show K (Act.put _ (some 8) _) _
           have s40 := held2 s19 ((Below.refl U19.heap.size U19).alloc (Nat.le_refl _) (.cells #[.slice none 0 0, .slice none 0 0] 67))
           have z40 := zr_alloc z19 (.cells #[.slice none 0 0, .slice none 0 0] 67)
           have b40 := Blk.new U19 67 #[.slice none 0 0, .slice none 0 0]
           have gb0 : w3.heap.size ≤ U19.heap.size := s19.2.size
           refine hK _ _ (fun _ _ => s40) ?_
           generalize U19.alloc (.cells #[.slice none 0 0, .slice none 0 0] 67) = U40 at s40 z40 b40 ⊢
           generalize U19.heap.size = gb at b40 gb0 ⊢
           simp only [Act.put, List.setIfInBounds_toArray, List.set_cons_zero, List.set_cons_succ]
           refine wpLate_one (i := 2) (by kernel_rfl) rfl rfl (fun K hK => ?_)
           refine oper_enter (f := 38) (args := #[.int .i64 t]) (w' := U40) (by go_simp) ((hat U40).mono ?_)
           rintro e U41 ⟨rfl, hb⟩
           refine ⟨_, rfl, ?_⟩
           show K (Act.put _ (some 22) _) _
           have s41 := held2 s40 hb
           have z41 := zr_below z40 hb
           have b41 := b40.below hb b40.lt
           refine hK _ _ (fun _ _ => s41) ?_
           simp only [Act.put, List.setIfInBounds_toArray, List.set_cons_zero, List.set_cons_succ]
           refine wpLate_take0 (i := 4) (oi := _) (v := .int .i64 (96 + 2 * t + (i : Int))) (d := some 24) rfl rfl (by kernel_rfl) (by kernel_rfl) (by kernel_rfl) (fun _ _ _ h => h) rfl (fun W => by go_simp) ?_
           simp only [Act.put, List.setIfInBounds_toArray, List.set_cons_zero, List.set_cons_succ]
           refine wpLate_one (i := 7) (by kernel_rfl) rfl rfl (fun K hK => ?_)
           refine oper_enter (f := 50) (args := #[pval X ⟨P1, c1⟩ ⟨P2, c2⟩, .int .i64 (96 + 2 * t + (i : Int)), .string (bs (List.replicate 64 0))]) (w' := U41) (by go_simp) ((hs U41 s41.2).mono ?_)
           rintro e U42 ⟨⟨p3, q3, rfl, i3, o3⟩, hb⟩
           have o4 : ∀ h, h < w3.heap.size → PnOff h X ⟨P1, c1⟩ ⟨P2, c2⟩ → PnOff h Y p3 q3 := fun h hh ho => o3 h (Nat.lt_of_lt_of_le hh s41.2.size) ho
           have oB := o3 gb b41.lt (Hap3.out gb gb0)
           clear o3
           refine ⟨_, rfl, ?_⟩
           show K (Act.put _ (some 27) _) _
           have s42 := held2 s41 hb
           have z42 := zr_below z41 hb
           have b42 := b41.below hb b41.lt
           refine hK _ _ (fun _ _ => s42) ?_
           simp only [Act.put, List.setIfInBounds_toArray, List.set_cons_zero, List.set_cons_succ]
           refine wpLate_take0 (i := 8) (oi := _) (v := .tuple #[pval Y p3 q3, .int .i64 er2]) (d := some 19) rfl rfl (by kernel_rfl) (by kernel_rfl) (by kernel_rfl) (fun _ _ _ h => h) rfl (fun W => by rfl) ?_
           simp only [Act.put, List.setIfInBounds_toArray, List.set_cons_zero, List.set_cons_succ]
           refine wpLate_take0 (i := 9) (oi := _) (v := pval Y p3 q3) (d := some 28) rfl rfl (by kernel_rfl) (by kernel_rfl) (by kernel_rfl) (fun _ _ _ h => h) rfl (fun W => by rfl) ?_
           simp only [Act.put, List.setIfInBounds_toArray, List.set_cons_zero, List.set_cons_succ]
           refine wpLate_take0 (i := 10) (oi := _) (v := .int .i64 er2) (d := some 29) rfl rfl (by kernel_rfl) (by kernel_rfl) (by kernel_rfl) (fun _ _ _ h => h) rfl (fun W => by rfl) ?_
           simp only [Act.put, List.setIfInBounds_toArray, List.set_cons_zero, List.set_cons_succ]
           refine wpLate_one (i := 12) (by kernel_rfl) rfl rfl (fun K hK => ?_)
           refine oper_skip (w' := (U42.setCell ⟨gb, 0, none⟩ (.slice p3.a Y.targets.length p3.c)).setCell ⟨gb, 1, none⟩ (.slice q3.a Y.data.length q3.c)) (by have u0 := blk2 b42; have uf := b42.frozen; have qq := b42.set 0 (.slice p3.a Y.targets.length p3.c); have uf2 := qq.frozen; have u1 := blk2 qq; go_simp) ?_
           show K (Act.put _ none _) _
           have b43 := blk_set2 b42 (.slice p3.a Y.targets.length p3.c) (.slice q3.a Y.data.length q3.c)
           have bw := below_set2 s42.2 gb0 (.slice p3.a Y.targets.length p3.c) (.slice q3.a Y.data.length q3.c)
           replace i3 := i3.off2 oB (.slice p3.a Y.targets.length p3.c) (.slice q3.a Y.data.length q3.c)
           refine hK _ _ (fun h => by cases h) ?_
           try simp only [Act.put, List.setIfInBounds_toArray, List.set_cons_zero, List.set_cons_succ]
           refine wpLate_take0 (i := 13) (oi := _) (v := .int .i64 er2) (d := some 9) rfl rfl (by kernel_rfl) (by kernel_rfl) (by kernel_rfl) (fun _ _ _ h => h) rfl (fun W => by rfl) ?_
           simp only [Act.put, List.setIfInBounds_toArray, List.set_cons_zero, List.set_cons_succ]
           refine wpLate_done (by kernel_rfl) ?_ _
           go_wp2_with fail
           go_meet
           exact ⟨gb, p3, q3, rfl, rfl, gb0, b43, i3, o4, bw⟩
       · refine oper_ran (v := .pointer (some ⟨U19.heap.size, 0, none⟩)) (w' := U19.alloc (.cells #[.slice none 0 0, .slice none 0 0] 67)) (by go_simp) ?_
         show K (Act.put _ (some 8) _) _
         have s44 := held2 s19 ((Below.refl U19.heap.size U19).alloc (Nat.le_refl _) (.cells #[.slice none 0 0, .slice none 0 0] 67))
         have z44 := zr_alloc z19 (.cells #[.slice none 0 0, .slice none 0 0] 67)
         have b44 := Blk.new U19 67 #[.slice none 0 0, .slice none 0 0]
         have gb0 : w3.heap.size ≤ U19.heap.size := s19.2.size
         refine hK _ _ (fun _ _ => s44) ?_
         generalize U19.alloc (.cells #[.slice none 0 0, .slice none 0 0] 67) = U44 at s44 z44 b44 ⊢
         generalize U19.heap.size = gb at b44 gb0 ⊢
         simp only [Act.put, List.setIfInBounds_toArray, List.set_cons_zero, List.set_cons_succ]
         refine wpLate_two (i := 2) (k := 6) (by kernel_rfl) rfl rfl rfl rfl (fun K hK => ?_) (fun K hK => ?_)
         · refine oper_enter (f := 38) (args := #[.int .i64 t]) (w' := U44) (by go_simp) ((hat U44).mono ?_)
           rintro e U45 ⟨rfl, hb⟩
           refine ⟨_, rfl, ?_⟩
           show K (Act.put _ (some 22) _) _
           have s45 := held2 s44 hb
           have z45 := zr_below z44 hb
           have b45 := b44.below hb b44.lt
           refine hK _ _ (fun _ _ => s45) ?_
           simp only [Act.put, List.setIfInBounds_toArray, List.set_cons_zero, List.set_cons_succ]
           refine wpLate_take0 (i := 4) (oi := _) (v := .int .i64 (96 + 2 * t + (i : Int))) (d := some 24) rfl rfl (by kernel_rfl) (by kernel_rfl) (by kernel_rfl) (fun _ _ _ h => h) rfl (fun W => by go_simp) ?_
           simp only [Act.put, List.setIfInBounds_toArray, List.set_cons_zero, List.set_cons_succ]
           refine wpLate_one (i := 6) (by kernel_rfl) rfl rfl (fun K hK => ?_)
           refine oper_ran (v := .string (bs (List.replicate 64 0))) (w' := U45) (by have h := zr_conv z45; go_simp) ?_
           show K (Act.put _ (some 26) _) _
           refine hK _ _ (fun _ h => h) ?_
           simp only [Act.put, List.setIfInBounds_toArray, List.set_cons_zero, List.set_cons_succ]
           refine wpLate_one (i := 7) (by kernel_rfl) rfl rfl (fun K hK => ?_)
           refine oper_enter (f := 50) (args := #[pval X ⟨P1, c1⟩ ⟨P2, c2⟩, .int .i64 (96 + 2 * t + (i : Int)), .string (bs (List.replicate 64 0))]) (w' := U45) (by go_simp) ((hs U45 s45.2).mono ?_)
           rintro e U47 ⟨⟨p3, q3, rfl, i3, o3⟩, hb⟩
           have o4 : ∀ h, h < w3.heap.size → PnOff h X ⟨P1, c1⟩ ⟨P2, c2⟩ → PnOff h Y p3 q3 := fun h hh ho => o3 h (Nat.lt_of_lt_of_le hh s45.2.size) ho
           have oB := o3 gb b45.lt (Hap3.out gb gb0)
           clear o3
           refine ⟨_, rfl, ?_⟩
           show K (Act.put _ (some 27) _) _
           have s47 := held2 s45 hb
           have z47 := zr_below z45 hb
           have b47 := b45.below hb b45.lt
           refine hK _ _ (fun _ _ => s47) ?_
           simp only [Act.put, List.setIfInBounds_toArray, List.set_cons_zero, List.set_cons_succ]
           refine wpLate_take0 (i := 8) (oi := _) (v := .tuple #[pval Y p3 q3, .int .i64 er2]) (d := some 19) rfl rfl (by kernel_rfl) (by kernel_rfl) (by kernel_rfl) (fun _ _ _ h => h) rfl (fun W => by rfl) ?_
           simp only [Act.put, List.setIfInBounds_toArray, List.set_cons_zero, List.set_cons_succ]
           refine wpLate_take0 (i := 9) (oi := _) (v := pval Y p3 q3) (d := some 28) rfl rfl (by kernel_rfl) (by kernel_rfl) (by kernel_rfl) (fun _ _ _ h => h) rfl (fun W => by rfl) ?_
           simp only [Act.put, List.setIfInBounds_toArray, List.set_cons_zero, List.set_cons_succ]
           refine wpLate_take0 (i := 10) (oi := _) (v := .int .i64 er2) (d := some 29) rfl rfl (by kernel_rfl) (by kernel_rfl) (by kernel_rfl) (fun _ _ _ h => h) rfl (fun W => by rfl) ?_
           simp only [Act.put, List.setIfInBounds_toArray, List.set_cons_zero, List.set_cons_succ]
           refine wpLate_one (i := 12) (by kernel_rfl) rfl rfl (fun K hK => ?_)
           refine oper_skip (w' := (U47.setCell ⟨gb, 0, none⟩ (.slice p3.a Y.targets.length p3.c)).setCell ⟨gb, 1, none⟩ (.slice q3.a Y.data.length q3.c)) (by have u0 := blk2 b47; have uf := b47.frozen; have qq := b47.set 0 (.slice p3.a Y.targets.length p3.c); have uf2 := qq.frozen; have u1 := blk2 qq; go_simp) ?_
           show K (Act.put _ none _) _
           have b48 := blk_set2 b47 (.slice p3.a Y.targets.length p3.c) (.slice q3.a Y.data.length q3.c)
           have bw := below_set2 s47.2 gb0 (.slice p3.a Y.targets.length p3.c) (.slice q3.a Y.data.length q3.c)
           replace i3 := i3.off2 oB (.slice p3.a Y.targets.length p3.c) (.slice q3.a Y.data.length q3.c)
           refine hK _ _ (fun h => by cases h) ?_
           try simp only [Act.put, List.setIfInBounds_toArray, List.set_cons_zero, List.set_cons_succ]
           refine wpLate_take0 (i := 13) (oi := _) (v := .int .i64 er2) (d := some 9) rfl rfl (by kernel_rfl) (by kernel_rfl) (by kernel_rfl) (fun _ _ _ h => h) rfl (fun W => by rfl) ?_
           simp only [Act.put, List.setIfInBounds_toArray, List.set_cons_zero, List.set_cons_succ]
           refine wpLate_done (by kernel_rfl) ?_ _
           go_wp2_with fail
           go_meet
           exact ⟨gb, p3, q3, rfl, rfl, gb0, b48, i3, o4, bw⟩
         · refine oper_ran (v := .string (bs (List.replicate 64 0))) (w' := U44) (by have h := zr_conv z44; go_simp) ?_
           show K (Act.put _ (some 26) _) _
           refine hK _ _ (fun _ h => h) ?_
           simp only [Act.put, List.setIfInBounds_toArray, List.set_cons_zero, List.set_cons_succ]
           refine wpLate_one (i := 2) (by kernel_rfl) rfl rfl (fun K hK => ?_)
           refine oper_enter (f := 38) (args := #[.int .i64 t]) (w' := U44) (by go_simp) ((hat U44).mono ?_)
           rintro e U50 ⟨rfl, hb⟩
           refine ⟨_, rfl, ?_⟩
           show K (Act.put _ (some 22) _) _
           have s50 := held2 s44 hb
           have z50 := zr_below z44 hb
           have b50 := b44.below hb b44.lt
           refine hK _ _ (fun _ _ => s50) ?_
           simp only [Act.put, List.setIfInBounds_toArray, List.set_cons_zero, List.set_cons_succ]
           refine wpLate_take0 (i := 4) (oi := _) (v := .int .i64 (96 + 2 * t + (i : Int))) (d := some 24) rfl rfl (by kernel_rfl) (by kernel_rfl) (by kernel_rfl) (fun _ _ _ h => h) rfl (fun W => by go_simp) ?_
           simp only [Act.put, List.setIfInBounds_toArray, List.set_cons_zero, List.set_cons_succ]
           refine wpLate_one (i := 7) (by kernel_rfl) rfl rfl (fun K hK => ?_)
           refine oper_enter (f := 50) (args := #[pval X ⟨P1, c1⟩ ⟨P2, c2⟩, .int .i64 (96 + 2 * t + (i : Int)), .string (bs (List.replicate 64 0))]) (w' := U50) (by go_simp) ((hs U50 s50.2).mono ?_)
           rintro e U51 ⟨⟨p3, q3, rfl, i3, o3⟩, hb⟩
           have o4 : ∀ h, h < w3.heap.size → PnOff h X ⟨P1, c1⟩ ⟨P2, c2⟩ → PnOff h Y p3 q3 := fun h hh ho => o3 h (Nat.lt_of_lt_of_le hh s50.2.size) ho
           have oB := o3 gb b50.lt (Hap3.out gb gb0)
           clear o3
           refine ⟨_, rfl, ?_⟩
           show K (Act.put _ (some 27) _) _
           have s51 := held2 s50 hb
           have z51 := zr_below z50 hb
           have b51 := b50.below hb b50.lt
           refine hK _ _ (fun _ _ => s51) ?_
           simp only [Act.put, List.setIfInBounds_toArray, List.set_cons_zero, List.set_cons_succ]
           refine wpLate_take0 (i := 8) (oi := _) (v := .tuple #[pval Y p3 q3, .int .i64 er2]) (d := some 19) rfl rfl (by kernel_rfl) (by kernel_rfl) (by kernel_rfl) (fun _ _ _ h => h) rfl (fun W => by rfl) ?_
           simp only [Act.put, List.setIfInBounds_toArray, List.set_cons_zero, List.set_cons_succ]
           refine wpLate_take0 (i := 9) (oi := _) (v := pval Y p3 q3) (d := some 28) rfl rfl (by kernel_rfl) (by kernel_rfl) (by kernel_rfl) (fun _ _ _ h => h) rfl (fun W => by rfl) ?_
           simp only [Act.put, List.setIfInBounds_toArray, List.set_cons_zero, List.set_cons_succ]
           refine wpLate_take0 (i := 10) (oi := _) (v := .int .i64 er2) (d := some 29) rfl rfl (by kernel_rfl) (by kernel_rfl) (by kernel_rfl) (fun _ _ _ h => h) rfl (fun W => by rfl) ?_
           simp only [Act.put, List.setIfInBounds_toArray, List.set_cons_zero, List.set_cons_succ]
           refine wpLate_one (i := 12) (by kernel_rfl) rfl rfl (fun K hK => ?_)
           refine oper_skip (w' := (U51.setCell ⟨gb, 0, none⟩ (.slice p3.a Y.targets.length p3.c)).setCell ⟨gb, 1, none⟩ (.slice q3.a Y.data.length q3.c)) (by have u0 := blk2 b51; have uf := b51.frozen; have qq := b51.set 0 (.slice p3.a Y.targets.length p3.c); have uf2 := qq.frozen; have u1 := blk2 qq; go_simp) ?_
           show K (Act.put _ none _) _
           have b52 := blk_set2 b51 (.slice p3.a Y.targets.length p3.c) (.slice q3.a Y.data.length q3.c)
           have bw := below_set2 s51.2 gb0 (.slice p3.a Y.targets.length p3.c) (.slice q3.a Y.data.length q3.c)
           replace i3 := i3.off2 oB (.slice p3.a Y.targets.length p3.c) (.slice q3.a Y.data.length q3.c)
           refine hK _ _ (fun h => by cases h) ?_
           try simp only [Act.put, List.setIfInBounds_toArray, List.set_cons_zero, List.set_cons_succ]
           refine wpLate_take0 (i := 13) (oi := _) (v := .int .i64 er2) (d := some 9) rfl rfl (by kernel_rfl) (by kernel_rfl) (by kernel_rfl) (fun _ _ _ h => h) rfl (fun W => by rfl) ?_
           simp only [Act.put, List.setIfInBounds_toArray, List.set_cons_zero, List.set_cons_succ]
           refine wpLate_done (by kernel_rfl) ?_ _
           go_wp2_with fail
           go_meet
           exact ⟨gb, p3, q3, rfl, rfl, gb0, b52, i3, o4, bw⟩
     · refine oper_ran (v := .pointer (some ⟨U0.heap.size, 0, none⟩)) (w' := U0.alloc (.cells #[.slice none 0 0, .slice none 0 0] 67)) (by go_simp) ?_
       show K (Act.put _ (some 8) _) _
       have s53 := held2 s0 ((Below.refl U0.heap.size U0).alloc (Nat.le_refl _) (.cells #[.slice none 0 0, .slice none 0 0] 67))
       have b53 := Blk.new U0 67 #[.slice none 0 0, .slice none 0 0]
       have gb0 : w3.heap.size ≤ U0.heap.size := s0.2.size
       refine hK _ _ (fun _ _ => s53) ?_
       generalize U0.alloc (.cells #[.slice none 0 0, .slice none 0 0] 67) = U53 at s53 b53 ⊢
       generalize U0.heap.size = gb at b53 gb0 ⊢
       simp only [Act.put, List.setIfInBounds_toArray, List.set_cons_zero, List.set_cons_succ]
       refine wpLate_two (i := 2) (k := 5) (by kernel_rfl) rfl rfl rfl rfl (fun K hK => ?_) (fun K hK => ?_)
       · refine oper_enter (f := 38) (args := #[.int .i64 t]) (w' := U53) (by go_simp) ((hat U53).mono ?_)
         rintro e U54 ⟨rfl, hb⟩
         refine ⟨_, rfl, ?_⟩
         show K (Act.put _ (some 22) _) _
         have s54 := held2 s53 hb
         have b54 := b53.below hb b53.lt
         refine hK _ _ (fun _ _ => s54) ?_
         simp only [Act.put, List.setIfInBounds_toArray, List.set_cons_zero, List.set_cons_succ]
         refine wpLate_take0 (i := 4) (oi := _) (v := .int .i64 (96 + 2 * t + (i : Int))) (d := some 24) rfl rfl (by kernel_rfl) (by kernel_rfl) (by kernel_rfl) (fun _ _ _ h => h) rfl (fun W => by go_simp) ?_
         simp only [Act.put, List.setIfInBounds_toArray, List.set_cons_zero, List.set_cons_succ]
         refine wpLate_one (i := 5) (by kernel_rfl) rfl rfl (fun K hK => ?_)
         refine oper_ran (v := .slice (some ⟨U54.heap.size, 0, none⟩) 64 64) (w' := U54.alloc (.cells (madeCells #[.int .u8 0] 64) 5)) (by go_simp) ?_
         show K (Act.put _ (some 25) _) _
         have s55 := held2 s54 ((Below.refl U54.heap.size U54).alloc (Nat.le_refl _) (.cells (madeCells #[.int .u8 0] 64) 5))
         have z55 := zr_new U54 5
         have b55 := b54.alloc (.cells (madeCells #[.int .u8 0] 64) 5)
         refine hK _ _ (fun _ _ => s55) ?_
         generalize U54.alloc (.cells (madeCells #[.int .u8 0] 64) 5) = U55 at s55 z55 b55 ⊢
         generalize U54.heap.size = gz at z55 ⊢
         simp only [Act.put, List.setIfInBounds_toArray, List.set_cons_zero, List.set_cons_succ]
         refine wpLate_one (i := 6) (by kernel_rfl) rfl rfl (fun K hK => ?_)
         refine oper_ran (v := .string (bs (List.replicate 64 0))) (w' := U55) (by have h := zr_conv z55; go_simp) ?_
         show K (Act.put _ (some 26) _) _
         refine hK _ _ (fun _ h => h) ?_
         simp only [Act.put, List.setIfInBounds_toArray, List.set_cons_zero, List.set_cons_succ]
         refine wpLate_one (i := 7) (by kernel_rfl) rfl rfl (fun K hK => ?_)
         refine oper_enter (f := 50) (args := #[pval X ⟨P1, c1⟩ ⟨P2, c2⟩, .int .i64 (96 + 2 * t + (i : Int)), .string (bs (List.replicate 64 0))]) (w' := U55) (by go_simp) ((hs U55 s55.2).mono ?_)
         rintro e U57 ⟨⟨p3, q3, rfl, i3, o3⟩, hb⟩
         have o4 : ∀ h, h < w3.heap.size → PnOff h X ⟨P1, c1⟩ ⟨P2, c2⟩ → PnOff h Y p3 q3 := fun h hh ho => o3 h (Nat.lt_of_lt_of_le hh s55.2.size) ho
         have oB := o3 gb b55.lt (Hap3.out gb gb0)
         clear o3
         refine ⟨_, rfl, ?_⟩
         show K (Act.put _ (some 27) _) _
         have s57 := held2 s55 hb
         have z57 := zr_below z55 hb
         have b57 := b55.below hb b55.lt
         refine hK _ _ (fun _ _ => s57) ?_
         simp only [Act.put, List.setIfInBounds_toArray, List.set_cons_zero, List.set_cons_succ]
         refine wpLate_take0 (i := 8) (oi := _) (v := .tuple #[pval Y p3 q3, .int .i64 er2]) (d := some 19) rfl rfl (by kernel_rfl) (by kernel_rfl) (by kernel_rfl) (fun _ _ _ h => h) rfl (fun W => by rfl) ?_
         simp only [Act.put, List.setIfInBounds_toArray, List.set_cons_zero, List.set_cons_succ]
         refine wpLate_take0 (i := 9) (oi := _) (v := pval Y p3 q3) (d := some 28) rfl rfl (by kernel_rfl) (by kernel_rfl) (by kernel_rfl) (fun _ _ _ h => h) rfl (fun W => by rfl) ?_
         simp only [Act.put, List.setIfInBounds_toArray, List.set_cons_zero, List.set_cons_succ]
         refine wpLate_take0 (i := 10) (oi := _) (v := .int .i64 er2) (d := some 29) rfl rfl (by kernel_rfl) (by kernel_rfl) (by kernel_rfl) (fun _ _ _ h => h) rfl (fun W => by rfl) ?_
         simp only [Act.put, List.setIfInBounds_toArray, List.set_cons_zero, List.set_cons_succ]
         refine wpLate_one (i := 12) (by kernel_rfl) rfl rfl (fun K hK => ?_)
         refine oper_skip (w' := (U57.setCell ⟨gb, 0, none⟩ (.slice p3.a Y.targets.length p3.c)).setCell ⟨gb, 1, none⟩ (.slice q3.a Y.data.length q3.c)) (by have u0 := blk2 b57; have uf := b57.frozen; have qq := b57.set 0 (.slice p3.a Y.targets.length p3.c); have uf2 := qq.frozen; have u1 := blk2 qq; go_simp) ?_
         show K (Act.put _ none _) _
         have b58 := blk_set2 b57 (.slice p3.a Y.targets.length p3.c) (.slice q3.a Y.data.length q3.c)
         have bw := below_set2 s57.2 gb0 (.slice p3.a Y.targets.length p3.c) (.slice q3.a Y.data.length q3.c)
         replace i3 := i3.off2 oB (.slice p3.a Y.targets.length p3.c) (.slice q3.a Y.data.length q3.c)
         refine hK _ _ (fun h => by cases h) ?_
         try simp only [Act.put, List.setIfInBounds_toArray, List.set_cons_zero, List.set_cons_succ]
         refine wpLate_take0 (i := 13) (oi := _) (v := .int .i64 er2) (d := some 9) rfl rfl (by kernel_rfl) (by kernel_rfl) (by kernel_rfl) (fun _ _ _ h => h) rfl (fun W => by rfl) ?_
         simp only [Act.put, List.setIfInBounds_toArray, List.set_cons_zero, List.set_cons_succ]
         refine wpLate_done (by kernel_rfl) ?_ _
         go_wp2_with fail
         go_meet
         exact ⟨gb, p3, q3, rfl, rfl, gb0, b58, i3, o4, bw⟩
       · refine oper_ran (v := .slice (some ⟨U53.heap.size, 0, none⟩) 64 64) (w' := U53.alloc (.cells (madeCells #[.int .u8 0] 64) 5)) (by go_simp) ?_
         show K (Act.put _ (some 25) _) _
         have s59 := held2 s53 ((Below.refl U53.heap.size U53).alloc (Nat.le_refl _) (.cells (madeCells #[.int .u8 0] 64) 5))
         have z59 := zr_new U53 5
         have b59 := b53.alloc (.cells (madeCells #[.int .u8 0] 64) 5)
         refine hK _ _ (fun _ _ => s59) ?_
         generalize U53.alloc (.cells (madeCells #[.int .u8 0] 64) 5) = U59 at s59 z59 b59 ⊢
         generalize U53.heap.size = gz at z59 ⊢
         simp only [Act.put, List.setIfInBounds_toArray, List.set_cons_zero, List.set_cons_succ]
         refine wpLate_two (i := 2) (k := 6) (by kernel_rfl) rfl rfl rfl rfl (fun K hK => ?_) (fun K hK => ?_)
         · refine oper_enter (f := 38) (args := #[.int .i64 t]) (w' := U59) (by go_simp) ((hat U59).mono ?_)
           rintro e U60 ⟨rfl, hb⟩
           refine ⟨_, rfl, ?_⟩
           show K (Act.put _ (some 22) _) _
           have s60 := held2 s59 hb
           have z60 := zr_below z59 hb
           have b60 := b59.below hb b59.lt
           refine hK _ _ (fun _ _ => s60) ?_
           simp only [Act.put, List.setIfInBounds_toArray, List.set_cons_zero, List.set_cons_succ]
           refine wpLate_take0 (i := 4) (oi := _) (v := .int .i64 (96 + 2 * t + (i : Int))) (d := some 24) rfl rfl (by kernel_rfl) (by kernel_rfl) (by kernel_rfl) (fun _ _ _ h => h) rfl (fun W => by go_simp) ?_
           simp only [Act.put, List.setIfInBounds_toArray, List.set_cons_zero, List.set_cons_succ]
           refine wpLate_one (i := 6) (by kernel_rfl) rfl rfl (fun K hK => ?_)
           refine oper_ran (v := .string (bs (List.replicate 64 0))) (w' := U60) (by have h := zr_conv z60; go_simp) ?_
           show K (Act.put _ (some 26) _) _
           refine hK _ _ (fun _ h => h) ?_
           simp only [Act.put, List.setIfInBounds_toArray, List.set_cons_zero, List.set_cons_succ]
           refine wpLate_one (i := 7) (by kernel_rfl) rfl rfl (fun K hK => ?_)
           refine oper_enter (f := 50) (args := #[pval X ⟨P1, c1⟩ ⟨P2, c2⟩, .int .i64 (96 + 2 * t + (i : Int)), .string (bs (List.replicate 64 0))]) (w' := U60) (by go_simp) ((hs U60 s60.2).mono ?_)
           rintro e U62 ⟨⟨p3, q3, rfl, i3, o3⟩, hb⟩
           have o4 : ∀ h, h < w3.heap.size → PnOff h X ⟨P1, c1⟩ ⟨P2, c2⟩ → PnOff h Y p3 q3 := fun h hh ho => o3 h (Nat.lt_of_lt_of_le hh s60.2.size) ho
           have oB := o3 gb b60.lt (Hap3.out gb gb0)
           clear o3
           refine ⟨_, rfl, ?_⟩
           show K (Act.put _ (some 27) _) _
           have s62 := held2 s60 hb
           have z62 := zr_below z60 hb
           have b62 := b60.below hb b60.lt
           refine hK _ _ (fun _ _ => s62) ?_
           simp only [Act.put, List.setIfInBounds_toArray, List.set_cons_zero, List.set_cons_succ]
           refine wpLate_take0 (i := 8) (oi := _) (v := .tuple #[pval Y p3 q3, .int .i64 er2]) (d := some 19) rfl rfl (by kernel_rfl) (by kernel_rfl) (by kernel_rfl) (fun _ _ _ h => h) rfl (fun W => by rfl) ?_
           simp only [Act.put, List.setIfInBounds_toArray, List.set_cons_zero, List.set_cons_succ]
           refine wpLate_take0 (i := 9) (oi := _) (v := pval Y p3 q3) (d := some 28) rfl rfl (by kernel_rfl) (by kernel_rfl) (by kernel_rfl) (fun _ _ _ h => h) rfl (fun W => by rfl) ?_
           simp only [Act.put, List.setIfInBounds_toArray, List.set_cons_zero, List.set_cons_succ]
           refine wpLate_take0 (i := 10) (oi := _) (v := .int .i64 er2) (d := some 29) rfl rfl (by kernel_rfl) (by kernel_rfl) (by kernel_rfl) (fun _ _ _ h => h) rfl (fun W => by rfl) ?_
           simp only [Act.put, List.setIfInBounds_toArray, List.set_cons_zero, List.set_cons_succ]
           refine wpLate_one (i := 12) (by kernel_rfl) rfl rfl (fun K hK => ?_)
           refine oper_skip (w' := (U62.setCell ⟨gb, 0, none⟩ (.slice p3.a Y.targets.length p3.c)).setCell ⟨gb, 1, none⟩ (.slice q3.a Y.data.length q3.c)) (by have u0 := blk2 b62; have uf := b62.frozen; have qq := b62.set 0 (.slice p3.a Y.targets.length p3.c); have uf2 := qq.frozen; have u1 := blk2 qq; go_simp) ?_
           show K (Act.put _ none _) _
           have b63 := blk_set2 b62 (.slice p3.a Y.targets.length p3.c) (.slice q3.a Y.data.length q3.c)
           have bw := below_set2 s62.2 gb0 (.slice p3.a Y.targets.length p3.c) (.slice q3.a Y.data.length q3.c)
           replace i3 := i3.off2 oB (.slice p3.a Y.targets.length p3.c) (.slice q3.a Y.data.length q3.c)
           refine hK _ _ (fun h => by cases h) ?_
           try simp only [Act.put, List.setIfInBounds_toArray, List.set_cons_zero, List.set_cons_succ]
           refine wpLate_take0 (i := 13) (oi := _) (v := .int .i64 er2) (d := some 9) rfl rfl (by kernel_rfl) (by kernel_rfl) (by kernel_rfl) (fun _ _ _ h => h) rfl (fun W => by rfl) ?_
           simp only [Act.put, List.setIfInBounds_toArray, List.set_cons_zero, List.set_cons_succ]
           refine wpLate_done (by kernel_rfl) ?_ _
           go_wp2_with fail
           go_meet
           exact ⟨gb, p3, q3, rfl, rfl, gb0, b63, i3, o4, bw⟩
         · refine oper_ran (v := .string (bs (List.replicate 64 0))) (w' := U59) (by have h := zr_conv z59; go_simp) ?_
           show K (Act.put _ (some 26) _) _
           refine hK _ _ (fun _ h => h) ?_
           simp only [Act.put, List.setIfInBounds_toArray, List.set_cons_zero, List.set_cons_succ]
           refine wpLate_one (i := 2) (by kernel_rfl) rfl rfl (fun K hK => ?_)
           refine oper_enter (f := 38) (args := #[.int .i64 t]) (w' := U59) (by go_simp) ((hat U59).mono ?_)
           rintro e U65 ⟨rfl, hb⟩
           refine ⟨_, rfl, ?_⟩
           show K (Act.put _ (some 22) _) _
           have s65 := held2 s59 hb
           have z65 := zr_below z59 hb
           have b65 := b59.below hb b59.lt
           refine hK _ _ (fun _ _ => s65) ?_
           simp only [Act.put, List.setIfInBounds_toArray, List.set_cons_zero, List.set_cons_succ]
           refine wpLate_take0 (i := 4) (oi := _) (v := .int .i64 (96 + 2 * t + (i : Int))) (d := some 24) rfl rfl (by kernel_rfl) (by kernel_rfl) (by kernel_rfl) (fun _ _ _ h => h) rfl (fun W => by go_simp) ?_
           simp only [Act.put, List.setIfInBounds_toArray, List.set_cons_zero, List.set_cons_succ]
           refine wpLate_one (i := 7) (by kernel_rfl) rfl rfl (fun K hK => ?_)
           refine oper_enter (f := 50) (args := #[pval X ⟨P1, c1⟩ ⟨P2, c2⟩, .int .i64 (96 + 2 * t + (i : Int)), .string (bs (List.replicate 64 0))]) (w' := U65) (by go_simp) ((hs U65 s65.2).mono ?_)
           rintro e U66 ⟨⟨p3, q3, rfl, i3, o3⟩, hb⟩
           have o4 : ∀ h, h < w3.heap.size → PnOff h X ⟨P1, c1⟩ ⟨P2, c2⟩ → PnOff h Y p3 q3 := fun h hh ho => o3 h (Nat.lt_of_lt_of_le hh s65.2.size) ho
           have oB := o3 gb b65.lt (Hap3.out gb gb0)
           clear o3
           refine ⟨_, rfl, ?_⟩
           show K (Act.put _ (some 27) _) _
           have s66 := held2 s65 hb
           have z66 := zr_below z65 hb
           have b66 := b65.below hb b65.lt
           refine hK _ _ (fun _ _ => s66) ?_
           simp only [Act.put, List.setIfInBounds_toArray, List.set_cons_zero, List.set_cons_succ]
           refine wpLate_take0 (i := 8) (oi := _) (v := .tuple #[pval Y p3 q3, .int .i64 er2]) (d := some 19) rfl rfl (by kernel_rfl) (by kernel_rfl) (by kernel_rfl) (fun _ _ _ h => h) rfl (fun W => by rfl) ?_
           simp only [Act.put, List.setIfInBounds_toArray, List.set_cons_zero, List.set_cons_succ]
           refine wpLate_take0 (i := 9) (oi := _) (v := pval Y p3 q3) (d := some 28) rfl rfl (by kernel_rfl) (by kernel_rfl) (by kernel_rfl) (fun _ _ _ h => h) rfl (fun W => by rfl) ?_
           simp only [Act.put, List.setIfInBounds_toArray, List.set_cons_zero, List.set_cons_succ]
           refine wpLate_take0 (i := 10) (oi := _) (v := .int .i64 er2) (d := some 29) rfl rfl (by kernel_rfl) (by kernel_rfl) (by kernel_rfl) (fun _ _ _ h => h) rfl (fun W => by rfl) ?_
           simp only [Act.put, List.setIfInBounds_toArray, List.set_cons_zero, List.set_cons_succ]
           refine wpLate_one (i := 12) (by kernel_rfl) rfl rfl (fun K hK => ?_)
           refine oper_skip (w' := (U66.setCell ⟨gb, 0, none⟩ (.slice p3.a Y.targets.length p3.c)).setCell ⟨gb, 1, none⟩ (.slice q3.a Y.data.length q3.c)) (by have u0 := blk2 b66; have uf := b66.frozen; have qq := b66.set 0 (.slice p3.a Y.targets.length p3.c); have uf2 := qq.frozen; have u1 := blk2 qq; go_simp) ?_
           show K (Act.put _ none _) _
           have b67 := blk_set2 b66 (.slice p3.a Y.targets.length p3.c) (.slice q3.a Y.data.length q3.c)
           have bw := below_set2 s66.2 gb0 (.slice p3.a Y.targets.length p3.c) (.slice q3.a Y.data.length q3.c)
           replace i3 := i3.off2 oB (.slice p3.a Y.targets.length p3.c) (.slice q3.a Y.data.length q3.c)
           refine hK _ _ (fun h => by cases h) ?_
           try simp only [Act.put, List.setIfInBounds_toArray, List.set_cons_zero, List.set_cons_succ]
           refine wpLate_take0 (i := 13) (oi := _) (v := .int .i64 er2) (d := some 9) rfl rfl (by kernel_rfl) (by kernel_rfl) (by kernel_rfl) (fun _ _ _ h => h) rfl (fun W => by rfl) ?_
           simp only [Act.put, List.setIfInBounds_toArray, List.set_cons_zero, List.set_cons_succ]
           refine wpLate_done (by kernel_rfl) ?_ _
           go_wp2_with fail
           go_meet
           exact ⟨gb, p3, q3, rfl, rfl, gb0, b67, i3, o4, bw⟩
    case rest =>
    obtain ⟨gu, p3, q3, rfl, rfl, hgu, u, i3, o3, hb5⟩ := hcut
    have w2l' := hB.size
    replace z := z.below hb5 z.lt
    replace r := r.below hb5 r.lt
    replace y := y.below hb5 y.lt
    replace hB := bt hB hb5
    have oy := o3 w2.heap.size (by omega) (Hap2.out _ (by omega) (by omega))
    have or := o3 (w.heap.size + 1) (by omega) (Hap2.out _ (by omega) (by omega))
    have rl2 : w.heap.size + 1 < wc.heap.size := r.lt
    have yl2 : w2.heap.size < wc.heap.size := y.lt
    clear hX s0 s00 b0 hat hs
    have zk := blk2 z
    have rk := blk2 r
    have yk := blk2 y
    have uk := blk2 u
    have rf := r.frozen
    have yf := y.frozen
    have ne1 : ¬ gu = w2.heap.size := by omega
    have ne2 : ¬ w2.heap.size = gu := by omega
    have ne3 : ¬ gu = w.heap.size + 1 := by omega
    have ne4 : ¬ w.heap.size + 1 = gu := by omega
    by_cases he : er2 = 0
    case neg =>
     have n1 : (er2 != 0) = true := by simpa using he
     have Hq := hid (Hbad1.out he)
     clear he
     go_wp2_with fail
     rw [Hr.out, Hq.out]
     have yy := blk2 (blk_set2 r (.slice B1 L.targets.length b1) (.slice B2 L.data.length b2))
     have b9 := below_set2 hB (g := w.heap.size + 1) (by omega) (.slice B1 L.targets.length b1) (.slice B2 L.data.length b2)
     refine bodyPost_ret (v := .tuple #[pval L ⟨B1, b1⟩ ⟨B2, b2⟩, .int .i64 er2]) (by simp [results, Tryz.results95, go_sem, yy]) rfl ?_
     exact ⟨⟨_, _, rfl, Hz.out _ b9, fun _ _ h => h⟩, b9⟩
    subst he
    have Hn := hid (Hnext1.out rfl)
    have HYf := hid hYf.out
    clear Hnext1 Hbad1 hYf
    go_wp2_with fail
    go_roundw
    case rel =>
     have o4 : PnOff w2.heap.size Y p3 q3 := oy
     exact ⟨i + 1, by omega, by go_num, Y, p3, q3, Hn, HYf, i3.off2 o4 _ _, hid (fun g hg h => o3 g (by omega) (hoff.out g hg h)), blk_off2 z (g := w2.heap.size) (by omega) _ _, blk_off2 r (g := w2.heap.size) (by omega) _ _, blk_set2 y _ _, below_set2 hB (g := w2.heap.size) (by omega) _ _⟩
    case measure => simp [intOf]; omega
  · obtain rfl : i = 2 := by omega
    have Hq := hid (show Pn.set2 L t (fun _ _ => (List.replicate 64 0, 0)) = (X, 0) from hst.out)
    have or := Hap2.out (w.heap.size + 1) (by omega) (by omega)
    have yk := blk2 y
    have rk := blk2 r
    have rf := r.frozen
    have rl : w.heap.size + 1 < wr.heap.size := r.lt
    go_wp2_with fail
    rw [Hr.out, Hq.out]
    have yy := blk2 (blk_set2 r (.slice P1 X.targets.length c1) (.slice P2 X.data.length c2))
    have b9 := below_set2 hB (g := w.heap.size + 1) (by omega) (.slice P1 X.targets.length c1) (.slice P2 X.data.length c2)
    refine bodyPost_ret (v := .tuple #[pval X ⟨P1, c1⟩ ⟨P2, c2⟩, .int .i64 0]) (by simp [results, Tryz.results95, go_sem, yy]) rfl ?_
    exact ⟨⟨_, _, rfl, hX.off2 or _ _, fun g hg h => hoff.out g (by omega) h⟩, b9⟩
theorem t11_blank (L : Pn) (p' q' : Pl) (w : World) (hL : IsPn w L p' q') (hfl : L.Fit) (t : Int) :
 Calls Tryz.prog 95 #[pval L p' q', .int .i64 t] w fun e w' => RetPn w.heap.size L p' q' (Pn.tabBlank L t) e w' ∧ Below w.heap.size w w' := by
 by_cases h : t < 0 ∨ 256 ≤ t
 · exact t11_blank_no L p' q' w hL t h
 · exact t11_blank_yes L p' q' w hL hfl t h
end Go.Proofs.YtlapjkbefkmohaaGreat
