/- Package root: all snapshots of an image. -/
import Derived.Test.YtjhnaeomaigimaaGreatDoorRoot8
import Derived.Deep.DeepCutAuto
set_option linter.unusedVariables false
namespace Go.Proofs.YtjhnaeomaigimaaGreatDoor
open Go.RowKit Go.Shelf
attribute [local go_sem] bs_mk bs_append bs_extract bs_size bs_toList bs_get
set_option maxRecDepth 100000 in
set_option maxHeartbeats 2000000 in
theorem rt_allSn (D : Dk) (L : Pn) (p q p' q' : Pl) (w : World) (hD : IsDk w D p q) (hL : IsPn w L p' q') (hf : D.fit = true) (hfl : L.Fit) :
    Calls Tryz.prog 69 #[dval D p q, pval L p' q', .int .i64 8, .func (.func 50) #[] #[]] w fun e w' => (∃ v, e = .returned (.tuple #[v, .int .i64 (Pn.snaps D L).2]) ∧ w'.ownsRow w.heap.size 33 3 v (Pn.snaps D L).1.length (snCells (Pn.snaps D L).1)) ∧ Below w.heap.size w w' := by
  have Hall := hid (show Pn.snaps D L = allN (Pn.snGet D L) 8 from rfl)
  have Hg := hid (fun (W : World) (hb : Below w.heap.size w W) (k : Nat) (hk : k < 8) => rt_getSnap D L p q p' q' W (hD.below hb) (hL.below hb) hf hfl k hk)
  obtain ⟨i0, hi, hz0, hz1, hz2⟩ := info_parts Tryz.infoSnap
  clear hD hL hf hfl
  obtain ⟨A1, a1⟩ := p
  obtain ⟨A2, a2⟩ := q
  obtain ⟨B1, b1⟩ := p'
  obtain ⟨B2, b2⟩ := q'
  go_enter Tryz.func69, Tryz.ntmps69
  go_wp2_with fail
  have hB := Below.refl w.heap.size w
  have x := Blk.new w 25 #[.string (bs D.data), .slice A1 D.cache.length a1, .int .i64 D.fuse, .bool D.off, .slice A2 D.bad.length a2]
  have xk := blk5 x
  have hB_1 := hB.alloc hB.size (.cells #[.string (bs D.data), .slice A1 D.cache.length a1, .int .i64 D.fuse, .bool D.off, .slice A2 D.bad.length a2] 25)
  have z := Blk.new (w.alloc (.cells #[.string (bs D.data), .slice A1 D.cache.length a1, .int .i64 D.fuse, .bool D.off, .slice A2 D.bad.length a2] 25)) 28 #[.slice B1 L.targets.length b1, .slice B2 L.data.length b2]
  simp only [World.size_alloc] at z
  have zk := blk2 z
  have hB_2 := hB_1.alloc hB_1.size (.cells #[.slice B1 L.targets.length b1, .slice B2 L.data.length b2] 28)
  have x_3 := x.alloc (.cells #[.slice B1 L.targets.length b1, .slice B2 L.data.length b2] 28)
  have xk_3 := blk5 x_3
  generalize ((w.alloc (.cells #[.string (bs D.data), .slice A1 D.cache.length a1, .int .i64 D.fuse, .bool D.off, .slice A2 D.bad.length a2] 25)).alloc (.cells #[.slice B1 L.targets.length b1, .slice B2 L.data.length b2] 28)) = V at hB_2 x_3 xk_3 z zk ⊢
  clear hB_1 hB x xk
  have hB := hB_2
  have x := x_3
  have xk := xk_3
  clear hB_2 x_3 xk_3
  have vl : w.heap.size + 1 < V.heap.size := z.lt
  go_loopw [10, 15] (fun l x W => ∃ m : Nat, m ≤ 8 ∧ x = .int .i64 m ∧ Hid (∀ i, i < m → (Pn.snGet D L i).2 = 0) ∧ W.ownsRow V.heap.size 33 3 l m (snCells ((List.range m).map fun i : Nat => (Pn.snGet D L i).1)) ∧ Below V.heap.size V W) (fun _ x _ => 8 - (intOf x).toNat)
  case atStart => exact ⟨0, Nat.zero_le _, rfl, hid (fun i hi => by omega), World.ownsRow_nil _ _ _ _, Below.refl _ _⟩
  case round =>
    obtain ⟨m, hm, rfl, hok, hown, hb⟩ := hrel
    have hbw := hB.trans (hb.mono hB.size)
    by_cases hlt : m < 8
    · have hat := fun W => rt_snapAt m hlt W
      have hget := fun (W : World) (h : Below wr.heap.size wr W) => Hg.out W (bt hbw h) m hlt
      obtain ⟨⟨⟨id, l1, name⟩, er⟩, hx⟩ : ∃ X, Pn.snGet D L m = X := ⟨_, rfl⟩
      rw [hx] at hget
      obtain ⟨PL, hPL⟩ : ∃ P, snPlace m = P := ⟨_, rfl⟩
      rw [hPL] at hget hat
      simp only at hget
      have Hst := hid (fun (he : er ≠ 0) => show Pn.snaps D L = ([], er) by
        rw [Hall.out, allN_stop (f := Pn.snGet D L) (n := m) (allN_all (fun i hi => hok.out i hi)) (by rw [hx]; exact he) 8 hlt, hx])
      have Hok2 := hid (fun (he : er = 0) => And.intro (show ∀ i, i < m + 1 → (Pn.snGet D L i).2 = 0 from fun i hi => by
          rcases Nat.lt_or_eq_of_le (Nat.le_of_lt_succ hi) with h | h
          · exact hok.out i h
          · rw [h, hx]; exact he) (show snCells ((List.range m).map fun i : Nat => (Pn.snGet D L i).1) ++ [.int .u32 id, .int .i64 l1, .string (bs name)] = snCells ((List.range (m + 1)).map fun i : Nat => (Pn.snGet D L i).1) by rw [show ([.int .u32 id, .int .i64 l1, .string (bs name)] : List Value) = [.int .u32 (Sn.mk id l1 name).id, .int .i64 (Sn.mk id l1 name).l1, .string (bs (Sn.mk id l1 name).name)] from rfl, snCells_snoc, List.range_succ, List.map_append]; simp [hx]))
      have KX := fun (W : World) (hW : Below wr.heap.size wr W) => blk5 ((x.below hb x.lt).below hW (x.below hb x.lt).lt)
      have KZ := fun (W : World) (hW : Below wr.heap.size wr W) => blk2 ((z.below hb z.lt).below hW (z.below hb z.lt).lt)
      clear xk zk hx hok hPL
      go_upto_region 5 with fail
      go_cut [12, 13] (fun s12 s13 W => ∃ g, s12 = .pointer (some ⟨g, 0, none⟩) ∧ s13 = .int .i64 er ∧ wr.heap.size ≤ g ∧ Blk W g 33 #[.int .u32 id, .int .i64 l1, .string (bs name)] ∧ Below wr.heap.size wr W)
      case first =>
        have s0 : Below wr.heap.size wr wr.drew := (Below.refl _ _).drew
        refine wp_region_late (S := fun W => Below wr.heap.size wr W) (late := fun _ => false) (by kernel_rfl) ?_
        generalize wr.drew = U0 at s0 ⊢
        simp only [List.size_toArray, List.length_cons, List.length_nil, Nat.reduceAdd, Array.replicate_succ, Array.replicate_zero, List.push_toArray, List.nil_append, List.cons_append]
        refine wpLate_take (i := 0) (oi := _) (v := dval D ⟨A1, a1⟩ ⟨A2, a2⟩) (d := some 19) rfl rfl (by kernel_rfl) (by kernel_rfl) (by kernel_rfl) (by kernel_rfl) (fun _ _ _ h => h) rfl (fun W hW => by have h := KX W hW; go_simp) s0 ?_
        simp only [Act.put, List.setIfInBounds_toArray, List.set_cons_zero, List.set_cons_succ]
        refine wpLate_take (i := 1) (oi := _) (v := pval L ⟨B1, b1⟩ ⟨B2, b2⟩) (d := some 20) rfl rfl (by kernel_rfl) (by kernel_rfl) (by kernel_rfl) (by kernel_rfl) (fun _ _ _ h => h) rfl (fun W hW => by have h := KZ W hW; go_simp) s0 ?_
        simp only [Act.put, List.setIfInBounds_toArray, List.set_cons_zero, List.set_cons_succ]
        refine wpLate_take0 (i := 2) (oi := _) (v := .func (.func 50) #[] #[]) (d := some 21) rfl rfl (by kernel_rfl) (by kernel_rfl) (by kernel_rfl) (fun _ _ _ h => h) rfl (fun W => by first | rfl | go_simp) ?_
        simp only [Act.put, List.setIfInBounds_toArray, List.set_cons_zero, List.set_cons_succ]
        refine wpLate_take0 (i := 3) (oi := _) (v := .int .i64 (m : Int)) (d := some 22) rfl rfl (by kernel_rfl) (by kernel_rfl) (by kernel_rfl) (fun _ _ _ h => h) rfl (fun W => by first | rfl | go_simp) ?_
        simp only [Act.put, List.setIfInBounds_toArray, List.set_cons_zero, List.set_cons_succ]
        refine wpLate_two (i := 4) (k := 9) (by kernel_rfl) rfl rfl rfl rfl (fun K hK => ?_) (fun K hK => ?_)
        · skip
          refine oper_enter' (f := 50) (args := #[.int .i64 (m : Int)]) (w' := U0) (by go_simp) ((hat U0).mono ?_)
          rintro e U1 ⟨rfl, hb0⟩
          refine ⟨_, rfl, ?_⟩
          show K (Act.put _ (some 23) _) _
          have s1 := bt s0 hb0
          refine hK _ _ (fun _ _ => s1) ?_
          simp only [Act.put, List.setIfInBounds_toArray, List.set_cons_zero, List.set_cons_succ]
          refine wpLate_two (i := 5) (k := 9) (by kernel_rfl) rfl rfl rfl rfl (fun K hK => ?_) (fun K hK => ?_)
          · skip
            refine oper_enter' (f := 113) (args := #[dval D ⟨A1, a1⟩ ⟨A2, a2⟩, pval L ⟨B1, b1⟩ ⟨B2, b2⟩, PL]) (w' := U1) (by go_simp) ((hget U1 s1).mono ?_)
            rintro e U2 ⟨rfl, hb1⟩
            refine ⟨_, rfl, ?_⟩
            show K (Act.put _ (some 24) _) _
            have s2 := bt s1 hb1
            refine hK _ _ (fun _ _ => s2) ?_
            simp only [Act.put, List.setIfInBounds_toArray, List.set_cons_zero, List.set_cons_succ]
            refine wpLate_take0 (i := 6) (oi := _) (v := .tuple #[.agg #[.int .u32 id, .int .i64 l1, .string (bs name)], .int .i64 er]) (d := some 18) rfl rfl (by kernel_rfl) (by kernel_rfl) (by kernel_rfl) (fun _ _ _ h => h) rfl (fun W => by first | rfl | go_simp) ?_
            simp only [Act.put, List.setIfInBounds_toArray, List.set_cons_zero, List.set_cons_succ]
            refine wpLate_take0 (i := 7) (oi := _) (v := .agg #[.int .u32 id, .int .i64 l1, .string (bs name)]) (d := some 25) rfl rfl (by kernel_rfl) (by kernel_rfl) (by kernel_rfl) (fun _ _ _ h => h) rfl (fun W => by first | rfl | go_simp) ?_
            simp only [Act.put, List.setIfInBounds_toArray, List.set_cons_zero, List.set_cons_succ]
            refine wpLate_take0 (i := 8) (oi := _) (v := .int .i64 er) (d := some 26) rfl rfl (by kernel_rfl) (by kernel_rfl) (by kernel_rfl) (fun _ _ _ h => h) rfl (fun W => by first | rfl | go_simp) ?_
            simp only [Act.put, List.setIfInBounds_toArray, List.set_cons_zero, List.set_cons_succ]
            refine wpLate_one (i := 9) (by kernel_rfl) rfl rfl (fun K hK => ?_)
            refine oper_ran (v := .pointer (some ⟨U2.heap.size, 0, none⟩)) (w' := U2.alloc (.cells #[.int .u32 0, .int .i64 0, .string (bs [])] 33)) (by go_simp) ?_
            show K (Act.put _ (some 12) _) _
            have s3 := s2.alloc s2.size (.cells #[.int .u32 0, .int .i64 0, .string (bs [])] 33)
            have bz := Blk.new U2 33 #[.int .u32 0, .int .i64 0, .string (bs [])]
            have gz0 : wr.heap.size ≤ U2.heap.size := s2.size
            refine hK _ _ (fun _ _ => s3) ?_
            generalize U2.alloc (.cells #[.int .u32 0, .int .i64 0, .string (bs [])] 33) = U3 at s3 bz ⊢
            generalize U2.heap.size = gz at bz gz0 ⊢
            simp only [Act.put, List.setIfInBounds_toArray, List.set_cons_zero, List.set_cons_succ]
            refine wpLate_one (i := 10) (by kernel_rfl) rfl rfl (fun K hK => ?_)
            refine oper_skip (w' := ((U3.setCell ⟨gz, 0, none⟩ (.int .u32 id)).setCell ⟨gz, 1, none⟩ (.int .i64 l1)).setCell ⟨gz, 2, none⟩ (.string (bs name))) (by have k0 := blk3 bz; have f0 := bz.frozen; have c1 := bz.set 0 (.int .u32 id); have f1 := c1.frozen; have k1 := blk3 c1; have c2 := c1.set 1 (.int .i64 l1); have f2 := c2.frozen; have k2 := blk3 c2; go_simp) ?_
            show K (Act.put _ none _) _
            have bz3 := blk_set3 bz (.int .u32 id) (.int .i64 l1) (.string (bs name))
            have bw := below_set3 s3 gz0 (.int .u32 id) (.int .i64 l1) (.string (bs name))
            refine hK _ _ (fun _ _ => bw) ?_
            try simp only [Act.put, List.setIfInBounds_toArray, List.set_cons_zero, List.set_cons_succ]
            refine wpLate_take0 (i := 11) (oi := _) (v := .int .i64 er) (d := some 13) rfl rfl (by kernel_rfl) (by kernel_rfl) (by kernel_rfl) (fun _ _ _ h => h) rfl (fun W => by first | rfl | go_simp) ?_
            simp only [Act.put, List.setIfInBounds_toArray, List.set_cons_zero, List.set_cons_succ]
            refine wpLate_done (by kernel_rfl) ?_ _
            go_wp2_with fail
            go_meet
            exact ⟨gz, rfl, rfl, gz0, bz3, bw⟩
          · skip
            refine oper_ran (v := .pointer (some ⟨U1.heap.size, 0, none⟩)) (w' := U1.alloc (.cells #[.int .u32 0, .int .i64 0, .string (bs [])] 33)) (by go_simp) ?_
            show K (Act.put _ (some 12) _) _
            have s2 := s1.alloc s1.size (.cells #[.int .u32 0, .int .i64 0, .string (bs [])] 33)
            have bz := Blk.new U1 33 #[.int .u32 0, .int .i64 0, .string (bs [])]
            have gz0 : wr.heap.size ≤ U1.heap.size := s1.size
            refine hK _ _ (fun _ _ => s2) ?_
            generalize U1.alloc (.cells #[.int .u32 0, .int .i64 0, .string (bs [])] 33) = U2 at s2 bz ⊢
            generalize U1.heap.size = gz at bz gz0 ⊢
            simp only [Act.put, List.setIfInBounds_toArray, List.set_cons_zero, List.set_cons_succ]
            refine wpLate_one (i := 5) (by kernel_rfl) rfl rfl (fun K hK => ?_)
            refine oper_enter' (f := 113) (args := #[dval D ⟨A1, a1⟩ ⟨A2, a2⟩, pval L ⟨B1, b1⟩ ⟨B2, b2⟩, PL]) (w' := U2) (by go_simp) ((hget U2 s2).mono ?_)
            rintro e U3 ⟨rfl, hb2⟩
            refine ⟨_, rfl, ?_⟩
            show K (Act.put _ (some 24) _) _
            have s3 := bt s2 hb2
            replace bz := bz.below hb2 bz.lt
            refine hK _ _ (fun _ _ => s3) ?_
            simp only [Act.put, List.setIfInBounds_toArray, List.set_cons_zero, List.set_cons_succ]
            refine wpLate_take0 (i := 6) (oi := _) (v := .tuple #[.agg #[.int .u32 id, .int .i64 l1, .string (bs name)], .int .i64 er]) (d := some 18) rfl rfl (by kernel_rfl) (by kernel_rfl) (by kernel_rfl) (fun _ _ _ h => h) rfl (fun W => by first | rfl | go_simp) ?_
            simp only [Act.put, List.setIfInBounds_toArray, List.set_cons_zero, List.set_cons_succ]
            refine wpLate_take0 (i := 7) (oi := _) (v := .agg #[.int .u32 id, .int .i64 l1, .string (bs name)]) (d := some 25) rfl rfl (by kernel_rfl) (by kernel_rfl) (by kernel_rfl) (fun _ _ _ h => h) rfl (fun W => by first | rfl | go_simp) ?_
            simp only [Act.put, List.setIfInBounds_toArray, List.set_cons_zero, List.set_cons_succ]
            refine wpLate_take0 (i := 8) (oi := _) (v := .int .i64 er) (d := some 26) rfl rfl (by kernel_rfl) (by kernel_rfl) (by kernel_rfl) (fun _ _ _ h => h) rfl (fun W => by first | rfl | go_simp) ?_
            simp only [Act.put, List.setIfInBounds_toArray, List.set_cons_zero, List.set_cons_succ]
            refine wpLate_one (i := 10) (by kernel_rfl) rfl rfl (fun K hK => ?_)
            refine oper_skip (w' := ((U3.setCell ⟨gz, 0, none⟩ (.int .u32 id)).setCell ⟨gz, 1, none⟩ (.int .i64 l1)).setCell ⟨gz, 2, none⟩ (.string (bs name))) (by have k0 := blk3 bz; have f0 := bz.frozen; have c1 := bz.set 0 (.int .u32 id); have f1 := c1.frozen; have k1 := blk3 c1; have c2 := c1.set 1 (.int .i64 l1); have f2 := c2.frozen; have k2 := blk3 c2; go_simp) ?_
            show K (Act.put _ none _) _
            have bz3 := blk_set3 bz (.int .u32 id) (.int .i64 l1) (.string (bs name))
            have bw := below_set3 s3 gz0 (.int .u32 id) (.int .i64 l1) (.string (bs name))
            refine hK _ _ (fun _ _ => bw) ?_
            try simp only [Act.put, List.setIfInBounds_toArray, List.set_cons_zero, List.set_cons_succ]
            refine wpLate_take0 (i := 11) (oi := _) (v := .int .i64 er) (d := some 13) rfl rfl (by kernel_rfl) (by kernel_rfl) (by kernel_rfl) (fun _ _ _ h => h) rfl (fun W => by first | rfl | go_simp) ?_
            simp only [Act.put, List.setIfInBounds_toArray, List.set_cons_zero, List.set_cons_succ]
            refine wpLate_done (by kernel_rfl) ?_ _
            go_wp2_with fail
            go_meet
            exact ⟨gz, rfl, rfl, gz0, bz3, bw⟩
        · skip
          refine oper_ran (v := .pointer (some ⟨U0.heap.size, 0, none⟩)) (w' := U0.alloc (.cells #[.int .u32 0, .int .i64 0, .string (bs [])] 33)) (by go_simp) ?_
          show K (Act.put _ (some 12) _) _
          have s1 := s0.alloc s0.size (.cells #[.int .u32 0, .int .i64 0, .string (bs [])] 33)
          have bz := Blk.new U0 33 #[.int .u32 0, .int .i64 0, .string (bs [])]
          have gz0 : wr.heap.size ≤ U0.heap.size := s0.size
          refine hK _ _ (fun _ _ => s1) ?_
          generalize U0.alloc (.cells #[.int .u32 0, .int .i64 0, .string (bs [])] 33) = U1 at s1 bz ⊢
          generalize U0.heap.size = gz at bz gz0 ⊢
          simp only [Act.put, List.setIfInBounds_toArray, List.set_cons_zero, List.set_cons_succ]
          refine wpLate_one (i := 4) (by kernel_rfl) rfl rfl (fun K hK => ?_)
          refine oper_enter' (f := 50) (args := #[.int .i64 (m : Int)]) (w' := U1) (by go_simp) ((hat U1).mono ?_)
          rintro e U2 ⟨rfl, hb1⟩
          refine ⟨_, rfl, ?_⟩
          show K (Act.put _ (some 23) _) _
          have s2 := bt s1 hb1
          replace bz := bz.below hb1 bz.lt
          refine hK _ _ (fun _ _ => s2) ?_
          simp only [Act.put, List.setIfInBounds_toArray, List.set_cons_zero, List.set_cons_succ]
          refine wpLate_one (i := 5) (by kernel_rfl) rfl rfl (fun K hK => ?_)
          refine oper_enter' (f := 113) (args := #[dval D ⟨A1, a1⟩ ⟨A2, a2⟩, pval L ⟨B1, b1⟩ ⟨B2, b2⟩, PL]) (w' := U2) (by go_simp) ((hget U2 s2).mono ?_)
          rintro e U3 ⟨rfl, hb2⟩
          refine ⟨_, rfl, ?_⟩
          show K (Act.put _ (some 24) _) _
          have s3 := bt s2 hb2
          replace bz := bz.below hb2 bz.lt
          refine hK _ _ (fun _ _ => s3) ?_
          simp only [Act.put, List.setIfInBounds_toArray, List.set_cons_zero, List.set_cons_succ]
          refine wpLate_take0 (i := 6) (oi := _) (v := .tuple #[.agg #[.int .u32 id, .int .i64 l1, .string (bs name)], .int .i64 er]) (d := some 18) rfl rfl (by kernel_rfl) (by kernel_rfl) (by kernel_rfl) (fun _ _ _ h => h) rfl (fun W => by first | rfl | go_simp) ?_
          simp only [Act.put, List.setIfInBounds_toArray, List.set_cons_zero, List.set_cons_succ]
          refine wpLate_take0 (i := 7) (oi := _) (v := .agg #[.int .u32 id, .int .i64 l1, .string (bs name)]) (d := some 25) rfl rfl (by kernel_rfl) (by kernel_rfl) (by kernel_rfl) (fun _ _ _ h => h) rfl (fun W => by first | rfl | go_simp) ?_
          simp only [Act.put, List.setIfInBounds_toArray, List.set_cons_zero, List.set_cons_succ]
          refine wpLate_take0 (i := 8) (oi := _) (v := .int .i64 er) (d := some 26) rfl rfl (by kernel_rfl) (by kernel_rfl) (by kernel_rfl) (fun _ _ _ h => h) rfl (fun W => by first | rfl | go_simp) ?_
          simp only [Act.put, List.setIfInBounds_toArray, List.set_cons_zero, List.set_cons_succ]
          refine wpLate_one (i := 10) (by kernel_rfl) rfl rfl (fun K hK => ?_)
          refine oper_skip (w' := ((U3.setCell ⟨gz, 0, none⟩ (.int .u32 id)).setCell ⟨gz, 1, none⟩ (.int .i64 l1)).setCell ⟨gz, 2, none⟩ (.string (bs name))) (by have k0 := blk3 bz; have f0 := bz.frozen; have c1 := bz.set 0 (.int .u32 id); have f1 := c1.frozen; have k1 := blk3 c1; have c2 := c1.set 1 (.int .i64 l1); have f2 := c2.frozen; have k2 := blk3 c2; go_simp) ?_
          show K (Act.put _ none _) _
          have bz3 := blk_set3 bz (.int .u32 id) (.int .i64 l1) (.string (bs name))
          have bw := below_set3 s3 gz0 (.int .u32 id) (.int .i64 l1) (.string (bs name))
          refine hK _ _ (fun _ _ => bw) ?_
          try simp only [Act.put, List.setIfInBounds_toArray, List.set_cons_zero, List.set_cons_succ]
          refine wpLate_take0 (i := 11) (oi := _) (v := .int .i64 er) (d := some 13) rfl rfl (by kernel_rfl) (by kernel_rfl) (by kernel_rfl) (fun _ _ _ h => h) rfl (fun W => by first | rfl | go_simp) ?_
          simp only [Act.put, List.setIfInBounds_toArray, List.set_cons_zero, List.set_cons_succ]
          refine wpLate_done (by kernel_rfl) ?_ _
          go_wp2_with fail
          go_meet
          exact ⟨gz, rfl, rfl, gz0, bz3, bw⟩
      case rest =>
        obtain ⟨g, rfl, rfl, hgw, bz, hbz⟩ := hcut
        have bzk := blk3 bz
        have hgl := bz.lt
        have sV := hb.size
        have bw := bt hbw hbz
        by_cases he : er = 0
        · subst he
          have n0 : ((0 : Int) != 0) = false := rfl
          have o2 := own_below hown hbz
          have b3 := hb.trans (hbz.mono hb.size)
          have l2 := b3.size
          go_wp2_with (at_builtin; refine wpList_append_own _ rfl _ _ 56 rfl V.heap.size 33 i0 (.agg #[.int .u32 0, .int .i64 0, .string (bs [])]) 3 32 Tryz.underlying56 hi hz0 hz1 hz2 rfl (by decide) _ _ _ rfl (o2.alloc _) ⟨wc.heap.size, 0, none⟩ 1 1 [.int .u32 id, .int .i64 l1, .string (bs name)] rfl rfl (World.news_of_block (Blk.new wc 33 #[.int .u32 id, .int .i64 l1, .string (bs name)])) (by simp [Value.oneCell']) (by unfold maxLen; omega) (by omega) (by simp; omega) ?_; intro v5 w5 h5 gr5 _)
          have b5 := (b3.alloc b3.size (.cells #[.int .u32 id, .int .i64 l1, .string (bs name)] 33)).trans (grown_below (o2.alloc (.cells #[.int .u32 id, .int .i64 l1, .string (bs name)] 33)) gr5 (by simp; omega))
          go_roundw
          case rel => exact ⟨m + 1, by omega, by go_num, hid (Hok2.out (by first | rfl | trivial)).1, by rw [← (Hok2.out (by first | rfl | trivial)).2]; exact h5, b5⟩
          case measure => simp [intOf]; omega
        · have n1 : (er != 0) = true := bne_iff_ne.2 he
          have Hst2 := hid (Hst.out he)
          clear he
          go_wp2_with fail
          go_ret2
          rw [Hst2.out]
          exact ⟨⟨_, rfl, World.ownsRow_nil _ _ _ _⟩, bw⟩
    · obtain rfl : m = 8 := by omega
      have Hr := hid (allN_list hok.out)
      clear hok
      go_wp2_with fail
      go_ret2
      rw [Hall.out, Hr.out]
      refine ⟨⟨_, rfl, ?_⟩, hbw⟩
      simp only [List.length_map, List.length_range]
      exact own_base hown hB.size
theorem rt_snaps (D : Dk) (L : Pn) (p q p' q' : Pl) (w : World) (hD : IsDk w D p q) (hL : IsPn w L p' q') (hf : D.fit = true) (hfl : L.Fit) :
    Calls Tryz.prog 25 #[dval D p q, pval L p' q'] w fun e w' => (∃ v, e = .returned (.tuple #[v, .int .i64 (Pn.snaps D L).2]) ∧ w'.ownsRow w.heap.size 33 3 v (Pn.snaps D L).1.length (snCells (Pn.snaps D L).1)) ∧ Below w.heap.size w w' := by
  have hall := fun (W : World) (hb : Below w.heap.size w W) => rt_allSn D L p q p' q' W (hD.below hb) (hL.below hb) hf hfl
  clear hD hL hf hfl
  obtain ⟨A1, a1⟩ := p
  obtain ⟨A2, a2⟩ := q
  obtain ⟨B1, b1⟩ := p'
  obtain ⟨B2, b2⟩ := q'
  have hB := Below.refl w.heap.size w
  have x := Blk.new w 25 #[.string (bs D.data), .slice A1 D.cache.length a1, .int .i64 D.fuse, .bool D.off, .slice A2 D.bad.length a2]
  have xk := blk5 x
  have hB_1 := hB.alloc hB.size (.cells #[.string (bs D.data), .slice A1 D.cache.length a1, .int .i64 D.fuse, .bool D.off, .slice A2 D.bad.length a2] 25)
  have z := Blk.new (w.alloc (.cells #[.string (bs D.data), .slice A1 D.cache.length a1, .int .i64 D.fuse, .bool D.off, .slice A2 D.bad.length a2] 25)) 28 #[.slice B1 L.targets.length b1, .slice B2 L.data.length b2]
  simp only [World.size_alloc] at z
  have zk := blk2 z
  have hB_2 := hB_1.alloc hB_1.size (.cells #[.slice B1 L.targets.length b1, .slice B2 L.data.length b2] 28)
  have x_3 := x.alloc (.cells #[.slice B1 L.targets.length b1, .slice B2 L.data.length b2] 28)
  have xk_3 := blk5 x_3
  go_enter Tryz.func25, Tryz.ntmps25
  go_wp2_with fail
  go_at_call 69
  refine ((hall _ hB_2)).mono ?_
  rintro e w1 ⟨⟨v, rfl, hown⟩, hb1⟩
  replace hB := bt hB_2 hb1
  replace x := x_3.below hb1 x_3.lt
  replace xk := blk5 x
  replace z := z.below hb1 z.lt
  replace zk := blk2 z
  clear hB_1 hB_2 xk_3 x_3
  go_wp2_with fail
  go_ret2
  exact ⟨⟨_, rfl, own_base hown (by simp; omega)⟩, hB⟩
end Go.Proofs.YtjhnaeomaigimaaGreatDoor
