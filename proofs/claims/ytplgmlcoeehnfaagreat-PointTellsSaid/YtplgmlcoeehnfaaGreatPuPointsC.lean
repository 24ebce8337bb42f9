/- Package point: Reach. Package point: Share. -/
import Derived.Test.YtplgmlcoeehnfaaGreatPuPoint8
set_option linter.unusedVariables false
namespace Go.Proofs.YtplgmlcoeehnfaaGreat
open Go.RowKit Go.Shelf
attribute [local go_sem] bs_mk bs_append bs_extract bs_size bs_toList bs_get Oper.semAt_some
theorem intCells_snoc (l : List Int) (x : Int) : intCells l ++ [Value.int .i64 x] = intCells (l ++ [x]) := by simp [intCells]
theorem pt_reached (n G : Nat) (k : Int) (w : World) : CallsIn Fence.wide (n + 1) Tryz.prog 73 #[.pointer (some ⟨G, 0, none⟩), .int .i64 k] w fun e w' => e = .returned (.func (.func 129) #[] #[.pointer (some ⟨w.heap.size, 0, none⟩), .pointer (some ⟨w.heap.size + 1, 0, none⟩)]) ∧ w' = (w.alloc (.cells #[.pointer (some ⟨G, 0, none⟩)] 118)).alloc (.cells #[.int .i64 k] 3) := by
  refine callsIn_wide.2 ?_
  go_enter Tryz.func73, Tryz.ntmps73
  go_wp2_with fail
  go_ret
  exact ⟨rfl, rfl⟩
set_option maxRecDepth 100000 in
set_option maxHeartbeats 2000000 in
theorem p_reach (D : Dk) (L : Pn) (p q p' q' : Pl) (w : World) (hD : IsDk w D p q) (hL : IsPn w L p' q') (hf : D.fit = true) (hfl : L.Fit) (l1 : Int) :
    Calls Tryz.prog 25 #[dval D p q, pval L p' q', .int .i64 l1] w fun e w' => (∃ v, e = .returned (.tuple #[v, .int .i64 (Pn.ptReach D L l1).2]) ∧ w'.ownsRow w.heap.size 3 1 v (Pn.ptReach D L l1).1.length (intCells (Pn.ptReach D L l1).1)) ∧ Below w.heap.size w w' := by
  obtain ⟨i1, hi1, hy0, hy1, hy2⟩ := info_parts Tryz.infoIntP
  have n1 : 1 ≤ 6 := by omega
  have hsmall := Pn.reachN_small (D := D) (L := L) l1 4
  have HD := hid hD
  have HL := hid hL
  obtain ⟨A1, a1⟩ := p
  obtain ⟨A2, a2⟩ := q
  obtain ⟨B1, b1⟩ := p'
  obtain ⟨B2, b2⟩ := q'
  clear hD hL
  refine (callsIn_wide (n := 6)).1 (callsIn_of_wp_marks Tryz.func25 rfl trivial (wpIn_wide.2 ?_) rfl)
  simp only [Tryz.ntmps25, List.size_toArray, List.length_cons, List.length_nil, Nat.reduceAdd, Nat.reduceSub, Array.replicate_succ, Array.replicate_zero, List.push_toArray, List.append_toArray, List.nil_append, List.cons_append]
  have hB := Below.refl w.heap.size w
  have x := Blk.new w 25 #[.string (bs D.data), .slice A1 D.cache.length a1, .int .i64 D.fuse, .bool D.off, .slice A2 D.bad.length a2]
  have xk := blk5 x
  have hB_1 := hB.alloc hB.size (.cells #[.string (bs D.data), .slice A1 D.cache.length a1, .int .i64 D.fuse, .bool D.off, .slice A2 D.bad.length a2] 25)
  have z := Blk.new (w.alloc (.cells #[.string (bs D.data), .slice A1 D.cache.length a1, .int .i64 D.fuse, .bool D.off, .slice A2 D.bad.length a2] 25)) 28 #[.slice B1 L.targets.length b1, .slice B2 L.data.length b2]
  simp only [World.size_alloc] at z
  have zk := blk2 z
  have hB_2 := hB_1.alloc hB_1.size (.cells #[.slice B1 L.targets.length b1, .slice B2 L.data.length b2] 28)
  have x_3 := x.alloc (.cells #[.slice B1 L.targets.length b1, .slice B2 L.data.length b2] 28)
  have xk_3 := blk5 x_3
  have k := Blk.new ((w.alloc (.cells #[.string (bs D.data), .slice A1 D.cache.length a1, .int .i64 D.fuse, .bool D.off, .slice A2 D.bad.length a2] 25)).alloc (.cells #[.slice B1 L.targets.length b1, .slice B2 L.data.length b2] 28)) 120 #[.slice B1 L.targets.length b1, .slice B2 L.data.length b2, .int .i64 0, .int .i64 0, .string (bs D.data), .slice A1 D.cache.length a1, .int .i64 D.fuse, .bool D.off, .slice A2 D.bad.length a2, .int .i64 0]
  simp only [World.size_alloc] at k
  have kk := blk10 k
  have hB_4 := hB_2.alloc hB_2.size (.cells #[.slice B1 L.targets.length b1, .slice B2 L.data.length b2, .int .i64 0, .int .i64 0, .string (bs D.data), .slice A1 D.cache.length a1, .int .i64 D.fuse, .bool D.off, .slice A2 D.bad.length a2, .int .i64 0] 120)
  have x_5 := x_3.alloc (.cells #[.slice B1 L.targets.length b1, .slice B2 L.data.length b2, .int .i64 0, .int .i64 0, .string (bs D.data), .slice A1 D.cache.length a1, .int .i64 D.fuse, .bool D.off, .slice A2 D.bad.length a2, .int .i64 0] 120)
  have xk_5 := blk5 x_5
  have z_6 := z.alloc (.cells #[.slice B1 L.targets.length b1, .slice B2 L.data.length b2, .int .i64 0, .int .i64 0, .string (bs D.data), .slice A1 D.cache.length a1, .int .i64 D.fuse, .bool D.off, .slice A2 D.bad.length a2, .int .i64 0] 120)
  have zk_6 := blk2 z_6
  have bo := Blk.new (((w.alloc (.cells #[.string (bs D.data), .slice A1 D.cache.length a1, .int .i64 D.fuse, .bool D.off, .slice A2 D.bad.length a2] 25)).alloc (.cells #[.slice B1 L.targets.length b1, .slice B2 L.data.length b2] 28)).alloc (.cells #[.slice B1 L.targets.length b1, .slice B2 L.data.length b2, .int .i64 0, .int .i64 0, .string (bs D.data), .slice A1 D.cache.length a1, .int .i64 D.fuse, .bool D.off, .slice A2 D.bad.length a2, .int .i64 0] 120)) 23 #[.slice none 0 0]
  simp only [World.size_alloc] at bo
  have bok := blk1 bo
  have hB_7 := hB_4.alloc hB_4.size (.cells #[.slice none 0 0] 23)
  have x_8 := x_5.alloc (.cells #[.slice none 0 0] 23)
  have xk_8 := blk5 x_8
  have z_9 := z_6.alloc (.cells #[.slice none 0 0] 23)
  have zk_9 := blk2 z_9
  have k_10 := k.alloc (.cells #[.slice none 0 0] 23)
  have kk_10 := blk10 k_10
  go_wp2_with fail
  go_at_call 73
  refine (callsIn_wide.1 (pt_reached 5 _ _ _)).mono ?_
  rintro e W3 ⟨rfl, rfl⟩
  have c1 := Blk.new ((((w.alloc (.cells #[.string (bs D.data), .slice A1 D.cache.length a1, .int .i64 D.fuse, .bool D.off, .slice A2 D.bad.length a2] 25)).alloc (.cells #[.slice B1 L.targets.length b1, .slice B2 L.data.length b2] 28)).alloc (.cells #[.slice B1 L.targets.length b1, .slice B2 L.data.length b2, .int .i64 0, .int .i64 0, .string (bs D.data), .slice A1 D.cache.length a1, .int .i64 D.fuse, .bool D.off, .slice A2 D.bad.length a2, .int .i64 0] 120)).alloc (.cells #[.slice none 0 0] 23)) 118 #[.pointer (some ⟨w.heap.size + 1 + 1, 0, none⟩)]
  simp only [World.size_alloc] at c1
  have c1k := blk1 c1
  have hB_11 := hB_7.alloc hB_7.size (.cells #[.pointer (some ⟨w.heap.size + 1 + 1, 0, none⟩)] 118)
  have x_12 := x_8.alloc (.cells #[.pointer (some ⟨w.heap.size + 1 + 1, 0, none⟩)] 118)
  have xk_12 := blk5 x_12
  have z_13 := z_9.alloc (.cells #[.pointer (some ⟨w.heap.size + 1 + 1, 0, none⟩)] 118)
  have zk_13 := blk2 z_13
  have k_14 := k_10.alloc (.cells #[.pointer (some ⟨w.heap.size + 1 + 1, 0, none⟩)] 118)
  have kk_14 := blk10 k_14
  have bo_15 := bo.alloc (.cells #[.pointer (some ⟨w.heap.size + 1 + 1, 0, none⟩)] 118)
  have bok_15 := blk1 bo_15
  have c2 := Blk.new (((((w.alloc (.cells #[.string (bs D.data), .slice A1 D.cache.length a1, .int .i64 D.fuse, .bool D.off, .slice A2 D.bad.length a2] 25)).alloc (.cells #[.slice B1 L.targets.length b1, .slice B2 L.data.length b2] 28)).alloc (.cells #[.slice B1 L.targets.length b1, .slice B2 L.data.length b2, .int .i64 0, .int .i64 0, .string (bs D.data), .slice A1 D.cache.length a1, .int .i64 D.fuse, .bool D.off, .slice A2 D.bad.length a2, .int .i64 0] 120)).alloc (.cells #[.slice none 0 0] 23)).alloc (.cells #[.pointer (some ⟨w.heap.size + 1 + 1, 0, none⟩)] 118)) 3 #[.int .i64 l1]
  simp only [World.size_alloc] at c2
  have c2k := blk1 c2
  have hB_16 := hB_11.alloc hB_11.size (.cells #[.int .i64 l1] 3)
  have x_17 := x_12.alloc (.cells #[.int .i64 l1] 3)
  have xk_17 := blk5 x_17
  have z_18 := z_13.alloc (.cells #[.int .i64 l1] 3)
  have zk_18 := blk2 z_18
  have k_19 := k_14.alloc (.cells #[.int .i64 l1] 3)
  have kk_19 := blk10 k_19
  have bo_20 := bo_15.alloc (.cells #[.int .i64 l1] 3)
  have bok_20 := blk1 bo_20
  have c1_21 := c1.alloc (.cells #[.int .i64 l1] 3)
  have c1k_21 := blk1 c1_21
  go_wp2_with fail
  generalize ((((((w.alloc (.cells #[.string (bs D.data), .slice A1 D.cache.length a1, .int .i64 D.fuse, .bool D.off, .slice A2 D.bad.length a2] 25)).alloc (.cells #[.slice B1 L.targets.length b1, .slice B2 L.data.length b2] 28)).alloc (.cells #[.slice B1 L.targets.length b1, .slice B2 L.data.length b2, .int .i64 0, .int .i64 0, .string (bs D.data), .slice A1 D.cache.length a1, .int .i64 D.fuse, .bool D.off, .slice A2 D.bad.length a2, .int .i64 0] 120)).alloc (.cells #[.slice none 0 0] 23)).alloc (.cells #[.pointer (some ⟨w.heap.size + 1 + 1, 0, none⟩)] 118)).alloc (.cells #[.int .i64 l1] 3)) = V at hB_16 x_17 xk_17 z_18 zk_18 k_19 kk_19 bo_20 bok_20 c1_21 c1k_21 c2 c2k ⊢
  clear hB_1 hB_2 xk_3 x_3 hB_4 xk_5 x_5 zk_6 z_6 hB_7 xk_8 x_8 zk_9 z_9 kk_10 k_10 hB_11 xk_12 x_12 zk_13 z_13 kk_14 k_14 bok_15 bo_15 hB x z k bo c1 xk zk kk bok c1k
  have hB := hB_16
  have x := x_17
  have xk := xk_17
  have z := z_18
  have zk := zk_18
  have k := k_19
  have kk := kk_19
  have bo := bo_20
  have bok := bok_20
  have c1 := c1_21
  have c1k := c1k_21
  clear hB_16 x_17 xk_17 z_18 zk_18 k_19 kk_19 bo_20 bok_20 c1_21 c1k_21
  have c2l := c2.lt
  have hsV := hB.size
  have HBV := hid hB
  have hsz0 : w.heap.size + 1 + 1 + 1 + 1 + 1 < V.heap.size := c2l
  have hks : ∀ g ∈ [w.heap.size + 1 + 1 + 1 + 1, w.heap.size + 1 + 1 + 1 + 1 + 1, w.heap.size + 1 + 1], g < V.heap.size ∧ g ≠ w.heap.size + 1 + 1 + 1 := fun g hg => by
    simp only [List.mem_cons, List.not_mem_nil, or_false] at hg
    rcases hg with rfl | rfl | rfl <;> omega
  refine (wpIn_wide (n := 6)).1 ?_
  refine range_g (cn := 0) (G := w.heap.size + 1 + 1) rfl n1 (gf := 129) (lb := #[.pointer (some ⟨w.heap.size + 1 + 1 + 1 + 1, 0, none⟩), .pointer (some ⟨w.heap.size + 1 + 1 + 1 + 1 + 1, 0, none⟩)]) rfl trivial (enters_of Tryz.func129 (by kernel_rfl) rfl)
    (reached_stops 5 (by omega) D ⟨A1, a1⟩ ⟨A2, a2⟩ 0 0 L ⟨B1, b1⟩ ⟨B2, b2⟩ l1 (w.heap.size + 1 + 1) (w.heap.size + 1 + 1 + 1 + 1) (w.heap.size + 1 + 1 + 1 + 1 + 1) _ _ w V HD.out HL.out hf hfl hB (by omega) k c1 c2 (by omega) (by omega))
    KeepE.trans
    (fun W l o o' q1 q2 q3 q4 => ⟨KeepB.putObj o' (Nat.le_trans hsV q1) (fun g hg => by have := hks g hg; omega), fun b cs hb => (World.putObj_heap_other (fun e => by subst e; rw [show W.heap[b]? = _ from hb] at q2; cases q2; cases q3)).trans hb⟩) (Below.refl _ _) (fun _ => rfl)
    (fun pre W => (∃ v, Boxed W (w.heap.size + 1 + 1 + 1) 23 v ∧ W.ownsRow V.heap.size 3 1 v pre.length (intCells pre) ∧ True) ∧ Below w.heap.size w W ∧ V.heap.size ≤ W.heap.size)
    (fun c pre W => False)
    ?hI ?hIx ?h0 (by omega) ?hIG ?hIxG ?hSO
    (fun x a' W => a' = (⟨#[dval D ⟨A1, a1⟩ ⟨A2, a2⟩, pval L ⟨B1, b1⟩ ⟨B2, b2⟩, .int .i64 l1, .pointer (some ⟨w.heap.size, 0, none⟩), .pointer (some ⟨w.heap.size + 1, 0, none⟩), undef, .slice none 0 0, .int .i64 0, .pointer (some ⟨w.heap.size + 1 + 1, 0, none⟩),
      .pointer (some ⟨w.heap.size + 1 + 1 + 1, 0, none⟩), .int .i64 x, .agg #[.slice B1 L.targets.length b1, .slice B2 L.data.length b2], .agg #[.string (bs D.data), .slice A1 D.cache.length a1, .int .i64 D.fuse, .bool D.off, .slice A2 D.bad.length a2],
      .agg #[.slice B1 L.targets.length b1, .slice B2 L.data.length b2, .int .i64 0, .int .i64 0, .string (bs D.data), .slice A1 D.cache.length a1, .int .i64 D.fuse, .bool D.off, .slice A2 D.bad.length a2, .int .i64 0],
      .pointer (some ⟨w.heap.size + 1 + 1, 0, none⟩), .pointer (some ⟨w.heap.size + 1 + 1, 0, none⟩), .int .i64 l1,
      .func (.func 129) #[] #[.pointer (some ⟨w.heap.size + 1 + 1 + 1 + 1, 0, none⟩), .pointer (some ⟨w.heap.size + 1 + 1 + 1 + 1 + 1, 0, none⟩)],
      .int .i64 x, undef, undef, undef, undef, undef, undef, undef, undef, undef, undef, undef, undef, undef, undef], []⟩ : Act))
    ?hAx ?assign ?body ?done ?stop
  case hI =>
    rintro pre X Y row ⟨h1, h2, h3⟩ hy hr
    exact ⟨(Own.from (holdsRow_own V.heap.size (w.heap.size + 1 + 1 + 1) 23 3 1 (fun pre : List Int => pre.length) (fun pre => intCells pre) (fun _ _ => True)) V.heap.size) pre X Y row h1 hy hr, h2.trans ⟨hy.os, hy.tape, hy.output, hy.size, fun j hj => hy.block j (by omega) (fun e => by have := (hr j e.symm).1; omega)⟩, Nat.le_trans h3 hy.size⟩
  case hIx =>
    rintro c pre X Y row h1 hy hr
    exact h1
  case h0 => exact ⟨⟨_, bo, World.ownsRow_nil _ _ _ _, trivial⟩, hB, Nat.le_refl _⟩
  case hIG =>
    rintro pre X Y ⟨⟨v, hv, ho, _⟩, h2, h3⟩ hy
    refine ⟨⟨v, (hy.block _ (by omega) (by intro e; injection e with e; omega)).trans hv, ho.kept hy ?_, trivial⟩, h2.trans (grown_belowG hy (by omega) (by omega)), Nat.le_trans h3 hy.size⟩
    rcases ho.2 with ⟨rfl, _⟩ | ⟨g, cap, cur, rfl, hgB, _, _⟩
    · exact .inl rfl
    · right
      intro hh
      injection hh with hh
      have hh : g = w.heap.size + 1 + 1 := hh
      omega
  case hIxG =>
    rintro c pre X Y h1 hy
    exact h1
  case hSO =>
    rintro xs X Y row ⟨e, h1, h2, h3⟩ hy hr
    exact ⟨e, (Own.from (blk_own _ _ (fun _ : Unit => _)) V.heap.size) () X Y row h1 hy hr, h2, h3⟩
  case hAx =>
    rintro x a' s X Y row h hy hr
    exact h
  case assign =>
    rintro l pre x W K' hI hK
    dsimp only [kEnc]
    gi_wp2_with fail
    exact hK _ _ (KeepsFrom.refl _ _) (StaysC.refl _ _ _) ⟨KeepB.refl _ _ _, fun _ _ h => h⟩ hI rfl
  case body =>
    rintro l pre y a' W ⟨⟨v, hv, ho, _⟩, hbw, hsw⟩ rfl hpl hsz
    have kv := hv.cell
    have fv := hv.frozen
    have hbnd : pre.length < 68 := hpl
    gi_wp2_with (gi_at_builtin; refine wpListIn_append_own _ rfl _ _ 23 rfl V.heap.size 3 i1 (.int .i64 0) 1 8 Tryz.underlying23 hi1 hy0 hy1 hy2 rfl (by decide) _ _ _ rfl (ho.alloc _) ⟨W.heap.size, 0, none⟩ 1 1 [.int .i64 y] rfl rfl (World.news_of_block (Blk.new W 3 #[.int .i64 y])) (by simp [Value.oneCell']) (by unfold maxLen; omega) (by omega) (by simp; omega) ?_; intro v' w1 hown' hgrow _; obtain ⟨g', cap', rfl⟩ := ownsRow_succ hown'; obtain ⟨q1, q2, q3, q4, q5, q6⟩ := appended_at hv (by decide) ho hsw hown' hgrow; have kl1 := blk1 q1; have fl1 := q1.frozen 0)
    have hkE : KeepE w.heap.size [w.heap.size + 1 + 1 + 1 + 1, w.heap.size + 1 + 1 + 1 + 1 + 1, w.heap.size + 1 + 1] W (w1.setCell ⟨w.heap.size + 1 + 1 + 1, 0, none⟩ (.slice (some ⟨g', 0, none⟩) (pre.length + 1) cap')) :=
      ⟨⟨q5 _ (by omega) (by omega), fun g hg => q6 g (hks g hg).1 (hks g hg).2⟩, fun b cs hb => ((hb.alloc (.cells #[.int .i64 y] 3)).kept hgrow (own_box (ho.alloc (.cells #[.int .i64 y] 3)) (hb.alloc _) (by decide))).other (a := ⟨w.heap.size + 1 + 1 + 1, 0, none⟩) (fun e => by
        have e' : b = w.heap.size + 1 + 1 + 1 := e
        subst e'
        have h9 := (show W.heap[w.heap.size + 1 + 1 + 1]? = _ from hv).symm.trans hb
        injection h9 with h9
        injection h9 with _ h9
        exact absurd h9 (by decide)) _⟩
    refine ⟨q4.from _, ⟨StaysC.zero q4.size, hkE⟩, ⟨_, q2, ?_, trivial⟩, hbw.trans (q5 _ (by omega) (by omega)), Nat.le_trans hsw q4.size⟩
    rw [List.length_append, List.length_singleton, ← intCells_snoc]
    exact q3
  case done =>
    rintro Dd ys U hDd ⟨e, hbk, he, hok⟩ ⟨⟨v, hv, ho, _⟩, hbw, hsw⟩ hK
    obtain ⟨Al, cl, rfl, _⟩ := own_slice ho
    have kv := hv.cell
    have kz := blk10 hbk
    by_cases h0 : e = 0
    · have HR := hid (show Pn.ptReach D L l1 = (ys, 0) by rw [Pn.ptReach, he, if_neg (by rw [h0]; simp), hok h0])
      subst h0
      clear he hok
      go_wp2_with fail
      refine ⟨by simp, .inl ⟨_, _, rfl, run_takeDeferred hK, ?_⟩⟩
      refine ⟨.tuple #[.slice Al ys.length cl, .int .i64 0], by simp [results, Tryz.results25, go_sem], ?_⟩
      rw [HR.out]
      exact ⟨⟨_, rfl, own_base (ownsRow_putObj ho (.deferred none) hK rfl) hsV⟩, hbw.trans (belowK_b (w := w) (Nat.le_refl _) U Dd _ _ (by omega) hK rfl rfl)⟩
    · have HR := hid (show Pn.ptReach D L l1 = ([], e) by rw [Pn.ptReach, he, if_pos h0])
      have n1 : (e != 0) = true := by simpa using h0
      clear he hok h0
      go_wp2_with fail
      go_region
      go_wp2_with fail
      refine ⟨by simp, .inl ⟨_, _, rfl, run_takeDeferred hK, ?_⟩⟩
      refine ⟨.tuple #[.slice none 0 0, .int .i64 e], by simp [results, Tryz.results25, go_sem], ?_⟩
      rw [HR.out]
      exact ⟨⟨_, rfl, World.ownsRow_nil _ _ _ _⟩, hbw.drew.trans (belowK_b (w := w) (Nat.le_refl _) U.drew Dd _ _ (by omega) hK rfl rfl)⟩
  case stop =>
    rintro Dd c pre U hDd hpre hf
    exact hf.elim
end Go.Proofs.YtplgmlcoeehnfaaGreat
set_option linter.unusedVariables false
namespace Go.Proofs.YtplgmlcoeehnfaaGreat
open Go.RowKit Go.Shelf
attribute [local go_sem] bs_mk bs_append bs_extract bs_size bs_toList bs_get
end Go.Proofs.YtplgmlcoeehnfaaGreat
