/- Package alloc: the first free cluster. -/
import Derived.Test.YtlajbmmhgflabaaAlloc3
import Derived.WalkMore
import Derived.BigQuiet
set_option linter.unusedVariables false
namespace Go.Proofs.Ytlajbmmhgflabaa
open Go.RowKit Go.Shelf
attribute [local go_sem] bs_mk bs_append bs_extract bs_size bs_toList bs_get Oper.semAt_some
theorem free_in (n : Nat) (D : Dk) (L : Pn) (p q p' q' : Pl) (g h : Int) (w : World) :
    CallsIn Fence.wide n Try.prog 78 #[dval D p q, pval L p' q', gval g h] w fun e w' => e = .returned (.func (.func 98) #[] #[.pointer (some ⟨w.heap.size + 1 + 1, 0, none⟩), .pointer (some ⟨w.heap.size + 1, 0, none⟩), .pointer (some ⟨w.heap.size, 0, none⟩)]) ∧
      w' = ((w.alloc (.cells #[.string (bs D.data), .slice p.a D.cache.length p.c, .int .i64 D.fuse, .bool D.off, .slice q.a D.bad.length q.c] 25)).alloc (.cells #[.slice p'.a L.targets.length p'.c, .slice q'.a L.data.length q'.c] 28)).alloc (.cells #[.int .i64 g, .int .i64 h] 67) := by
  refine callsIn_of_wp Try.func78 rfl trivial ?_ rfl
  simp only [Try.ntmps78, List.size_toArray, List.length_cons, List.length_nil, Nat.reduceAdd, Nat.reduceSub, Array.replicate_succ, Array.replicate_zero, List.push_toArray, List.append_toArray, List.nil_append, List.cons_append]
  gi_wp2
  go_ret
  exact ⟨rfl, rfl⟩
theorem stays_set {B : Nat} {X : World} (a : Addr) (v : Value) (h : a.block < B) : Stays B X (X.setCell a v) :=
  ⟨by simp, fun k hB _ => Below.heap_setCell _ _ _ _ (by omega)⟩
set_option maxRecDepth 100000 in
set_option maxHeartbeats 1000000 in
theorem al_find (D : Dk) (L : Pn) (p q p' q' : Pl) (w : World) (hD : IsDk w D p q) (hL : IsPn w L p' q') (hf : D.fit = true) (hfl : L.Fit) (g : Int) (h : Nat) (hh : h ≤ 256) :
    Calls Try.prog 40 #[dval D p q, pval L p' q', gval g h] w fun e w' => e = .returned (.tuple #[.int .i64 (Pn.alFind D L h).1, .int .i64 (Pn.alFind D L h).2]) ∧ Below w.heap.size w w' := by
  have n1 : 1 ≤ 6 := by omega
  have hDW := fun (W : World) (hb : Below w.heap.size w W) => (⟨hD.below hb, hL.below hb⟩ : IsDk W D p q ∧ IsPn W L p' q')
  clear hD hL
  obtain ⟨A1, a1⟩ := p
  obtain ⟨A2, a2⟩ := q
  obtain ⟨B1, b1⟩ := p'
  obtain ⟨B2, b2⟩ := q'
  refine (callsIn_wide (n := 6)).1 (callsIn_of_wp_marks Try.func40 rfl trivial (wpIn_wide.2 ?_) rfl)
  simp only [Try.ntmps40, List.size_toArray, List.length_cons, List.length_nil, Nat.reduceAdd, Nat.reduceSub, Array.replicate_succ, Array.replicate_zero, List.push_toArray, List.append_toArray, List.nil_append, List.cons_append]
  go_wp2_with fail
  go_step3
  go_wp2_with fail
  go_step3
  go_wp2_with (go_at_call 78; refine (callsIn_wide.1 (free_in 5 D L ⟨A1, a1⟩ ⟨A2, a2⟩ ⟨B1, b1⟩ ⟨B2, b2⟩ g h _)).mono ?_; rintro e w3 ⟨rfl, rfl⟩)
  have hB := Below.refl w.heap.size w
  have hB_1 := hB.alloc hB.size (.cells #[.string (bs D.data), .slice A1 D.cache.length a1, .int .i64 D.fuse, .bool D.off, .slice A2 D.bad.length a2] 25)
  have hB_2 := hB_1.alloc hB_1.size (.cells #[.slice B1 L.targets.length b1, .slice B2 L.data.length b2] 28)
  have hB_3 := hB_2.alloc hB_2.size (.cells #[.int .i64 g, .int .i64 h] 67)
  have r0 := Blk.new (((w.alloc (.cells #[.string (bs D.data), .slice A1 D.cache.length a1, .int .i64 D.fuse, .bool D.off, .slice A2 D.bad.length a2] 25)).alloc (.cells #[.slice B1 L.targets.length b1, .slice B2 L.data.length b2] 28)).alloc (.cells #[.int .i64 g, .int .i64 h] 67)) 3 #[.int .i64 0]
  simp only [World.size_alloc] at r0
  have r0k := blk1 r0
  have hB_4 := hB_3.alloc hB_3.size (.cells #[.int .i64 0] 3)
  have r1 := Blk.new ((((w.alloc (.cells #[.string (bs D.data), .slice A1 D.cache.length a1, .int .i64 D.fuse, .bool D.off, .slice A2 D.bad.length a2] 25)).alloc (.cells #[.slice B1 L.targets.length b1, .slice B2 L.data.length b2] 28)).alloc (.cells #[.int .i64 g, .int .i64 h] 67)).alloc (.cells #[.int .i64 0] 3)) 31 #[.int .i64 17]
  simp only [World.size_alloc] at r1
  have r1k := blk1 r1
  have hB_5 := hB_4.alloc hB_4.size (.cells #[.int .i64 17] 31)
  have r0_6 := r0.alloc (.cells #[.int .i64 17] 31)
  have r0k_6 := blk1 r0_6
  have bd := Blk.new (((((w.alloc (.cells #[.string (bs D.data), .slice A1 D.cache.length a1, .int .i64 D.fuse, .bool D.off, .slice A2 D.bad.length a2] 25)).alloc (.cells #[.slice B1 L.targets.length b1, .slice B2 L.data.length b2] 28)).alloc (.cells #[.int .i64 g, .int .i64 h] 67)).alloc (.cells #[.int .i64 0] 3)).alloc (.cells #[.int .i64 17] 31)) 25 #[.string (bs D.data), .slice A1 D.cache.length a1, .int .i64 D.fuse, .bool D.off, .slice A2 D.bad.length a2]
  simp only [World.size_alloc] at bd
  have bdk := blk5 bd
  have hB_7 := hB_5.alloc hB_5.size (.cells #[.string (bs D.data), .slice A1 D.cache.length a1, .int .i64 D.fuse, .bool D.off, .slice A2 D.bad.length a2] 25)
  have r0_8 := r0_6.alloc (.cells #[.string (bs D.data), .slice A1 D.cache.length a1, .int .i64 D.fuse, .bool D.off, .slice A2 D.bad.length a2] 25)
  have r0k_8 := blk1 r0_8
  have r1_9 := r1.alloc (.cells #[.string (bs D.data), .slice A1 D.cache.length a1, .int .i64 D.fuse, .bool D.off, .slice A2 D.bad.length a2] 25)
  have r1k_9 := blk1 r1_9
  have bp := Blk.new ((((((w.alloc (.cells #[.string (bs D.data), .slice A1 D.cache.length a1, .int .i64 D.fuse, .bool D.off, .slice A2 D.bad.length a2] 25)).alloc (.cells #[.slice B1 L.targets.length b1, .slice B2 L.data.length b2] 28)).alloc (.cells #[.int .i64 g, .int .i64 h] 67)).alloc (.cells #[.int .i64 0] 3)).alloc (.cells #[.int .i64 17] 31)).alloc (.cells #[.string (bs D.data), .slice A1 D.cache.length a1, .int .i64 D.fuse, .bool D.off, .slice A2 D.bad.length a2] 25)) 28 #[.slice B1 L.targets.length b1, .slice B2 L.data.length b2]
  simp only [World.size_alloc] at bp
  have bpk := blk2 bp
  have hB_10 := hB_7.alloc hB_7.size (.cells #[.slice B1 L.targets.length b1, .slice B2 L.data.length b2] 28)
  have r0_11 := r0_8.alloc (.cells #[.slice B1 L.targets.length b1, .slice B2 L.data.length b2] 28)
  have r0k_11 := blk1 r0_11
  have r1_12 := r1_9.alloc (.cells #[.slice B1 L.targets.length b1, .slice B2 L.data.length b2] 28)
  have r1k_12 := blk1 r1_12
  have bd_13 := bd.alloc (.cells #[.slice B1 L.targets.length b1, .slice B2 L.data.length b2] 28)
  have bdk_13 := blk5 bd_13
  have bg := Blk.new (((((((w.alloc (.cells #[.string (bs D.data), .slice A1 D.cache.length a1, .int .i64 D.fuse, .bool D.off, .slice A2 D.bad.length a2] 25)).alloc (.cells #[.slice B1 L.targets.length b1, .slice B2 L.data.length b2] 28)).alloc (.cells #[.int .i64 g, .int .i64 h] 67)).alloc (.cells #[.int .i64 0] 3)).alloc (.cells #[.int .i64 17] 31)).alloc (.cells #[.string (bs D.data), .slice A1 D.cache.length a1, .int .i64 D.fuse, .bool D.off, .slice A2 D.bad.length a2] 25)).alloc (.cells #[.slice B1 L.targets.length b1, .slice B2 L.data.length b2] 28)) 67 #[.int .i64 g, .int .i64 h]
  simp only [World.size_alloc] at bg
  have bgk := blk2 bg
  have hB_14 := hB_10.alloc hB_10.size (.cells #[.int .i64 g, .int .i64 h] 67)
  have r0_15 := r0_11.alloc (.cells #[.int .i64 g, .int .i64 h] 67)
  have r0k_15 := blk1 r0_15
  have r1_16 := r1_12.alloc (.cells #[.int .i64 g, .int .i64 h] 67)
  have r1k_16 := blk1 r1_16
  have bd_17 := bd_13.alloc (.cells #[.int .i64 g, .int .i64 h] 67)
  have bdk_17 := blk5 bd_17
  have bp_18 := bp.alloc (.cells #[.int .i64 g, .int .i64 h] 67)
  have bpk_18 := blk2 bp_18
  generalize ((((((((w.alloc (.cells #[.string (bs D.data), .slice A1 D.cache.length a1, .int .i64 D.fuse, .bool D.off, .slice A2 D.bad.length a2] 25)).alloc (.cells #[.slice B1 L.targets.length b1, .slice B2 L.data.length b2] 28)).alloc (.cells #[.int .i64 g, .int .i64 h] 67)).alloc (.cells #[.int .i64 0] 3)).alloc (.cells #[.int .i64 17] 31)).alloc (.cells #[.string (bs D.data), .slice A1 D.cache.length a1, .int .i64 D.fuse, .bool D.off, .slice A2 D.bad.length a2] 25)).alloc (.cells #[.slice B1 L.targets.length b1, .slice B2 L.data.length b2] 28)).alloc (.cells #[.int .i64 g, .int .i64 h] 67)) = V at hB_14 r0_15 r0k_15 r1_16 r1k_16 bd_17 bdk_17 bp_18 bpk_18 bg bgk ⊢
  clear hB_1 hB_2 hB_3 hB_4 hB_5 r0k_6 r0_6 hB_7 r0k_8 r0_8 r1k_9 r1_9 hB_10 r0k_11 r0_11 r1k_12 r1_12 bdk_13 bd_13 hB r0 r1 bd bp r0k r1k bdk bpk
  have hB := hB_14
  have r0 := r0_15
  have r0k := r0k_15
  have r1 := r1_16
  have r1k := r1k_16
  have bd := bd_17
  have bdk := bdk_17
  have bp := bp_18
  have bpk := bpk_18
  clear hB_14 r0_15 r0k_15 r1_16 r1k_16 bd_17 bdk_17 bp_18 bpk_18
  have vl : w.heap.size + 1 + 1 + 1 + 1 + 1 + 1 + 1 < V.heap.size := bg.lt
  have hbs : ∀ g ∈ [w.heap.size + 1 + 1 + 1 + 1 + 1 + 1 + 1, w.heap.size + 1 + 1 + 1 + 1 + 1 + 1, w.heap.size + 1 + 1 + 1 + 1 + 1], g < V.heap.size ∧ w.heap.size + 1 + 1 + 1 + 1 < g := fun g hg => by
    simp only [List.mem_cons, List.not_mem_nil, or_false] at hg
    omega
  refine (wpIn_wide (n := 6)).1 ?_
  refine range_ax rfl n1 (gf := 98) (lb := #[.pointer (some ⟨w.heap.size + 1 + 1 + 1 + 1 + 1 + 1 + 1, 0, none⟩), .pointer (some ⟨w.heap.size + 1 + 1 + 1 + 1 + 1 + 1, 0, none⟩), .pointer (some ⟨w.heap.size + 1 + 1 + 1 + 1 + 1, 0, none⟩)]) rfl trivial (enters_of Try.func98 (by kernel_rfl) rfl)
    (free_stops 5 (by omega) D L ⟨A1, a1⟩ ⟨A2, a2⟩ ⟨B1, b1⟩ ⟨B2, b2⟩ hf hfl g h hh w.heap.size _ _ _ V hB.size (fun W hb => hDW W (hB.trans hb)) bg bp bd)
    KeepB.trans (fun W l o o' q1 q2 q3 q4 => KeepB.putObj o' (by omega) (fun g hg => by have := hbs g hg; omega)) (Below.refl _ _) (fun _ => rfl)
    (fun pre W => pre = [] ∧ (Blk W (w.heap.size + 1 + 1 + 1) 3 #[.int .i64 0] ∧ Blk W (w.heap.size + 1 + 1 + 1 + 1) 31 #[.int .i64 17]) ∧ Below w.heap.size w W)
    (fun c pre W => c = .exit 0 ∧ (∃ y : Int × Int, pre = [y] ∧ Blk W (w.heap.size + 1 + 1 + 1) 3 #[.int .i64 y.1] ∧ Blk W (w.heap.size + 1 + 1 + 1 + 1) 31 #[.int .i64 y.2]) ∧ Below w.heap.size w W)
    ?hI ?hIx ?h0
    (fun pre y a' W => pre = [] ∧ (Blk W (w.heap.size + 1 + 1 + 1) 3 #[.int .i64 y.1] ∧ Blk W (w.heap.size + 1 + 1 + 1 + 1) 31 #[.int .i64 y.2]) ∧ Below w.heap.size w W)
    ?hAx ?assign ?body ?done ?stop
  case hI =>
    rintro pre X Y row ⟨hp, ⟨h1, h2⟩, hb⟩ hy hr
    exact ⟨hp, ⟨(Own.from (blk_own _ _ (fun _ : Unit => _)) _) () X Y row h1 hy hr, (Own.from (blk_own _ _ (fun _ : Unit => _)) _) () X Y row h2 hy hr⟩, ownFrom_below (β := Unit) (Nat.le_refl _) hB.size () X Y row hb hy hr⟩
  case hIx =>
    rintro c s X Y row ⟨hc, ⟨y, e, h1, h2⟩, hb⟩ hy hr
    exact ⟨hc, ⟨y, e, (Own.from (blk_own _ _ (fun _ : Unit => _)) _) () X Y row h1 hy hr, (Own.from (blk_own _ _ (fun _ : Unit => _)) _) () X Y row h2 hy hr⟩, ownFrom_below (β := Unit) (Nat.le_refl _) hB.size () X Y row hb hy hr⟩
  case h0 => exact ⟨rfl, ⟨r0, r1⟩, hB⟩
  case hAx =>
    rintro pre y a' s X Y row ⟨hp, ⟨h1, h2⟩, hb⟩ hy hr
    exact ⟨hp, ⟨(Own.from (blk_own _ _ (fun _ : Unit => _)) _) () X Y row h1 hy hr, (Own.from (blk_own _ _ (fun _ : Unit => _)) _) () X Y row h2 hy hr⟩, ownFrom_below (β := Unit) (Nat.le_refl _) hB.size () X Y row hb hy hr⟩
  case assign =>
    rintro l pre y W K ⟨rfl, ⟨hr0, hr1⟩, hb⟩ hK
    dsimp only [frEnc]
    have k0 := blk1 hr0
    have k1 := blk1 hr1
    have f0 := hr0.frozen 0
    have f1 := hr1.frozen 0
    obtain ⟨yc, ye⟩ := y
    dsimp only at hK ⊢
    gi_wp2
    have a0 := hr0.set 0 (.int .i64 yc)
    have a1 := (hr1.other (a := ⟨w.heap.size + 1 + 1 + 1, 0, none⟩) (by simp) (.int .i64 yc)).set 0 (.int .i64 ye)
    refine hK _ _ (((KeepsOthers.setCell _ _ _).trans (KeepsOthers.setCell _ _ _)).from _) ((stays_set _ _ (by simp; omega)).trans (stays_set _ _ (by simp; omega))) ⟨((Below.refl _ _).setCell (p := ⟨w.heap.size + 1 + 1 + 1, 0, none⟩) (by simp; omega) _).setCell (p := ⟨w.heap.size + 1 + 1 + 1 + 1, 0, none⟩) (by simp; omega) _, fun g hg => (Below.heap_setCell _ _ _ _ (by have := hbs g hg; simp; omega)).trans (Below.heap_setCell _ _ _ _ (by have := hbs g hg; simp; omega))⟩ ⟨by trivial, ⟨?_, ?_⟩, (hb.setCell (p := ⟨w.heap.size + 1 + 1 + 1, 0, none⟩) (by simp; omega) _).setCell (p := ⟨w.heap.size + 1 + 1 + 1 + 1, 0, none⟩) (by simp; omega) _⟩
    · exact Blk.other (by simpa using a0) (by simp) _
    · simpa using a1
  case body =>
    rintro l pre y a' W ⟨rfl, ⟨hr0, hr1⟩, hb⟩ hpl
    gi_wp2
    exact ⟨KeepsFrom.refl _ _, rfl, ⟨y, rfl, hr0, hr1⟩, hb⟩
  case done =>
    rintro Dd ys U hDd hS ⟨rfl, ⟨hr0, hr1⟩, hb⟩ hK
    have k0 := blk1 hr0
    have k1 := blk1 hr1
    have Hf := hid (hS.1 rfl)
    clear hS
    go_wp2_with fail
    go_quiet (fail)
    go_wp2_with fail
    have hK2 : (U.drewN nq).heap[Dd]? = some (.deferred (some [])) := hK
    refine ⟨by simp, .inl ⟨_, _, rfl, run_takeDeferred hK2, ?_⟩⟩
    refine ⟨.tuple #[.int .i64 0, .int .i64 17], by simp [results, Try.results40, go_sem], ?_, ?_⟩
    · rw [Hf.out]
    · exact (below_drewN hb nq).trans (belowK_b (w := w) (Nat.le_refl _) (U.drewN nq) Dd _ _ (by have := hB.size; omega) hK2 rfl rfl)
  case stop =>
    rintro Dd c pre U hDd hpre ⟨rfl, ⟨y, rfl, hr0, hr1⟩, hb⟩ hK
    have k0 := blk1 hr0
    have k1 := blk1 hr1
    have Hf := hid (hpre y [] rfl)
    refine wpIn_wide.2 ?_
    go_wp2_with fail
    go_quiet (fail)
    go_wp2_with fail
    have hK2 : (U.drewN nq).heap[Dd]? = some (.deferred (some [])) := hK
    refine ⟨by simp, .inl ⟨_, _, rfl, run_takeDeferred hK2, ?_⟩⟩
    refine ⟨.tuple #[.int .i64 y.1, .int .i64 y.2], by simp [results, Try.results40, go_sem], ?_, ?_⟩
    · rw [← Hf.out]
    · exact (below_drewN hb nq).trans (belowK_b (w := w) (Nat.le_refl _) (U.drewN nq) Dd _ _ (by have := hB.size; omega) hK2 rfl rfl)
end Go.Proofs.Ytlajbmmhgflabaa
