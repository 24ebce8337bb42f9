/- Package jour: a plan that is made to last. -/
import Derived.Test.YtplgmlcoeehnfaaGreatJcJourA
import Derived.Test.YtplgmlcoeehnfaaGreatJcTxn6
import Derived.Deep.RegionHeld3
set_option linter.unusedVariables false
namespace Go.Proofs.YtplgmlcoeehnfaaGreat
open Go.RowKit Go.Shelf
attribute [local go_sem] bs_mk bs_append bs_extract bs_size bs_toList bs_get
/-- The call hands back a device, a journal's place and a number. -/
def RetJr (B : Nat) (D : Dk) (p q : Pl) (X : Dk × Jr × Int) (e : Ending) (w : World) : Prop :=
  ∃ p' q', e = .returned (.tuple #[dval X.1 p' q', jval X.2.1, .int .i64 X.2.2]) ∧ IsDk w X.1 p' q' ∧ ∀ g, g < B → DkOff g D p q → DkOff g X.1 p' q'
theorem comSteps_eq (D : Dk) (k : Int) (l : List (List UInt8)) (L : Pn) (G1 G2 G : Nat) : runAll [.flush, .rows G1 G2 k l, .flush, .laid G L] D = comSteps D k l L := by
  unfold comSteps
  rw [runAll, Stp.run]
  by_cases h1 : D.flush.2 = 0
  · rw [if_neg (by rw [h1]; simp), Dk.next_zero h1, runAll, Stp.run]
    by_cases h2 : (Dk.layIn (rowsFrom k l) D.flush.1).2 = 0
    · rw [if_neg (by rw [h2]; simp), Dk.next_zero h2, runAll, Stp.run]
      by_cases h3 : (Dk.layIn (rowsFrom k l) D.flush.1).1.flush.2 = 0
      · rw [if_neg (by rw [h3]; simp), Dk.next_zero h3, runAll, Stp.run]
        split
        · rfl
        · rename_i h4
          have h4 : (Pn.lay (Dk.layIn (rowsFrom k l) D.flush.1).1.flush.1 L).2 = 0 := by simpa using h4
          exact Prod.ext rfl h4.symm
      · rw [if_pos h3, Dk.next_err h3]
    · rw [if_pos h2, Dk.next_err h2, Dk.next_err h2]
  · rw [if_pos h1, Dk.next_err h1, Dk.next_err h1, Dk.next_err h1]
theorem below_five (w : World) (a b c d e : Obj) : Below w.heap.size w ((((((w.alloc a).alloc b).alloc c).alloc d).alloc e).drew) :=
  ((((((Below.refl w.heap.size w).alloc (Nat.le_refl _) a).alloc (by simp) b).alloc (by simp; omega) c).alloc (by simp; omega) d).alloc (by simp; omega) e).drew
theorem j_rows (k : Int) (A : Option Addr) (n c : Nat) (w : World) : Calls Tryz.prog 79 #[.int .i64 k, .slice A n c] w fun e w' => e = .returned (.func (.func 142) #[] #[.pointer (some ⟨w.heap.size + 1, 0, none⟩), .pointer (some ⟨w.heap.size, 0, none⟩)]) ∧ w' = (w.alloc (.cells #[.int .i64 k] 3)).alloc (.cells #[.slice A n c] 26) := by
  go_enter Tryz.func79, Tryz.ntmps79
  go_wp2_with fail
  go_ret
  exact ⟨rfl, rfl⟩
theorem j_laid (A B : Option Addr) (n m c d : Nat) (w : World) : Calls Tryz.prog 80 #[.agg #[.slice A n c, .slice B m d]] w fun e w' => e = .returned (.func (.func 144) #[] #[.pointer (some ⟨w.heap.size, 0, none⟩)]) ∧ w' = w.alloc (.cells #[.slice A n c, .slice B m d] 28) := by
  go_enter Tryz.func80, Tryz.ntmps80
  go_wp2_with fail
  go_ret
  exact ⟨rfl, rfl⟩
set_option maxRecDepth 100000 in
set_option maxHeartbeats 1000000 in
theorem j_commit_none (D : Dk) (j : Jr) (L : Pn) (p q p' q' : Pl) (w : World) (hD : IsDk w D p q) (h0 : L.targets = []) :
    Calls Tryz.prog 38 #[dval D p q, jval j, pval L p' q'] w fun e w' => RetJr w.heap.size D p q (jrCommit D j L) e w' ∧ Below w.heap.size w w' := by
  have Hw := hid (show jrCommit D j L = (D, j, 0) by unfold jrCommit; rw [if_pos h0])
  have hl' : L.targets.length = 0 := by rw [h0]; rfl
  have hap := hD.apart (Nat.le_refl _)
  have HD := hid (fun (W : World) (hb : Below w.heap.size w W) => (hD.below hb : IsDk W D p q))
  clear hD h0
  obtain ⟨A1, a1⟩ := p
  obtain ⟨A2, a2⟩ := q
  obtain ⟨B1, b1⟩ := p'
  obtain ⟨B2, b2⟩ := q'
  obtain ⟨sj, pj⟩ := j
  have hB := Below.refl w.heap.size w
  have x := Blk.new w 25 #[.string (bs D.data), .slice A1 D.cache.length a1, .int .i64 D.fuse, .bool D.off, .slice A2 D.bad.length a2]
  have xk := blk5 x
  have hB_1 := hB.alloc hB.size (.cells #[.string (bs D.data), .slice A1 D.cache.length a1, .int .i64 D.fuse, .bool D.off, .slice A2 D.bad.length a2] 25)
  have y := Blk.new (w.alloc (.cells #[.string (bs D.data), .slice A1 D.cache.length a1, .int .i64 D.fuse, .bool D.off, .slice A2 D.bad.length a2] 25)) 72 #[.int .u64 sj, .int .i64 pj]
  simp only [World.size_alloc] at y
  have yk := blk2 y
  have hB_2 := hB_1.alloc hB_1.size (.cells #[.int .u64 sj, .int .i64 pj] 72)
  have x_3 := x.alloc (.cells #[.int .u64 sj, .int .i64 pj] 72)
  have xk_3 := blk5 x_3
  have z := Blk.new ((w.alloc (.cells #[.string (bs D.data), .slice A1 D.cache.length a1, .int .i64 D.fuse, .bool D.off, .slice A2 D.bad.length a2] 25)).alloc (.cells #[.int .u64 sj, .int .i64 pj] 72)) 28 #[.slice B1 L.targets.length b1, .slice B2 L.data.length b2]
  simp only [World.size_alloc] at z
  have zk := blk2 z
  have hB_4 := hB_2.alloc hB_2.size (.cells #[.slice B1 L.targets.length b1, .slice B2 L.data.length b2] 28)
  have x_5 := x_3.alloc (.cells #[.slice B1 L.targets.length b1, .slice B2 L.data.length b2] 28)
  have xk_5 := blk5 x_5
  have y_6 := y.alloc (.cells #[.slice B1 L.targets.length b1, .slice B2 L.data.length b2] 28)
  have yk_6 := blk2 y_6
  have r := Blk.new (((w.alloc (.cells #[.string (bs D.data), .slice A1 D.cache.length a1, .int .i64 D.fuse, .bool D.off, .slice A2 D.bad.length a2] 25)).alloc (.cells #[.int .u64 sj, .int .i64 pj] 72)).alloc (.cells #[.slice B1 L.targets.length b1, .slice B2 L.data.length b2] 28)) 25 #[.string (bs []), .slice none 0 0, .int .i64 0, .bool false, .slice none 0 0]
  simp only [World.size_alloc] at r
  have rk := blk5 r
  have rkf := r.frozen
  have hB_7 := hB_4.alloc hB_4.size (.cells #[.string (bs []), .slice none 0 0, .int .i64 0, .bool false, .slice none 0 0] 25)
  have x_8 := x_5.alloc (.cells #[.string (bs []), .slice none 0 0, .int .i64 0, .bool false, .slice none 0 0] 25)
  have xk_8 := blk5 x_8
  have y_9 := y_6.alloc (.cells #[.string (bs []), .slice none 0 0, .int .i64 0, .bool false, .slice none 0 0] 25)
  have yk_9 := blk2 y_9
  have z_10 := z.alloc (.cells #[.string (bs []), .slice none 0 0, .int .i64 0, .bool false, .slice none 0 0] 25)
  have zk_10 := blk2 z_10
  have s := Blk.new ((((w.alloc (.cells #[.string (bs D.data), .slice A1 D.cache.length a1, .int .i64 D.fuse, .bool D.off, .slice A2 D.bad.length a2] 25)).alloc (.cells #[.int .u64 sj, .int .i64 pj] 72)).alloc (.cells #[.slice B1 L.targets.length b1, .slice B2 L.data.length b2] 28)).alloc (.cells #[.string (bs []), .slice none 0 0, .int .i64 0, .bool false, .slice none 0 0] 25)) 72 #[.int .u64 0, .int .i64 0]
  simp only [World.size_alloc] at s
  have sk := blk2 s
  have skf := s.frozen
  have hB_11 := hB_7.alloc hB_7.size (.cells #[.int .u64 0, .int .i64 0] 72)
  have x_12 := x_8.alloc (.cells #[.int .u64 0, .int .i64 0] 72)
  have xk_12 := blk5 x_12
  have y_13 := y_9.alloc (.cells #[.int .u64 0, .int .i64 0] 72)
  have yk_13 := blk2 y_13
  have z_14 := z_10.alloc (.cells #[.int .u64 0, .int .i64 0] 72)
  have zk_14 := blk2 z_14
  have r_15 := r.alloc (.cells #[.int .u64 0, .int .i64 0] 72)
  have rk_15 := blk5 r_15
  have rkf_15 := r_15.frozen
  go_enter Tryz.func38, Tryz.ntmps38
  go_wp2_with fail
  go_region
  go_wp2_with fail
  refine bodyPost_ret (v := .tuple #[dval D ⟨A1, a1⟩ ⟨A2, a2⟩, jval ⟨sj, pj⟩, .int .i64 0]) (by simp [results, Tryz.results38, go_sem]) rfl ?_
  refine ⟨⟨_, _, by rw [Hw.out], ?_, ?_⟩, below_five _ _ _ _ _ _⟩
  · rw [Hw.out]; exact HD.out _ (below_five _ _ _ _ _ _)
  · rw [Hw.out]; exact fun _ _ h => h
set_option maxRecDepth 100000 in
set_option maxHeartbeats 1000000 in
theorem j_commit_full (D : Dk) (j : Jr) (L : Pn) (p q p' q' : Pl) (w : World) (hD : IsDk w D p q) (h0 : L.targets ≠ []) (hl : L.targets.length ≤ 24) (h1 : 4611686018427387904 ≤ j.seq) (h2 : j.seq < 18446744073709551616) :
    Calls Tryz.prog 38 #[dval D p q, jval j, pval L p' q'] w fun e w' => RetJr w.heap.size D p q (jrCommit D j L) e w' ∧ Below w.heap.size w w' := by
  have Hw := hid (show jrCommit D j L = (D, j, 10) by unfold jrCommit; rw [if_neg h0, if_pos h1])
  have hl1 := List.length_pos_iff.2 h0
  have hl' : ((L.targets.length : Int) == 0) = false := by rw [beq_eq_false_iff_ne]; omega
  have HD := hid (fun (W : World) (hb : Below w.heap.size w W) => (hD.below hb : IsDk W D p q))
  have g1 : (4611686018427387904 : Int) ≤ (j.seq : Int) := by omega
  clear hD h0
  obtain ⟨A1, a1⟩ := p
  obtain ⟨A2, a2⟩ := q
  obtain ⟨B1, b1⟩ := p'
  obtain ⟨B2, b2⟩ := q'
  obtain ⟨sj, pj⟩ := j
  simp only at h1 h2 g1
  have hB := Below.refl w.heap.size w
  have x := Blk.new w 25 #[.string (bs D.data), .slice A1 D.cache.length a1, .int .i64 D.fuse, .bool D.off, .slice A2 D.bad.length a2]
  have xk := blk5 x
  have hB_1 := hB.alloc hB.size (.cells #[.string (bs D.data), .slice A1 D.cache.length a1, .int .i64 D.fuse, .bool D.off, .slice A2 D.bad.length a2] 25)
  have y := Blk.new (w.alloc (.cells #[.string (bs D.data), .slice A1 D.cache.length a1, .int .i64 D.fuse, .bool D.off, .slice A2 D.bad.length a2] 25)) 72 #[.int .u64 sj, .int .i64 pj]
  simp only [World.size_alloc] at y
  have yk := blk2 y
  have hB_2 := hB_1.alloc hB_1.size (.cells #[.int .u64 sj, .int .i64 pj] 72)
  have x_3 := x.alloc (.cells #[.int .u64 sj, .int .i64 pj] 72)
  have xk_3 := blk5 x_3
  have z := Blk.new ((w.alloc (.cells #[.string (bs D.data), .slice A1 D.cache.length a1, .int .i64 D.fuse, .bool D.off, .slice A2 D.bad.length a2] 25)).alloc (.cells #[.int .u64 sj, .int .i64 pj] 72)) 28 #[.slice B1 L.targets.length b1, .slice B2 L.data.length b2]
  simp only [World.size_alloc] at z
  have zk := blk2 z
  have hB_4 := hB_2.alloc hB_2.size (.cells #[.slice B1 L.targets.length b1, .slice B2 L.data.length b2] 28)
  have x_5 := x_3.alloc (.cells #[.slice B1 L.targets.length b1, .slice B2 L.data.length b2] 28)
  have xk_5 := blk5 x_5
  have y_6 := y.alloc (.cells #[.slice B1 L.targets.length b1, .slice B2 L.data.length b2] 28)
  have yk_6 := blk2 y_6
  have r := Blk.new (((w.alloc (.cells #[.string (bs D.data), .slice A1 D.cache.length a1, .int .i64 D.fuse, .bool D.off, .slice A2 D.bad.length a2] 25)).alloc (.cells #[.int .u64 sj, .int .i64 pj] 72)).alloc (.cells #[.slice B1 L.targets.length b1, .slice B2 L.data.length b2] 28)) 25 #[.string (bs []), .slice none 0 0, .int .i64 0, .bool false, .slice none 0 0]
  simp only [World.size_alloc] at r
  have rk := blk5 r
  have rkf := r.frozen
  have hB_7 := hB_4.alloc hB_4.size (.cells #[.string (bs []), .slice none 0 0, .int .i64 0, .bool false, .slice none 0 0] 25)
  have x_8 := x_5.alloc (.cells #[.string (bs []), .slice none 0 0, .int .i64 0, .bool false, .slice none 0 0] 25)
  have xk_8 := blk5 x_8
  have y_9 := y_6.alloc (.cells #[.string (bs []), .slice none 0 0, .int .i64 0, .bool false, .slice none 0 0] 25)
  have yk_9 := blk2 y_9
  have z_10 := z.alloc (.cells #[.string (bs []), .slice none 0 0, .int .i64 0, .bool false, .slice none 0 0] 25)
  have zk_10 := blk2 z_10
  have s := Blk.new ((((w.alloc (.cells #[.string (bs D.data), .slice A1 D.cache.length a1, .int .i64 D.fuse, .bool D.off, .slice A2 D.bad.length a2] 25)).alloc (.cells #[.int .u64 sj, .int .i64 pj] 72)).alloc (.cells #[.slice B1 L.targets.length b1, .slice B2 L.data.length b2] 28)).alloc (.cells #[.string (bs []), .slice none 0 0, .int .i64 0, .bool false, .slice none 0 0] 25)) 72 #[.int .u64 0, .int .i64 0]
  simp only [World.size_alloc] at s
  have sk := blk2 s
  have skf := s.frozen
  have hB_11 := hB_7.alloc hB_7.size (.cells #[.int .u64 0, .int .i64 0] 72)
  have x_12 := x_8.alloc (.cells #[.int .u64 0, .int .i64 0] 72)
  have xk_12 := blk5 x_12
  have y_13 := y_9.alloc (.cells #[.int .u64 0, .int .i64 0] 72)
  have yk_13 := blk2 y_13
  have z_14 := z_10.alloc (.cells #[.int .u64 0, .int .i64 0] 72)
  have zk_14 := blk2 z_14
  have r_15 := r.alloc (.cells #[.int .u64 0, .int .i64 0] 72)
  have rk_15 := blk5 r_15
  have rkf_15 := r_15.frozen
  go_enter Tryz.func38, Tryz.ntmps38
  go_wp2_with fail
  go_region
  go_wp2_with fail
  refine bodyPost_ret (v := .tuple #[dval D ⟨A1, a1⟩ ⟨A2, a2⟩, jval ⟨sj, pj⟩, .int .i64 10]) (by simp [results, Tryz.results38, go_sem]) rfl ?_
  refine ⟨⟨_, _, by rw [Hw.out], ?_, ?_⟩, below_five _ _ _ _ _ _⟩
  · rw [Hw.out]; exact HD.out _ (below_five _ _ _ _ _ _)
  · rw [Hw.out]; exact fun _ _ h => h
theorem Cells.grown {w W : World} {A : Option Addr} {cs : List Value} {g : Nat} (h : Cells w A cs) (hg : w.grownBy W (some g)) (ho : Off g A cs.length) : Cells W A cs := by
  rcases h with h | ⟨b, off, e, hc⟩
  · exact .inl h
  · rcases ho with ho | ho
    · exact .inl (List.length_eq_zero_iff.1 ho)
    · refine .inr ⟨b, off, e, fun j u hu => ?_⟩
      have h1 := hc j u hu
      rw [World.cell?_of_block (w := w) (a := ⟨b, off + j, none⟩) (hg.block b (lt_of_cell h1) (by intro e2; injection e2 with e2; exact ho b off e e2))]
      exact h1
theorem IsPn.grown {w W : World} {L : Pn} {p q : Pl} {g : Nat} (h : IsPn w L p q) (hg : w.grownBy W (some g)) (ho : PnOff g L p q) : IsPn W L p q :=
  { h with targets := h.targets.grown hg (by rw [intCells_length]; exact ho.1), data := h.data.grown hg (by rw [strCells_length]; exact ho.2) }
/-- What stands in memory ahead of the steps. -/
structure StepsAt (V W : World) (tk tl tp tf : TypeId) (k : Int) (C : Option Addr) (n d : Nat) (P : Array Value) (F : List Value) : Prop where
  below : Below V.heap.size V W
  k : Blk W V.heap.size tk #[.int .i64 k]
  l : Blk W (V.heap.size + 1) tl #[.slice C n d]
  p : Blk W (V.heap.size + 1 + 1) tp P
  f : Blk W (V.heap.size + 1 + 1 + 1) tf F.toArray
theorem steps_at (V : World) (tk tl tp tf : TypeId) (k : Int) (C : Option Addr) (n d : Nat) (P : Array Value) (F : List Value) :
    StepsAt V ((((V.drew.alloc (.cells #[.int .i64 k] tk)).alloc (.cells #[.slice C n d] tl)).alloc (.cells P tp)).alloc (.cells F.toArray tf)) tk tl tp tf k C n d P F := by
  have s1 := Blk.new V.drew tk #[.int .i64 k]
  have s2 := Blk.new (V.drew.alloc (.cells #[.int .i64 k] tk)) tl #[.slice C n d]
  have s3 := Blk.new ((V.drew.alloc (.cells #[.int .i64 k] tk)).alloc (.cells #[.slice C n d] tl)) tp P
  have s4 := Blk.new (((V.drew.alloc (.cells #[.int .i64 k] tk)).alloc (.cells #[.slice C n d] tl)).alloc (.cells P tp)) tf F.toArray
  simp only [World.size_alloc] at s2 s3 s4
  exact ⟨(((((Below.refl V.heap.size V).drew).alloc (Nat.le_refl _) _).alloc (by simp) _).alloc (by simp; omega) _).alloc (by simp; omega) _, ((s1.alloc _).alloc _).alloc _, (s2.alloc _).alloc _, s3.alloc _, s4⟩
theorem below_grown {w W U : World} {B g : Nat} (h : Below B w W) (hg : W.grownBy U (some g)) (hB : B ≤ g) (hl : B ≤ W.heap.size) : Below B w U :=
  ⟨hg.os.trans h.os, hg.tape.trans h.tape, hg.output.trans h.output, Nat.le_trans h.size hg.size, fun k hk => (hg.block k (Nat.lt_of_lt_of_le hk hl) (by intro e; injection e with e; omega)).trans (h.block k hk)⟩
theorem jrRows_ok {j : Jr} {L : Pn} (hL : L.Fit) (h0 : L.targets ≠ []) : (⟨j.seq, L⟩ : Tx).write = (jrRows j L, 0) ∧ (jrRows j L).length ≤ 27 ∧ (∀ s ∈ jrRows j L, s.length = 64) ∧ 0 < (jrRows j L).length := by
  have hok : (⟨j.seq, L⟩ : Tx).Ok := ⟨hL, h0⟩
  have hw : (⟨j.seq, L⟩ : Tx).write = ((⟨j.seq, L⟩ : Tx).rows, 0) := by unfold Tx.write; rw [if_pos hok]
  have e : jrRows j L = (⟨j.seq, L⟩ : Tx).rows := by unfold jrRows; rw [hw]
  refine ⟨by rw [e]; exact hw, by have := write_len (⟨j.seq, L⟩ : Tx); rw [hw] at this; rw [e]; exact this, by rw [e]; exact Tx.rows_64 hok, by rw [e]; simp [Tx.rows]⟩
set_option maxRecDepth 100000 in
set_option maxHeartbeats 2000000 in
theorem j_commit_do (D : Dk) (j : Jr) (L : Pn) (p q p' q' : Pl) (w : World) (hD : IsDk w D p q) (hL : IsPn w L p' q') (hf : D.fit = true) (hfl : L.Fit) (h0 : L.targets ≠ []) (h1 : j.seq < 4611686018427387904) (h2 : -9223372036854775808 ≤ j.pos ∧ j.pos ≤ 9223372036854775807) :
    Calls Tryz.prog 38 #[dval D p q, jval j, pval L p' q'] w fun e w' => RetJr w.heap.size D p q (jrCommit D j L) e w' ∧ Below w.heap.size w w' := by
  obtain ⟨r1, r2, r3, r4⟩ := jrRows_ok (j := j) hfl h0
  have c1 := fun (W : World) (hb : Below w.heap.size w W) => tx_write ⟨j.seq, L⟩ p' q' W (hL.below hb) (by simp only; omega)
  rw [r1] at c1
  have hat := jrPlace_bound (pos := j.pos) (size := ((jrRows j L).length : Int)) (by omega) (by omega)
  have c2 := fun (W : World) => j_place j.pos ((jrRows j L).length : Int) h2 ⟨by omega, by omega⟩ W
  have Hw := hid (show jrCommit D j L = if (comSteps D (6 + jrAt j L) (jrRows j L) L).2 ≠ 0 then ((comSteps D (6 + jrAt j L) (jrRows j L) L).1, j, (comSteps D (6 + jrAt j L) (jrRows j L) L).2)
      else ((comSteps D (6 + jrAt j L) (jrRows j L) L).1, ⟨j.seq + 1, jrAt j L + (jrRows j L).length⟩, 0) by
    unfold jrCommit; rw [if_neg h0, if_neg (by omega)])
  have e1 : jrAt j L = jrPlace j.pos ((jrRows j L).length : Int) := rfl
  rw [e1] at Hw
  clear e1 r1
  generalize jrRows j L = R at *
  generalize jrPlace j.pos (R.length : Int) = at_ at *
  have hl1 := List.length_pos_iff.2 h0
  have hl24 := hfl.2.1
  have hld := hfl.1
  have hl' : ((L.targets.length : Int) == 0) = false := by rw [beq_eq_false_iff_ne]; omega
  have HD := hid (fun (W : World) (hb : Below w.heap.size w W) => (hD.below hb : IsDk W D p q))
  have Hap := hid (fun g (hg : w.heap.size ≤ g) => hD.apart hg)
  have HL := hid (fun (W : World) (hb : Below w.heap.size w W) => (hL.below hb : IsPn W L p' q'))
  have g1 : ¬ (4611686018427387904 : Int) ≤ (j.seq : Int) := by omega
  have w6 := i64w (x := 6 + at_) ⟨by omega, by omega⟩
  have w7 := i64w (x := at_ + (R.length : Int)) ⟨by omega, by omega⟩
  have w8 := u64w (x := (j.seq : Int) + 1) ⟨by omega, by omega⟩
  have Hld := hid hld
  clear hD hL h0 hfl hld
  obtain ⟨A1, a1⟩ := p
  obtain ⟨A2, a2⟩ := q
  obtain ⟨B1, b1⟩ := p'
  obtain ⟨B2, b2⟩ := q'
  obtain ⟨sj, pj⟩ := j
  simp only at h1 h2 g1 c1 c2 w8
  have hB := Below.refl w.heap.size w
  have x := Blk.new w 25 #[.string (bs D.data), .slice A1 D.cache.length a1, .int .i64 D.fuse, .bool D.off, .slice A2 D.bad.length a2]
  have xk := blk5 x
  have hB_1 := hB.alloc hB.size (.cells #[.string (bs D.data), .slice A1 D.cache.length a1, .int .i64 D.fuse, .bool D.off, .slice A2 D.bad.length a2] 25)
  have y := Blk.new (w.alloc (.cells #[.string (bs D.data), .slice A1 D.cache.length a1, .int .i64 D.fuse, .bool D.off, .slice A2 D.bad.length a2] 25)) 72 #[.int .u64 sj, .int .i64 pj]
  simp only [World.size_alloc] at y
  have yk := blk2 y
  have hB_2 := hB_1.alloc hB_1.size (.cells #[.int .u64 sj, .int .i64 pj] 72)
  have x_3 := x.alloc (.cells #[.int .u64 sj, .int .i64 pj] 72)
  have xk_3 := blk5 x_3
  have z := Blk.new ((w.alloc (.cells #[.string (bs D.data), .slice A1 D.cache.length a1, .int .i64 D.fuse, .bool D.off, .slice A2 D.bad.length a2] 25)).alloc (.cells #[.int .u64 sj, .int .i64 pj] 72)) 28 #[.slice B1 L.targets.length b1, .slice B2 L.data.length b2]
  simp only [World.size_alloc] at z
  have zk := blk2 z
  have hB_4 := hB_2.alloc hB_2.size (.cells #[.slice B1 L.targets.length b1, .slice B2 L.data.length b2] 28)
  have x_5 := x_3.alloc (.cells #[.slice B1 L.targets.length b1, .slice B2 L.data.length b2] 28)
  have xk_5 := blk5 x_5
  have y_6 := y.alloc (.cells #[.slice B1 L.targets.length b1, .slice B2 L.data.length b2] 28)
  have yk_6 := blk2 y_6
  have r := Blk.new (((w.alloc (.cells #[.string (bs D.data), .slice A1 D.cache.length a1, .int .i64 D.fuse, .bool D.off, .slice A2 D.bad.length a2] 25)).alloc (.cells #[.int .u64 sj, .int .i64 pj] 72)).alloc (.cells #[.slice B1 L.targets.length b1, .slice B2 L.data.length b2] 28)) 25 #[.string (bs []), .slice none 0 0, .int .i64 0, .bool false, .slice none 0 0]
  simp only [World.size_alloc] at r
  have rk := blk5 r
  have rkf := r.frozen
  have hB_7 := hB_4.alloc hB_4.size (.cells #[.string (bs []), .slice none 0 0, .int .i64 0, .bool false, .slice none 0 0] 25)
  have x_8 := x_5.alloc (.cells #[.string (bs []), .slice none 0 0, .int .i64 0, .bool false, .slice none 0 0] 25)
  have xk_8 := blk5 x_8
  have y_9 := y_6.alloc (.cells #[.string (bs []), .slice none 0 0, .int .i64 0, .bool false, .slice none 0 0] 25)
  have yk_9 := blk2 y_9
  have z_10 := z.alloc (.cells #[.string (bs []), .slice none 0 0, .int .i64 0, .bool false, .slice none 0 0] 25)
  have zk_10 := blk2 z_10
  have s := Blk.new ((((w.alloc (.cells #[.string (bs D.data), .slice A1 D.cache.length a1, .int .i64 D.fuse, .bool D.off, .slice A2 D.bad.length a2] 25)).alloc (.cells #[.int .u64 sj, .int .i64 pj] 72)).alloc (.cells #[.slice B1 L.targets.length b1, .slice B2 L.data.length b2] 28)).alloc (.cells #[.string (bs []), .slice none 0 0, .int .i64 0, .bool false, .slice none 0 0] 25)) 72 #[.int .u64 0, .int .i64 0]
  simp only [World.size_alloc] at s
  have sk := blk2 s
  have skf := s.frozen
  have hB_11 := hB_7.alloc hB_7.size (.cells #[.int .u64 0, .int .i64 0] 72)
  have x_12 := x_8.alloc (.cells #[.int .u64 0, .int .i64 0] 72)
  have xk_12 := blk5 x_12
  have y_13 := y_9.alloc (.cells #[.int .u64 0, .int .i64 0] 72)
  have yk_13 := blk2 y_13
  have z_14 := z_10.alloc (.cells #[.int .u64 0, .int .i64 0] 72)
  have zk_14 := blk2 z_14
  have r_15 := r.alloc (.cells #[.int .u64 0, .int .i64 0] 72)
  have rk_15 := blk5 r_15
  have rkf_15 := r_15.frozen
  go_enter Tryz.func38, Tryz.ntmps38
  go_wp2_with fail
  go_at_call 76
  refine ((c1 _ hB_11)).mono ?_
  rintro e w1 ⟨⟨v1, rfl, own1⟩, hb1⟩
  replace hB := bt hB_11 hb1
  replace x := x_12.below hb1 x_12.lt
  replace xk := blk5 x
  replace y := y_13.below hb1 y_13.lt
  replace yk := blk2 y
  replace z := z_14.below hb1 z_14.lt
  replace zk := blk2 z
  replace r := r_15.below hb1 r_15.lt
  replace rk := blk5 r
  replace rkf := r.frozen
  replace s := s.below hb1 s.lt
  replace sk := blk2 s
  replace skf := s.frozen
  clear hB_1 hB_2 xk_3 x_3 hB_4 xk_5 x_5 yk_6 y_6 hB_7 xk_8 x_8 yk_9 y_9 zk_10 z_10 hB_11 xk_12 x_12 yk_13 y_13 zk_14 z_14 rk_15 rkf_15 r_15
  simp only at own1
  obtain ⟨C1, d1, rfl, u1, u2, u3⟩ := own_slice own1
  have cc1 := Cells.of_own own1
  have oc1 := fun g (hg : w1.heap.size ≤ g) => off_below cc1 (Nat.le_refl _) hg
  go_wp2_with fail
  go_at_call 75
  refine ((j_span _)).mono ?_
  rintro e w2 ⟨rfl, hb2⟩
  replace hB := bt hB hb2
  replace x := x.below hb2 x.lt
  replace xk := blk5 x
  replace y := y.below hb2 y.lt
  replace yk := blk2 y
  replace z := z.below hb2 z.lt
  replace zk := blk2 z
  replace r := r.below hb2 r.lt
  replace rk := blk5 r
  replace rkf := r.frozen
  replace s := s.below hb2 s.lt
  replace sk := blk2 s
  replace skf := s.frozen
  replace cc1 := cc1.below hb2
  have hw12 := hb2.size
  go_wp2_with fail
  go_at_call 33
  refine ((c2 _)).mono ?_
  rintro e w3 ⟨rfl, hb3⟩
  replace hB := bt hB hb3
  replace x := x.below hb3 x.lt
  replace xk := blk5 x
  replace y := y.below hb3 y.lt
  replace yk := blk2 y
  replace z := z.below hb3 z.lt
  replace zk := blk2 z
  replace r := r.below hb3 r.lt
  replace rk := blk5 r
  replace rkf := r.frozen
  replace s := s.below hb3 s.lt
  replace sk := blk2 s
  replace skf := s.frozen
  replace cc1 := cc1.below hb3
  have hw3 : w.heap.size ≤ w3.heap.size := hB.size
  have hw3s : w.heap.size + 1 + 1 + 1 + 1 < w3.heap.size := s.lt
  have hw13 : w1.heap.size ≤ w3.heap.size := Nat.le_trans hw12 hb3.size
  have g := Blk.new w3 138 #[.string (bs D.data), .slice A1 D.cache.length a1, .int .i64 D.fuse, .bool D.off, .slice A2 D.bad.length a2, .int .i64 0]
  have gk := blk6 g
  have gkf := g.frozen
  have hB_16 := hB.alloc hB.size (.cells #[.string (bs D.data), .slice A1 D.cache.length a1, .int .i64 D.fuse, .bool D.off, .slice A2 D.bad.length a2, .int .i64 0] 138)
  have x_17 := x.alloc (.cells #[.string (bs D.data), .slice A1 D.cache.length a1, .int .i64 D.fuse, .bool D.off, .slice A2 D.bad.length a2, .int .i64 0] 138)
  have xk_17 := blk5 x_17
  have y_18 := y.alloc (.cells #[.string (bs D.data), .slice A1 D.cache.length a1, .int .i64 D.fuse, .bool D.off, .slice A2 D.bad.length a2, .int .i64 0] 138)
  have yk_18 := blk2 y_18
  have z_19 := z.alloc (.cells #[.string (bs D.data), .slice A1 D.cache.length a1, .int .i64 D.fuse, .bool D.off, .slice A2 D.bad.length a2, .int .i64 0] 138)
  have zk_19 := blk2 z_19
  have r_20 := r.alloc (.cells #[.string (bs D.data), .slice A1 D.cache.length a1, .int .i64 D.fuse, .bool D.off, .slice A2 D.bad.length a2, .int .i64 0] 138)
  have rk_20 := blk5 r_20
  have rkf_20 := r_20.frozen
  have s_21 := s.alloc (.cells #[.string (bs D.data), .slice A1 D.cache.length a1, .int .i64 D.fuse, .bool D.off, .slice A2 D.bad.length a2, .int .i64 0] 138)
  have sk_21 := blk2 s_21
  have skf_21 := s_21.frozen
  have cc1_22 := cc1.below ((Below.refl _ _).alloc (Nat.le_refl _) (.cells #[.string (bs D.data), .slice A1 D.cache.length a1, .int .i64 D.fuse, .bool D.off, .slice A2 D.bad.length a2, .int .i64 0] 138))
  go_wp2_with fail
  generalize (w3.alloc (.cells #[.string (bs D.data), .slice A1 D.cache.length a1, .int .i64 D.fuse, .bool D.off, .slice A2 D.bad.length a2, .int .i64 0] 138)) = V at hB_16 x_17 xk_17 y_18 yk_18 z_19 zk_19 r_20 rk_20 rkf_20 s_21 sk_21 skf_21 cc1_22 g gk gkf ⊢
  clear hB x y z r s cc1 xk yk zk rk sk rkf skf
  have hB := hB_16
  have x := x_17
  have xk := xk_17
  have y := y_18
  have yk := yk_18
  have z := z_19
  have zk := zk_19
  have r := r_20
  have rk := rk_20
  have rkf := rkf_20
  have s := s_21
  have sk := sk_21
  have skf := skf_21
  have cc1 := cc1_22
  clear hB_16 x_17 xk_17 y_18 yk_18 z_19 zk_19 r_20 rk_20 rkf_20 s_21 sk_21 skf_21 cc1_22
  have hgv := g.lt
  have hzl := z.lt
  have hdo : ∀ W4 : World, StepsAt V W4 3 26 28 140 (6 + at_) C1 R.length d1 #[.slice B1 L.targets.length b1, .slice B2 L.data.length b2] ([Stp.flush, Stp.rows (V.heap.size + 1) V.heap.size (6 + at_) R, Stp.flush, Stp.laid (V.heap.size + 1 + 1) L].map Stp.val) → _ := fun W4 hS =>
    j_do [.flush, .rows (V.heap.size + 1) V.heap.size (6 + at_) R, .flush, .laid (V.heap.size + 1 + 1) L] D ⟨A1, a1⟩ ⟨A2, a2⟩ w3.heap.size (some ⟨V.heap.size + 1 + 1 + 1, 0, none⟩) 4 W4 (g.below hS.below hgv) (HD.out _ (bt hB hS.below)) hf (Hap.out _ hw3) (.inr ⟨_, _, rfl, fun i u hu => by rw [hS.f.cell, Nat.zero_add]; simpa using hu⟩) (fun b off e => by injection e with e; injection e with e; omega) (by simp) (fun s hs W hgr => by
      have gk := hS.k.kept hgr (by simp; omega)
      have gl := hS.l.kept hgr (by simp; omega)
      have gp := hS.p.kept hgr (by simp; omega)
      have gc := (cc1.below hS.below).grown hgr (oc1 _ hw13)
      have gL := (HL.out _ (bt hB hS.below)).grown hgr ((HL.out _ (Below.refl _ _)).apart hw3)
      simp only [List.mem_cons, List.not_mem_nil, or_false] at hs
      rcases hs with rfl | rfl | rfl | rfl
      · exact trivial
      · exact ⟨C1, d1, gl, gk, gc, ⟨by omega, by omega⟩, by omega, fun s hs => by rw [r3 s hs]; omega⟩
      · exact trivial
      · exact ⟨⟨B1, b1⟩, ⟨B2, b2⟩, gp, gL, Hld.out, by omega⟩)
  have hS := steps_at V 3 26 28 140 (6 + at_) C1 R.length d1 #[.slice B1 L.targets.length b1, .slice B2 L.data.length b2] ([Stp.flush, Stp.rows (V.heap.size + 1) V.heap.size (6 + at_) R, Stp.flush, Stp.laid (V.heap.size + 1 + 1) L].map Stp.val)
  have hcall := hdo _ hS
  rw [comSteps_eq] at hcall
  simp only [List.map_cons, List.map_nil, Stp.val, List.length_cons, List.length_nil] at hcall hS
  generalize comSteps D (6 + at_) R L = X at hcall Hw
  obtain ⟨X, xe⟩ := X
  simp only at hcall Hw
  go_region_held3 (fun W => W.cell? ⟨w.heap.size + 1 + 1, 0, none⟩ = some (.slice B1 L.targets.length b1) ∧ W.cell? ⟨w.heap.size + 1 + 1, 1, none⟩ = some (.slice B2 L.data.length b2))
    (first | exact zk | exact blk2 ((z.drew.alloc _).alloc _) | exact blk2 (((z.drew.alloc _).alloc _).alloc _) | exact blk2 ((((z.drew.alloc _).alloc _).alloc _).alloc _) | exact blk2 ((z.below hS.below hzl).kept gr5 (by simp; omega)))
    (first | (go_at_call 79; refine (j_rows _ _ _ _ _).mono ?_; rintro e W4 ⟨rfl, rfl⟩) | (go_at_call 80; refine (j_laid _ _ _ _ _ _ _).mono ?_; rintro e W5 ⟨rfl, rfl⟩) | (go_at_call 77; refine hcall.mono ?_; rintro e W6 ⟨rfl, gr5, p5, q5, bk5, is5, og5, of5⟩))
  have y6 := (y.below hS.below y.lt).kept gr5 (by simp; omega)
  have r6 := (r.below hS.below r.lt).kept gr5 (by simp; omega)
  have s6 := (s.below hS.below s.lt).kept gr5 (by simp; omega)
  have hv4 := hS.below.size
  have B6 := below_grown (bt hB hS.below) gr5 hw3 (Nat.le_trans hB.size hv4)
  have or5 := of5 (w.heap.size + 1 + 1 + 1) (by omega) (Hap.out _ (by omega))
  have os5 := of5 (w.heap.size + 1 + 1 + 1 + 1) (by omega) (Hap.out _ (by omega))
  have Hof := hid (fun b (hb : b < w.heap.size) => of5 b (by omega))
  clear hcall hdo hS gr5 of5 xk yk zk rk sk gk rkf skf gkf x y z r s g cc1 oc1 c1 c2
  have k6 := blk6 bk5
  have ky := blk2 y6
  have kr := blk5 r6
  have fr := r6.frozen
  have ks := blk2 s6
  have fs := s6.frozen
  by_cases he : xe = 0
  · subst he
    go_wp2_with fail
    go_region
    have r7 := (blk_off2 (blk_set5 r6 (.string (bs X.data)) (.slice p5.a X.cache.length p5.c) (.int .i64 X.fuse) (.bool X.off) (.slice q5.a X.bad.length q5.c)) (g := w.heap.size + 1 + 1 + 1 + 1) (by omega) (.int .u64 ((sj : Int) + 1)) (.int .i64 (at_ + (R.length : Int)))).drew
    have s7 := (blk_set2 (blk_off5 s6 (g := w.heap.size + 1 + 1 + 1) (by omega) (.string (bs X.data)) (.slice p5.a X.cache.length p5.c) (.int .i64 X.fuse) (.bool X.off) (.slice q5.a X.bad.length q5.c)) (.int .u64 ((sj : Int) + 1)) (.int .i64 (at_ + (R.length : Int)))).drew
    have i7 := ((is5.off5 or5 (.string (bs X.data)) (.slice p5.a X.cache.length p5.c) (.int .i64 X.fuse) (.bool X.off) (.slice q5.a X.bad.length q5.c)).off (a := ⟨w.heap.size + 1 + 1 + 1 + 1, 0, none⟩) os5 (.int .u64 ((sj : Int) + 1))).off (a := ⟨w.heap.size + 1 + 1 + 1 + 1, 1, none⟩) os5 (.int .i64 (at_ + (R.length : Int)))
    have B7 := (below_set2 (below_set5 B6 (g := w.heap.size + 1 + 1 + 1) (by omega) (.string (bs X.data)) (.slice p5.a X.cache.length p5.c) (.int .i64 X.fuse) (.bool X.off) (.slice q5.a X.bad.length q5.c)) (g := w.heap.size + 1 + 1 + 1 + 1) (by omega) (.int .u64 ((sj : Int) + 1)) (.int .i64 (at_ + (R.length : Int)))).drew
    have yr := blk5 r7
    have ys := blk2 s7
    go_wp2_with fail
    refine bodyPost_ret (v := .tuple #[dval X p5 q5, .agg #[.int .u64 ((sj : Int) + 1), .int .i64 (at_ + (R.length : Int))], .int .i64 0]) (by simp [results, Tryz.results38, go_sem, yr, ys]) rfl ?_
    exact ⟨⟨p5, q5, by rw [Hw.out, if_neg (by simp)]; rfl, by rw [Hw.out, if_neg (by simp)]; exact i7.below (Below.refl _ _).drew, by rw [Hw.out, if_neg (by simp)]; exact fun b hb h => Hof.out b hb h⟩, B7⟩
  · have n1 : (xe != 0) = true := by simpa using he
    go_wp2_with fail
    go_region
    have r7 := (blk_off2 (blk_set5 r6 (.string (bs X.data)) (.slice p5.a X.cache.length p5.c) (.int .i64 X.fuse) (.bool X.off) (.slice q5.a X.bad.length q5.c)) (g := w.heap.size + 1 + 1 + 1 + 1) (by omega) (.int .u64 (sj : Int)) (.int .i64 pj)).drew
    have s7 := (blk_set2 (blk_off5 s6 (g := w.heap.size + 1 + 1 + 1) (by omega) (.string (bs X.data)) (.slice p5.a X.cache.length p5.c) (.int .i64 X.fuse) (.bool X.off) (.slice q5.a X.bad.length q5.c)) (.int .u64 (sj : Int)) (.int .i64 pj)).drew
    have i7 := ((is5.off5 or5 (.string (bs X.data)) (.slice p5.a X.cache.length p5.c) (.int .i64 X.fuse) (.bool X.off) (.slice q5.a X.bad.length q5.c)).off (a := ⟨w.heap.size + 1 + 1 + 1 + 1, 0, none⟩) os5 (.int .u64 (sj : Int))).off (a := ⟨w.heap.size + 1 + 1 + 1 + 1, 1, none⟩) os5 (.int .i64 pj)
    have B7 := (below_set2 (below_set5 B6 (g := w.heap.size + 1 + 1 + 1) (by omega) (.string (bs X.data)) (.slice p5.a X.cache.length p5.c) (.int .i64 X.fuse) (.bool X.off) (.slice q5.a X.bad.length q5.c)) (g := w.heap.size + 1 + 1 + 1 + 1) (by omega) (.int .u64 (sj : Int)) (.int .i64 pj)).drew
    have yr := blk5 r7
    have ys := blk2 s7
    go_wp2_with fail
    refine bodyPost_ret (v := .tuple #[dval X p5 q5, .agg #[.int .u64 (sj : Int), .int .i64 pj], .int .i64 xe]) (by simp [results, Tryz.results38, go_sem, yr, ys]) rfl ?_
    exact ⟨⟨p5, q5, by rw [Hw.out, if_pos he], by rw [Hw.out, if_pos he]; exact i7.below (Below.refl _ _).drew, by rw [Hw.out, if_pos he]; exact fun b hb h => Hof.out b hb h⟩, B7⟩
theorem j_commit (D : Dk) (j : Jr) (L : Pn) (p q p' q' : Pl) (w : World) (hD : IsDk w D p q) (hL : IsPn w L p' q') (hf : D.fit = true) (hfl : L.Fit) (h1 : j.seq < 18446744073709551616) (h2 : -9223372036854775808 ≤ j.pos ∧ j.pos ≤ 9223372036854775807) :
    Calls Tryz.prog 38 #[dval D p q, jval j, pval L p' q'] w fun e w' => RetJr w.heap.size D p q (jrCommit D j L) e w' ∧ Below w.heap.size w w' := by
  by_cases h0 : L.targets = []
  · exact j_commit_none D j L p q p' q' w hD h0
  · rcases Nat.lt_or_ge j.seq 4611686018427387904 with h | h
    · exact j_commit_do D j L p q p' q' w hD hL hf hfl h0 h h2
    · exact j_commit_full D j L p q p' q' w hD h0 hfl.2.1 h h1
end Go.Proofs.YtplgmlcoeehnfaaGreat
