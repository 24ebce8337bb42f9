/- Package txn: a transaction as sectors. -/
import Derived.Test.YtplgmlcoeehnfaaGreatJcTxn3
import Derived.Test.YtplgmlcoeehnfaaGreatJcRegs
import Derived.Test.YtplgmlcoeehnfaaGreatJcCrcs
import Derived.Test.YtplgmlcoeehnfaaGreatJcPlanFit
set_option linter.unusedVariables false
namespace Go.Proofs.YtplgmlcoeehnfaaGreat
open Go.RowKit Go.Shelf
attribute [local go_sem] bs_mk bs_append bs_extract bs_size bs_toList bs_get Oper.semAt_some
abbrev tval (t : Tx) (p q : Pl) : Value := .agg #[.int .u64 t.seq, .slice p.a t.plan.targets.length p.c, .slice q.a t.plan.data.length q.c]
/-- The call hands back a row of sectors of its own, and a number. -/
def RetRows (w : World) (te : TypeId) (X : List (List UInt8) × Int) (e : Ending) (w' : World) : Prop :=
  ∃ v, e = .returned (.tuple #[v, .int .i64 X.2]) ∧ w'.ownsRow w.heap.size te 1 v X.1.length (strCells X.1)
/-- The row of sectors that is being made, and the sum. -/
structure WrBox (W : World) (n₀ gl gs Vs Bp : Nat) (tl te tm : TypeId) (X : List (List UInt8)) (sm : Nat) : Prop where
  ex : ∃ g cap, Blk W gl tl #[.slice (some ⟨g, 0, none⟩) X.length cap] ∧ W.ownsRow n₀ te 1 (.slice (some ⟨g, 0, none⟩) X.length cap) X.length (strCells X) ∧ (g < Bp ∨ Vs + 5 ≤ g) ∧ cap ≤ maxLen
  sum : Blk W gs tm #[.int .u32 ((sm : Nat) : Int)]
theorem crcMore_nil {s : Nat} (h : s < 4294967296) : crcMore s [] = s := by
  unfold crcMore
  show 4294967295 - (4294967295 - s) = s
  omega
theorem wrBox_own (B n₀ gl gs Vs Bp : Nat) (tl te tm : TypeId) (X : List (List UInt8)) (sm : Nat) : OwnFrom B (fun (_ : Unit) W => WrBox W n₀ gl gs Vs Bp tl te tm X sm) := by
  rintro s Y Z row ⟨⟨g, cap, h1, h2, h3, h4⟩, h5⟩ hy hr
  exact ⟨⟨g, cap, (Own.from (blk_own _ _ (fun _ : Unit => _)) _) () Y Z row h1 hy hr, ownsRow_from h2 hy hr, h3, h4⟩, (Own.from (blk_own _ _ (fun _ : Unit => _)) _) () Y Z row h5 hy hr⟩
set_option maxRecDepth 100000 in
theorem tx_write_no (t : Tx) (p q : Pl) (w : World) (hL : IsPn w t.plan p q) (ht : ¬ t.Ok) :
    Calls Tryz.prog 76 #[tval t p q] w fun e w' => RetRows w 9 t.write e w' ∧ Below w.heap.size w w' := by
  have Hw := hid (show t.write = ([], 25) by unfold Tx.write; rw [if_neg ht])
  have hpm := hL.pm
  have hpc := hL.pc
  unfold maxLen at hpm
  have hz : ∀ W : World, W.ownsRow w.heap.size 9 1 (.slice none 0 0) 0 [] := fun W => World.ownsRow_nil _ _ _ _
  have x0 := Blk.new w 92 #[.int .u64 t.seq, .slice p.a t.plan.targets.length p.c, .slice q.a t.plan.data.length q.c]
  have hb := (Below.refl w.heap.size w).alloc (Nat.le_refl _) (.cells #[.int .u64 t.seq, .slice p.a t.plan.targets.length p.c, .slice q.a t.plan.data.length q.c] 92)
  have k0 : _ ∧ _ ∧ _ := ⟨x0.cell 0, x0.cell 1, x0.cell 2⟩
  by_cases h0 : t.plan.targets = []
  · have hl : t.plan.targets.length = 0 := by rw [h0]; rfl
    have hl' : ((t.plan.targets.length : Int) == 0) = true := by simp [hl]
    clear hl h0
    go_enter Tryz.func76, Tryz.ntmps76
    go_wp2_with fail
    go_ret2
    exact ⟨⟨_, by rw [Hw.out]; rfl, by rw [Hw.out]; exact hz _⟩, hb⟩
  · have hl := List.length_pos_iff.2 h0
    have hl' : ((t.plan.targets.length : Int) == 0) = false := by rw [beq_eq_false_iff_ne]; omega
    have hf : t.plan.fit = false := Pn.fit_no fun h => ht ⟨h, h0⟩
    have hfit := fun (W : World) (hb : Below w.heap.size w W) => pl_fit t.plan p q W (hL.below hb)
    rw [hf] at hfit
    clear hf h0
    go_enter Tryz.func76, Tryz.ntmps76
    go_wp2_with fail
    go_at_call 132
    refine (hfit _ hb).mono ?_
    rintro e w1 ⟨rfl, hb1⟩
    go_wp2_with fail
    go_ret2
    exact ⟨⟨_, by rw [Hw.out]; rfl, by rw [Hw.out]; exact hz _⟩, bt hb hb1⟩
theorem strCells_snoc (X : List (List UInt8)) (s : List UInt8) : strCells X ++ [Value.string (bs s)] = strCells (X ++ [s]) := by simp [strCells]
/-- Behind a round: the row is a sector longer. -/
theorem wr_next {w0 W U W2 W3 : World} {n₀ b4 g gg cap cap2 Vs Bp : Nat} {tl te tm : TypeId} {X Y : List (List UInt8)} {s : List UInt8} {sm sm' : Nat} (hb : Below n₀ w0 W) (hs : Vs ≤ W.heap.size) (hVz : Vs + 2 + 3 ≤ W.heap.size)
    (hU : Below W.heap.size W U) (h2 : W.ownsRow n₀ te 1 (.slice (some ⟨g, 0, none⟩) (X.length + 1) cap) (X.length + 1) (strCells ([] :: X))) (h3 : g < Bp ∨ Vs + 5 ≤ g) (gr2 : U.grownBy W2 (some g)) (hor : some g = some gg ∨ gg = U.heap.size) (hr2 : W2.ownsRow n₀ te 1 (.slice (some ⟨gg, 0, none⟩) (X.length + 1 + 1) cap2) (X.length + 1 + 1) (strCells ([] :: X) ++ [Value.string (bs s)])) (hb3 : Below W2.heap.size W2 W3)
    (e1 : Blk W3 b4 tl #[.slice (some ⟨g, 0, none⟩) (X.length + 1) cap]) (e5 : Blk W3 (b4 + 1) tm #[.int .u32 (sm : Int)]) (er : W3.ownsRow n₀ te 1 (.slice (some ⟨gg, 0, none⟩) (X.length + 1 + 1) cap2) (X.length + 1 + 1) (strCells ([] :: X) ++ [Value.string (bs s)]))
    (hn : n₀ ≤ b4) (hn2 : n₀ ≤ Vs) (hg : n₀ ≤ g) (hbV : b4 + 1 < Bp) (hBpV : Bp < Vs) (htl : tl ≠ te) (htm : tm ≠ te) (hY : Y = X ++ [s]) {Z : World} (hZ : Z = (W3.setCell ⟨b4, 0, none⟩ (.slice (some ⟨gg, 0, none⟩) (X.length + 1 + 1) cap2)).setCell ⟨b4 + 1, 0, none⟩ (.int .u32 ((sm' : Nat) : Int))) :
    KeepsFrom Vs W Z ∧ (StaysC (Vs + 2) 3 W Z ∧ KeepB n₀ [Bp] W Z) ∧ WrBox Z n₀ b4 (b4 + 1) Vs Bp tl te tm ([] :: Y) sm' ∧ Below n₀ w0 Z ∧ Vs ≤ Z.heap.size := by
  have s1 := hb.size
  have sU := hU.size
  have s2 := gr2.size
  have s3 := hb3.size
  have bz2 : ∀ k, k < W.heap.size → k ≠ g → W2.heap[k]? = W.heap[k]? := fun k hk hne => (gr2.block k (by omega) (by simpa using hne)).trans (hU.block k hk)
  have bz : ∀ k, k < W.heap.size → k ≠ g → k ≠ b4 → k ≠ b4 + 1 → Z.heap[k]? = W.heap[k]? := fun k hk hne h1 h2 => by
    rw [hZ, Below.heap_setCell _ _ _ _ h2, Below.heap_setCell _ _ _ _ h1, hb3.block k (by omega), bz2 k hk hne]
  have n1 : b4 ≠ gg := ownsRow_ne er e1 htl
  have n2 : b4 + 1 ≠ gg := ownsRow_ne er e5 htm
  have sz : Z.heap.size = W3.heap.size := by rw [hZ]; simp
  have hos : Below n₀ W Z := by
    have b1 : Below n₀ W U := hU.mono (by omega)
    have b2 : Below n₀ U W2 := ⟨gr2.os, gr2.tape, gr2.output, gr2.size, fun k hk => gr2.block k (by omega) (by simp; omega)⟩
    have b3 : Below n₀ W2 W3 := hb3.mono (by omega)
    rw [hZ]
    exact (((b1.trans b2).trans b3).setCell (p := ⟨b4, 0, none⟩) hn _).setCell (p := ⟨b4 + 1, 0, none⟩) (show n₀ ≤ b4 + 1 by omega) _
  have hgc : ∃ o : Obj, W2.heap[gg]? = some o ∧ o.isCells = true := by
    rcases hr2.2 with ⟨h', _⟩ | ⟨g', cap', cur, h', _, hg', _⟩
    · cases h'
    · injection h' with h'
      injection h' with h'
      injection h' with h'
      subst h'
      exact ⟨_, hg', rfl⟩
  refine ⟨⟨by omega, fun k o hk ho hc => ?_⟩, ⟨⟨by omega, fun k h1 h2 hk => bz k hk (by omega) (by omega) (by omega)⟩, ⟨hos, fun k hk => ?_⟩⟩, ⟨⟨gg, cap2, ?_, ?_, ?_, ?_⟩, ?_⟩, hb.trans hos, by omega⟩
  · have hlt := (Array.getElem?_eq_some_iff.1 ho).1
    by_cases hkg : k = g
    · exfalso
      rw [hkg] at ho
      rcases h2.2 with ⟨h', _⟩ | ⟨g', cap', cur, h', _, hg', _⟩
      · cases h'
      · injection h' with h'
        injection h' with h'
        injection h' with h'
        subst h'
        rw [hg'] at ho
        cases ho
        cases hc
    · rw [bz k hlt hkg (by omega) (by omega)]; exact ho
  · obtain rfl : k = Bp := by simpa using hk
    exact bz _ (by omega) (by omega) (by omega) (by omega)
  · rw [hZ, hY, List.length_cons, List.length_append, List.length_singleton]
    have := (e1.set 0 (.slice (some ⟨gg, 0, none⟩) (X.length + 1 + 1) cap2)).other (a := ⟨b4 + 1, 0, none⟩) (by simp) (.int .u32 ((sm' : Nat) : Int))
    simpa using this
  · rw [hZ, hY, List.length_cons, List.length_append, List.length_singleton, ← List.cons_append, ← strCells_snoc]
    exact ownsRow_setCell_other (ownsRow_setCell_other er (a := ⟨b4, 0, none⟩) (by simpa [Value.ownBlock] using n1.symm) _) (a := ⟨b4 + 1, 0, none⟩) (by simpa [Value.ownBlock] using n2.symm) _
  · rcases hor with h | h
    · injection h with h; subst h; exact h3
    · right; omega
  · rcases er.2 with ⟨h', _⟩ | ⟨g', cap', cur, h', _, _, _, h1, _⟩
    · cases h'
    · injection h' with _ _ h'; subst h'; exact h1
  · rw [hZ]
    have := (e5.other (a := ⟨b4, 0, none⟩) (by simp) (.slice (some ⟨gg, 0, none⟩) (X.length + 1 + 1) cap2)).set 0 (.int .u32 ((sm' : Nat) : Int))
    simpa using this
/-- The act in which a sector's round begins. -/
def wrAct (t : Tx) (p q : Pl) (b b3 b4 b5 : Nat) (s : List UInt8) : Act :=
  { tmps := #[tval t p q, .pointer (some ⟨b, 0, none⟩), .slice none 0 0, .int .i64 0, .int .i64 t.plan.targets.length, .string (bs t.head), .pointer (some ⟨b4, 0, none⟩), .pointer (some ⟨b4 + 1, 0, none⟩), .string (bs s),
      .pointer (some ⟨b, 1, none⟩), .pointer (some ⟨b, 1, none⟩), .slice p.a t.plan.targets.length p.c, .int .i64 t.plan.targets.length, .int .i64 t.plan.targets.length, .bool false, .bool false, .pointer (some ⟨b, 1, none⟩),
      .agg #[.slice p.a t.plan.targets.length p.c, .slice q.a t.plan.data.length q.c], .bool true, .bool false, .bool false, .pointer (some ⟨b, 0, none⟩), .int .u64 t.seq, .string (bs (be 8 t.seq)), .int .i64 t.plan.targets.length, .string (bs (be 2 t.plan.targets.length)), .string (bs t.head),
      .slice (some ⟨b3, 0, none⟩) 1 1, .string (bs t.head), .int .u32 ((crcOf t.head : Nat) : Int), .pointer (some ⟨b, 1, none⟩), .agg #[.slice p.a t.plan.targets.length p.c, .slice q.a t.plan.data.length q.c], .func (.func 190) #[] #[.pointer (some ⟨b5, 0, none⟩)],
      .string (bs s), undef, undef, undef, undef, undef, undef, undef, undef, undef, undef, undef, undef, undef, undef, undef, undef, undef, undef, undef, undef], defers := [] }
set_option maxRecDepth 100000 in
set_option maxHeartbeats 2000000 in
theorem tx_write_yes (t : Tx) (p q : Pl) (w : World) (hL : IsPn w t.plan p q) (hs : t.seq < 18446744073709551616) (ht : t.Ok) :
    Calls Tryz.prog 76 #[tval t p q] w fun e w' => RetRows w 9 t.write e w' ∧ Below w.heap.size w w' := by
  have Hw := hid (show t.write = (t.rows, 0) by unfold Tx.write; rw [if_pos ht])
  have Hok := hid ht
  have hpm := hL.pm
  have hpc := hL.pc
  unfold maxLen at hpm
  have hl := List.length_pos_iff.2 ht.2
  have hl24 := ht.1.2.1
  have hl' : ((t.plan.targets.length : Int) == 0) = false := by rw [beq_eq_false_iff_ne]; omega
  have hLW := fun (W : World) (hb : Below w.heap.size w W) => (hL.below hb : IsPn W t.plan p q)
  have hf : t.plan.fit = true := Pn.fit_iff.2 ht.1
  have hfit := fun (W : World) (hb : Below w.heap.size w W) => pl_fit t.plan p q W (hLW W hb)
  rw [hf] at hfit
  clear hf hL
  have hb := (Below.refl w.heap.size w).alloc (Nat.le_refl _) (.cells #[.int .u64 t.seq, .slice p.a t.plan.targets.length p.c, .slice q.a t.plan.data.length q.c] 92)
  have x0 := Blk.new w 92 #[.int .u64 t.seq, .slice p.a t.plan.targets.length p.c, .slice q.a t.plan.data.length q.c]
  have k0 : _ ∧ _ ∧ _ := ⟨x0.cell 0, x0.cell 1, x0.cell 2⟩
  have hn8 : ∀ W, Calls Tryz.prog 133 #[.int .u64 t.seq, .int .i64 8] W fun e w' => e = .returned (.string (bs (be 8 t.seq))) ∧ Below W.heap.size W w' := fun W => tx_num_u t.seq hs 8 (by omega) (by omega) W
  have hn2 : ∀ W, Calls Tryz.prog 134 #[.int .i64 t.plan.targets.length, .int .i64 2] W fun e w' => e = .returned (.string (bs (be 2 t.plan.targets.length))) ∧ Below W.heap.size W w' := fun W => tx_num_i t.plan.targets.length (by omega) 2 (by omega) (by omega) W
  have hhd : be 8 t.seq ++ be 2 t.plan.targets.length = t.head := rfl
  have hhl := t.head_length
  have hof := fun W => crc_of t.head (by rw [hhl]; decide) W
  refine (callsIn_wide (n := 6)).1 (callsIn_of_wp_marks Tryz.func76 rfl trivial (wpIn_wide.2 ?_) rfl)
  simp only [Tryz.ntmps76, List.size_toArray, List.length_cons, List.length_nil, Nat.reduceAdd, Nat.reduceSub, Array.replicate_succ, Array.replicate_zero, List.push_toArray, List.append_toArray, List.nil_append, List.cons_append]
  go_wp2_with fail
  go_at_call 132
  refine (hfit _ hb).mono ?_
  rintro e w1 ⟨rfl, hb1⟩
  have x1 := x0.below hb1 x0.lt
  have b1 := bt hb hb1
  have k1 : _ ∧ _ ∧ _ := ⟨x1.cell 0, x1.cell 1, x1.cell 2⟩
  clear k0
  go_wp2_with fail
  go_at_call 133
  refine (hn8 _).mono ?_
  rintro e w2 ⟨rfl, hb2⟩
  have x2 := x1.below hb2 x1.lt
  have b2 := bt b1 hb2
  clear k1
  go_wp2_with fail
  go_at_call 134
  refine (hn2 _).mono ?_
  rintro e w3 ⟨rfl, hb3⟩
  have x3 := x2.below hb3 x2.lt
  have b3 := bt b2 hb3
  have r3 := World.ownsRow_lit (base := w.heap.size) (e := 9) (size := 1) w3 #[.string (bs [])] 1 b3.size (by unfold maxLen; omega) rfl
  have b3' := b3.alloc b3.size (.cells #[.string (bs [])] 9)
  have x3' := x3.alloc (.cells #[.string (bs [])] 9)
  have g3 : w3.heap.size < (w3.alloc (.cells #[.string (bs [])] 9)).heap.size := by simp
  go_wp2_with fail
  generalize w3.alloc (.cells #[.string (bs [])] 9) = V3 at *
  go_at_call 135
  refine (hof _).mono ?_
  rintro e w4 ⟨rfl, hb4⟩
  have r4 := r3.kept (row := none) ⟨hb4.os, hb4.tape, hb4.output, hb4.size, fun k hk _ => hb4.block k hk⟩ (by simp [Value.ownBlock])
  have x4 := x3'.below hb4 x3'.lt
  have b4 := bt b3' hb4
  have bl := (Blk.new w4 26 #[.slice (some ⟨w3.heap.size, 0, none⟩) 1 1]).alloc (.cells #[.int .u32 ((crcOf t.head : Nat) : Int)] 35)
  have bm := blk_second w4 (.cells #[.slice (some ⟨w3.heap.size, 0, none⟩) 1 1] 26) 35 #[.int .u32 ((crcOf t.head : Nat) : Int)]
  have x5 := (x4.alloc (.cells #[.slice (some ⟨w3.heap.size, 0, none⟩) 1 1] 26)).alloc (.cells #[.int .u32 ((crcOf t.head : Nat) : Int)] 35)
  have r5 := (r4.alloc (.cells #[.slice (some ⟨w3.heap.size, 0, none⟩) 1 1] 26)).alloc (.cells #[.int .u32 ((crcOf t.head : Nat) : Int)] 35)
  have b5 := (b4.alloc b4.size (.cells #[.slice (some ⟨w3.heap.size, 0, none⟩) 1 1] 26)).alloc (Nat.le_trans b4.size (by simp)) (.cells #[.int .u32 ((crcOf t.head : Nat) : Int)] 35)
  have k5 : _ ∧ _ ∧ _ := ⟨x5.cell 0, x5.cell 1, x5.cell 2⟩
  have g4 := hb4.size
  have gb4 := b4.size
  have hwl := x0.lt
  have g5 : w4.heap.size + 1 < ((w4.alloc (.cells #[.slice (some ⟨w3.heap.size, 0, none⟩) 1 1] 26)).alloc (.cells #[.int .u32 ((crcOf t.head : Nat) : Int)] 35)).heap.size := bm.lt
  clear r3 x3' b3'
  go_wp2_with fail
  generalize ((w4.alloc (.cells #[.slice (some ⟨w3.heap.size, 0, none⟩) 1 1] 26)).alloc (.cells #[.int .u32 ((crcOf t.head : Nat) : Int)] 35)) = V5 at *
  go_at_call 136
  refine (callsIn_wide.1 (behind_in 5 t.plan p q _)).mono ?_
  rintro e w' ⟨rfl, rfl⟩
  have bp := Blk.new V5 28 #[.slice p.a t.plan.targets.length p.c, .slice q.a t.plan.data.length q.c]
  have bl6 := bl.alloc (.cells #[.slice p.a t.plan.targets.length p.c, .slice q.a t.plan.data.length q.c] 28)
  have bm6 := bm.alloc (.cells #[.slice p.a t.plan.targets.length p.c, .slice q.a t.plan.data.length q.c] 28)
  have r6 := r5.alloc (.cells #[.slice p.a t.plan.targets.length p.c, .slice q.a t.plan.data.length q.c] 28)
  have b6 := b5.alloc b5.size (.cells #[.slice p.a t.plan.targets.length p.c, .slice q.a t.plan.data.length q.c] 28)
  have g6 : V5.heap.size < (V5.alloc (.cells #[.slice p.a t.plan.targets.length p.c, .slice q.a t.plan.data.length q.c] 28)).heap.size := bp.lt
  clear bl bm x5 r5 b5 k5
  go_wp2_with fail
  generalize V5.alloc (.cells #[.slice p.a t.plan.targets.length p.c, .slice q.a t.plan.data.length q.c] 28) = V at *
  obtain ⟨R, hR⟩ : ∃ R, t.rest = R := ⟨_, rfl⟩
  have hRl : ∀ s ∈ R, s.length = 64 := by rw [← hR]; exact Tx.rest_64 ht
  have hRn : R.length ≤ 50 := by
    have h1 := Tx.rest_length ht
    rw [hR] at h1
    have h2 : txSize t.plan.targets.length ≤ 50 := by unfold txSize; split <;> omega
    omega
  have n1 : 1 ≤ 6 := by omega
  have gb6 := b6.size
  have hc0 : crcOf t.head < 4294967296 := crcMore_lt 0 t.head
  refine (wpIn_wide (n := 6)).1 ?_
  refine range_c rfl n1 (gf := 190) (lb := #[.pointer (some ⟨V5.heap.size, 0, none⟩)]) rfl trivial (enters_of Tryz.func190 (by kernel_rfl) rfl)
    (behind_stops 5 (by omega) t.plan p q hl hl24 (by have := ht.1.1; omega) (fun x hx => by obtain ⟨i, hi, rfl⟩ := List.getElem_of_mem hx; exact (ht.1.2.2.1 i hi).1) R hR w.heap.size _ V b6.size (fun W hb => hLW W (b6.trans hb)) bp)
    KeepB.trans (fun W l o o' q1 q2 q3 q4 => KeepB.putObj o' (by omega) (fun g hg => by
      simp only [List.mem_cons, List.not_mem_nil, or_false] at hg
      omega)) (Below.refl _ _) (fun _ => rfl)
    (fun pre W => WrBox W w.heap.size w4.heap.size (w4.heap.size + 1) V.heap.size V5.heap.size 26 9 35 ([] :: picked R pre) (crcMore (crcOf t.head) (picked R pre).flatten) ∧ Below w.heap.size w W ∧ V.heap.size ≤ W.heap.size)
    (fun c pre W => False)
    ?hI ?hIx ?h0
    (fun y a' W => a' = wrAct t p q w.heap.size w3.heap.size w4.heap.size V5.heap.size R[y.val])
    (fun _ _ _ _ _ _ hs _ _ => hs) ?assign ?body ?done ?stop
  case hI =>
    rintro pre X Y row ⟨h1, h3, h4⟩ hy hr
    exact ⟨wrBox_own _ _ _ _ _ _ _ _ _ _ _ () X Y row h1 hy hr, ownFrom_below (β := Unit) (Nat.le_refl _) b6.size () X Y row h3 hy hr, Nat.le_trans h4 hy.size⟩
  case hIx =>
    rintro c pre X Y row h0 hy hr
    exact h0
  case h0 => exact ⟨⟨⟨w3.heap.size, 1, bl6, r6, .inl (by omega), by unfold maxLen; omega⟩, by rw [show (picked R []).flatten = [] from rfl, crcMore_nil hc0]; exact bm6⟩, b6, Nat.le_refl _⟩
  case assign =>
    rintro l pre y W K hI hK
    dsimp only [rowEnc]
    gi_wp2
    exact hK _ _ (KeepsFrom.refl _ _) (StaysC.refl _ _ _) (KeepB.refl _ _ _) hI rfl
  case body =>
    rintro l pre y a' W ⟨⟨⟨g, cap, h1, h2, h3, h4⟩, h5⟩, hb, hs⟩ rfl hpl hVz
    obtain ⟨s, hse⟩ : ∃ s, R[y.val] = s := ⟨_, rfl⟩
    have hs64 : s.length = 64 := by rw [← hse]; exact hRl _ (List.getElem_mem _)
    have hnx := hid (show picked R (pre ++ [y]) = picked R pre ++ [s] by rw [picked_snoc, hse])
    have hpll : (picked R pre).length = pre.length := by simp [picked]
    generalize hX : picked R pre = X at *
    rw [hse]
    have hsm := crcMore_lt (crcOf t.head) X.flatten
    have hsn := hid (show crcMore (crcMore (crcOf t.head) X.flatten) s = crcMore (crcOf t.head) (X ++ [s]).flatten by rw [crcMore_append hc0]; simp)
    generalize crcMore (crcOf t.head) X.flatten = sm at *
    have hmo := fun W => crc_more sm hsm s (by omega) W
    rw [hsn.out] at hmo
    obtain ⟨i2, j2, jz1, jz2, jz3⟩ := info_parts Tryz.infoStrP
    have gW := hb.size
    have ngl : w4.heap.size ≠ g := ownsRow_ne h2 h1 (by decide)
    have ngs : w4.heap.size + 1 ≠ g := ownsRow_ne h2 h5 (by decide)
    have hlen : ([] :: X : List (List UInt8)).length = X.length + 1 := rfl
    rw [hlen] at h1 h2
    have hb0 : Below W.heap.size W W.drew := (Below.refl _ _).drew
    have hd2 := ownsRow_below h2 hb0
    have hd1 := h1.below hb0 h1.lt
    have hd5 := h5.below hb0 h5.lt
    have s0 : W.drew.cell? ⟨w4.heap.size, 0, none⟩ = some (.slice (some ⟨g, 0, none⟩) (X.length + 1) cap) ∧ W.drew.cell? ⟨w4.heap.size + 1, 0, none⟩ = some (.int .u32 (sm : Int)) := ⟨blk1 hd1, blk1 hd5⟩
    unfold wrAct
    gi_wp2_with fail
    refine wpIn_region_any_round mixed (by kernel_rfl) (by rintro ⟨a, w', h⟩; exact h) (wpAny_of_late (S := fun W => W.cell? ⟨w4.heap.size + 1, 0, none⟩ = some (.int .u32 (sm : Int))) (late := fun i => i == 8) _ _ _ _ ?_)
    show wpLate _ _ _ _ _ _ _ _ _ W.drew
    generalize hVd : W.drew = V0 at *
    simp only [List.size_toArray, List.length_cons, List.length_nil, Nat.reduceAdd, Array.replicate_succ, Array.replicate_zero, List.push_toArray, List.nil_append, List.cons_append]
    refine wpLate_take (i := 4) (oi := _) (v := .int .u32 (sm : Int)) (d := some 38) rfl rfl (by kernel_rfl) (by kernel_rfl) (by kernel_rfl) (by kernel_rfl) (fun _ _ _ h => h) rfl (fun W hW => by have h := hW; go_simp) s0.2 ?_
    simp only [Act.put, List.setIfInBounds_toArray, List.set_cons_zero, List.set_cons_succ]
    refine wpLate_take0 (i := 1) (oi := _) (v := .string (bs s)) (d := some 35) rfl rfl (by kernel_rfl) (by kernel_rfl) (by kernel_rfl) (fun _ _ _ h => h) rfl (fun W => by rfl) ?_
    simp only [Act.put, List.setIfInBounds_toArray, List.set_cons_zero, List.set_cons_succ]
    refine wpLate_take0 (i := 5) (oi := _) (v := .string (bs s)) (d := some 39) rfl rfl (by kernel_rfl) (by kernel_rfl) (by kernel_rfl) (fun _ _ _ h => h) rfl (fun W => by rfl) ?_
    simp only [Act.put, List.setIfInBounds_toArray, List.set_cons_zero, List.set_cons_succ]
    have q0 := Blk.new V0 9 #[.string (bs s)]
    have q1 := hd1.alloc (.cells #[.string (bs s)] 9)
    have q5 := hd5.alloc (.cells #[.string (bs s)] 9)
    have qr := hd2.alloc (.cells #[.string (bs s)] 9)
    have qb := (Below.refl V0.heap.size V0).alloc (Nat.le_refl _) (.cells #[.string (bs s)] 9)
    have q1c := blk1 q1
    have q5c := blk1 q5
    refine wpLate_two (i := 0) (k := 2) (by kernel_rfl) rfl rfl rfl rfl (fun K hK => ?_) (fun K hK => ?_)
    · refine oper_ran (v := .slice (some ⟨g, 0, none⟩) (X.length + 1) cap) (w' := V0) (by have h := s0.1; go_simp) ?_
      show K (Act.put _ (some 34) _) _
      refine hK _ _ (fun _ h => h) ?_
      simp only [Act.put, List.setIfInBounds_toArray, List.set_cons_zero, List.set_cons_succ]
      refine wpLate_one (i := 2) (by kernel_rfl) rfl rfl (fun K hK => ?_)
      refine oper_ran (v := .slice (some ⟨V0.heap.size, 0, none⟩) 1 1) (w' := V0.alloc (.cells #[.string (bs s)] 9)) (by go_simp) ?_
      show K (Act.put _ (some 36) _) _
      refine hK _ _ (fun _ _ => q5c) ?_
      simp only [Act.put, List.setIfInBounds_toArray, List.set_cons_zero, List.set_cons_succ]
      generalize hU : V0.alloc (.cells #[.string (bs s)] 9) = U at *
      refine wpLate_one (i := 3) (by kernel_rfl) rfl rfl (fun K hK => ?_)
      refine wp_append_lies _ (.tmp 34) (.tmp 36) 26 rfl w.heap.size 9 i2 (.string ⟨#[]⟩) 1 16 Tryz.underlying26 j2 jz1 jz2 jz3 rfl (by decide) _ (X.length + 1) (strCells ([] :: X)) rfl qr ⟨V0.heap.size, 0, none⟩ 1 1 [.string (bs s)] rfl rfl (World.news_of_block q0) (by simp [Value.oneCell']) (by omega) (by unfold maxLen; omega) (by omega) (by have := qb.size; have := hb0.size; omega) _ rfl ?_
      intro gg cap2 W2 hr2 gr2 hor hlt
      have gr2 : U.grownBy W2 (some g) := gr2
      have c1 := q1.kept gr2 (by simpa using ngl)
      have c5 := q5.kept gr2 (by simpa using ngs)
      have c1c := blk1 c1
      have c5c := blk1 c5
      show K (Act.put _ (some 37) _) _
      refine hK _ _ (fun _ _ => c5c) ?_
      simp only [Act.put, List.setIfInBounds_toArray, List.set_cons_zero, List.set_cons_succ]
      refine wpLate_one (i := 6) (by kernel_rfl) rfl rfl (fun K hK => ?_)
      refine oper_enter' (f := 137) (args := #[.int .u32 (sm : Int), .string (bs s)]) (w' := W2) (by go_simp) ((hmo W2).mono ?_)
      rintro e W3 ⟨rfl, hb3⟩
      have e1 := c1.below hb3 c1.lt
      have e5 := c5.below hb3 c5.lt
      have er := ownsRow_below hr2 hb3
      have e1c := blk1 e1
      have e5c := blk1 e5
      have e1f := e1.frozen
      have e5f := e5.frozen
      refine ⟨_, rfl, ?_⟩
      show K (Act.put _ (some 40) _) _
      refine hK _ _ (fun _ _ => e5c) ?_
      simp only [Act.put, List.setIfInBounds_toArray, List.set_cons_zero, List.set_cons_succ]
      have f1 := e1.set 0 (Value.slice (some ⟨gg, 0, none⟩) (X.length + 1 + 1) cap2)
      have f5 := e5.other (a := ⟨w4.heap.size, 0, none⟩) (by simp) (Value.slice (some ⟨gg, 0, none⟩) (X.length + 1 + 1) cap2)
      have f5c := blk1 f5
      have f5f := f5.frozen
      refine wpLate_one (i := 7) (by kernel_rfl) rfl rfl (fun K hK => ?_)
      refine oper_skip (w' := W3.setCell ⟨w4.heap.size, 0, none⟩ (Value.slice (some ⟨gg, 0, none⟩) (X.length + 1 + 1) cap2)) (by go_simp) ?_
      show K (Act.put _ none _) _
      refine hK _ _ (fun _ _ => f5c) ?_
      try simp only [Act.put, List.setIfInBounds_toArray, List.set_cons_zero, List.set_cons_succ]
      refine wpLate_one (i := 8) (by kernel_rfl) rfl rfl (fun K hK => ?_)
      refine oper_skip (w' := (W3.setCell ⟨w4.heap.size, 0, none⟩ (Value.slice (some ⟨gg, 0, none⟩) (X.length + 1 + 1) cap2)).setCell ⟨w4.heap.size + 1, 0, none⟩ (.int .u32 ((crcMore (crcOf t.head) (X ++ [s]).flatten : Nat) : Int))) (by go_simp) ?_
      show K (Act.put _ none _) _
      refine hK _ _ (fun h => by cases h) ?_
      try simp only [Act.put, List.setIfInBounds_toArray, List.set_cons_zero, List.set_cons_succ]
      refine wpLate_done (by kernel_rfl) ?_ _
      exact wr_next hb hs hVz (bt hb0 qb) h2 h3 gr2 hor hr2 hb3 e1 e5 er (by omega) (by omega) (h2.lt g rfl).1 (by omega) (by omega) (by decide) (by decide) hnx.out (by rw [hnx.out])
    · refine oper_ran (v := .slice (some ⟨V0.heap.size, 0, none⟩) 1 1) (w' := V0.alloc (.cells #[.string (bs s)] 9)) (by go_simp) ?_
      show K (Act.put _ (some 36) _) _
      refine hK _ _ (fun _ _ => q5c) ?_
      simp only [Act.put, List.setIfInBounds_toArray, List.set_cons_zero, List.set_cons_succ]
      refine wpLate_one (i := 0) (by kernel_rfl) rfl rfl (fun K hK => ?_)
      refine oper_ran (v := .slice (some ⟨g, 0, none⟩) (X.length + 1) cap) (w' := V0.alloc (.cells #[.string (bs s)] 9)) (by go_simp) ?_
      show K (Act.put _ (some 34) _) _
      refine hK _ _ (fun _ h => h) ?_
      simp only [Act.put, List.setIfInBounds_toArray, List.set_cons_zero, List.set_cons_succ]
      generalize hU : V0.alloc (.cells #[.string (bs s)] 9) = U at *
      refine wpLate_one (i := 3) (by kernel_rfl) rfl rfl (fun K hK => ?_)
      refine wp_append_lies _ (.tmp 34) (.tmp 36) 26 rfl w.heap.size 9 i2 (.string ⟨#[]⟩) 1 16 Tryz.underlying26 j2 jz1 jz2 jz3 rfl (by decide) _ (X.length + 1) (strCells ([] :: X)) rfl qr ⟨V0.heap.size, 0, none⟩ 1 1 [.string (bs s)] rfl rfl (World.news_of_block q0) (by simp [Value.oneCell']) (by omega) (by unfold maxLen; omega) (by omega) (by have := qb.size; have := hb0.size; omega) _ rfl ?_
      intro gg cap2 W2 hr2 gr2 hor hlt
      have gr2 : U.grownBy W2 (some g) := gr2
      have c1 := q1.kept gr2 (by simpa using ngl)
      have c5 := q5.kept gr2 (by simpa using ngs)
      have c1c := blk1 c1
      have c5c := blk1 c5
      show K (Act.put _ (some 37) _) _
      refine hK _ _ (fun _ _ => c5c) ?_
      simp only [Act.put, List.setIfInBounds_toArray, List.set_cons_zero, List.set_cons_succ]
      refine wpLate_one (i := 6) (by kernel_rfl) rfl rfl (fun K hK => ?_)
      refine oper_enter' (f := 137) (args := #[.int .u32 (sm : Int), .string (bs s)]) (w' := W2) (by go_simp) ((hmo W2).mono ?_)
      rintro e W3 ⟨rfl, hb3⟩
      have e1 := c1.below hb3 c1.lt
      have e5 := c5.below hb3 c5.lt
      have er := ownsRow_below hr2 hb3
      have e1c := blk1 e1
      have e5c := blk1 e5
      have e1f := e1.frozen
      have e5f := e5.frozen
      refine ⟨_, rfl, ?_⟩
      show K (Act.put _ (some 40) _) _
      refine hK _ _ (fun _ _ => e5c) ?_
      simp only [Act.put, List.setIfInBounds_toArray, List.set_cons_zero, List.set_cons_succ]
      have f1 := e1.set 0 (Value.slice (some ⟨gg, 0, none⟩) (X.length + 1 + 1) cap2)
      have f5 := e5.other (a := ⟨w4.heap.size, 0, none⟩) (by simp) (Value.slice (some ⟨gg, 0, none⟩) (X.length + 1 + 1) cap2)
      have f5c := blk1 f5
      have f5f := f5.frozen
      refine wpLate_one (i := 7) (by kernel_rfl) rfl rfl (fun K hK => ?_)
      refine oper_skip (w' := W3.setCell ⟨w4.heap.size, 0, none⟩ (Value.slice (some ⟨gg, 0, none⟩) (X.length + 1 + 1) cap2)) (by go_simp) ?_
      show K (Act.put _ none _) _
      refine hK _ _ (fun _ _ => f5c) ?_
      try simp only [Act.put, List.setIfInBounds_toArray, List.set_cons_zero, List.set_cons_succ]
      refine wpLate_one (i := 8) (by kernel_rfl) rfl rfl (fun K hK => ?_)
      refine oper_skip (w' := (W3.setCell ⟨w4.heap.size, 0, none⟩ (Value.slice (some ⟨gg, 0, none⟩) (X.length + 1 + 1) cap2)).setCell ⟨w4.heap.size + 1, 0, none⟩ (.int .u32 ((crcMore (crcOf t.head) (X ++ [s]).flatten : Nat) : Int))) (by go_simp) ?_
      show K (Act.put _ none _) _
      refine hK _ _ (fun h => by cases h) ?_
      try simp only [Act.put, List.setIfInBounds_toArray, List.set_cons_zero, List.set_cons_succ]
      refine wpLate_done (by kernel_rfl) ?_ _
      exact wr_next hb hs hVz (bt hb0 qb) h2 h3 gr2 hor hr2 hb3 e1 e5 er (by omega) (by omega) (h2.lt g rfl).1 (by omega) (by omega) (by decide) (by decide) hnx.out (by rw [hnx.out])
  case done =>
    rintro Dd ys W hDd hS ⟨⟨⟨g, cap, h1, h2, h3, h4⟩, h5⟩, hb, hs⟩ hK
    rw [hS] at h1 h2 h5
    have hsum : crcMore (crcOf t.head) R.flatten = crcOf (t.head ++ R.flatten) := crcMore_append (by omega) _ _
    rw [hsum] at h5
    have hcl : crcOf (t.head ++ R.flatten) < 4294967296 := crcMore_lt _ _
    have Hfin := hid (show t.write = ((pad64 (magicJ ++ t.head ++ be 2 (65535 - t.plan.targets.length) ++ be 4 (crcOf (t.head ++ R.flatten)))) :: R, 0) by rw [Hw.out, Tx.rows, Tx.top, hR, headRow])
    generalize crcOf (t.head ++ R.flatten) = cs at *
    have hsub : (65535 : Int) - (t.plan.targets.length : Int) = ((65535 - t.plan.targets.length : Nat) : Int) := by omega
    have X1 := fun e : Ext W => e.cell (blk1 h1)
    have X5 := fun e : Ext W => e.cell (blk1 h5)
    have D1 : ∀ e : Ext W, Calls Tryz.prog 134 #[.int .i64 ((65535 - t.plan.targets.length : Nat) : Int), .int .i64 2] e.world fun x w' => x = .returned (.string (bs (be 2 (65535 - t.plan.targets.length)))) ∧ Below e.world.heap.size e.world w' := fun e => tx_num_i (65535 - t.plan.targets.length) (by omega) 2 (by omega) (by omega) e.world
    have D2 := fun e : Ext W => crc_bytes cs hcl e.world
    have D3 := fun (e : Ext W) (z : List UInt8) (hz : z.length ≤ 64) => tx_pad z hz e.world
    have lb2 := be_length 2 (65535 - t.plan.targets.length)
    have lb4 := be_length 4 cs
    have w65 := i64w (x := ((65535 - t.plan.targets.length : Nat) : Int)) ⟨by omega, by omega⟩
    have hgl : g < W.heap.size := (h2.lt g rfl).2
    have hdne : Dd ≠ g := by
      rintro rfl
      rcases h2.2 with ⟨h', _⟩ | ⟨g', cap', cur, h', _, hg', _⟩
      · cases h'
      · injection h' with h'
        injection h' with h'
        injection h' with h'
        subst h'
        rw [hg'] at hK
        cases hK
    have ngl : w4.heap.size ≠ g := ownsRow_ne h2 h1 (by decide)
    have hDl := (Array.getElem?_eq_some_iff.1 hK).1
    clear hS h5 x4 b4 hb4 hof hn2 hn8
    go_wp2_with fail
    refine wp_region_ext_tail_then 11 mixed (by kernel_rfl) ?_
    simp only [List.take_succ_cons, List.take_zero, List.drop_succ_cons, List.drop_zero]
    repeat (go_big_quiet_step ((first | (go_at_call 134; with_reducible exact ext_of (D1 _)) | (go_at_call 139; with_reducible exact ext_of (D2 _)) | (go_at_call 138; exact ext_of (D3 _ _ (by simp [hhl, lb2, lb4]))))))
    refine wpQuiet_nil ?_
    rintro W2 ⟨pq_, hpq_⟩
    have hb2 := pq_.below
    rw [← hpq_] at hb2
    clear hpq_ pq_
    have r2 := ownsRow_below h2 hb2
    have f1 := h1.below hb2 h1.lt
    have f1c := blk1 f1
    have rc := r2.cellAt 0 (by simp)
    have rf := r2.frozenAt 0
    simp only [strCells, List.map_cons, List.getElem?_cons_zero] at rc
    go_wp2_with fail
    obtain ⟨st1, st2⟩ := r2.stored 0 (.string (bs (pad64 (67 :: 79 :: 70 :: 74 :: (t.head ++ (be 2 (65535 - t.plan.targets.length) ++ be 4 cs))))))
    have hK2 : (W2.setCell ⟨g, 0, none⟩ (.string (bs (pad64 (67 :: 79 :: 70 :: 74 :: (t.head ++ (be 2 (65535 - t.plan.targets.length) ++ be 4 cs))))))).heap[Dd]? = some (.deferred (some [])) :=
      (Below.heap_setCell _ _ _ _ hdne).trans ((hb2.block Dd hDl).trans hK)
    refine ⟨by simp, .inl ⟨_, _, rfl, run_takeDeferred hK2, ?_⟩⟩
    refine ⟨.tuple #[.slice (some ⟨g, 0, none⟩) (R.length + 1) cap, .int .i64 0], by simp [results, Tryz.results76, go_sem], ⟨_, by rw [Hfin.out], ?_⟩, ?_⟩
    · rw [Hfin.out]
      have h := ownsRow_putObj st1 (.deferred none) hK2 rfl
      have e : (strCells ([] :: R)).set 0 (.string (bs (pad64 (67 :: 79 :: 70 :: 74 :: (t.head ++ (be 2 (65535 - t.plan.targets.length) ++ be 4 cs)))))) = strCells (pad64 (magicJ ++ t.head ++ be 2 (65535 - t.plan.targets.length) ++ be 4 cs) :: R) := by
        simp [strCells, magicJ]
      rw [e] at h
      exact h
    · exact (((hb.trans (hb2.mono hb.size)).setCell (p := ⟨g, 0, none⟩) (h2.lt g rfl).1 _)).trans (belowK_b (w := w) (Nat.le_refl _) _ Dd _ _ (by omega) hK2 rfl rfl)
  case stop =>
    rintro Dd c pre V hDd hpre hf
    exact hf.elim
end Go.Proofs.YtplgmlcoeehnfaaGreat
