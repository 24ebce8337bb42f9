/- What turns of one block leave of all else. Package root, ref10: plans with another root. Package ref10: rows of snapshots held against each other. Package root, ref10: dirty bitmaps; a bitmap's place. Dirty bitmaps in memory: a block of 66 cells, read and written whole. Package root: bytes as a dirty bitmap. Package root: all dirty bitmaps of an image. Package plan: the sectors of a plan, one by one. Package plan: a plan laid on a device. -/
import Derived.Test.YtlapjkbefkmohaaGreatSdPlain1
import Derived.Test.YtlapjkbefkmohaaGreatSdRegs
import Derived.Test.YtlapjkbefkmohaaGreatSdRoot3
import Derived.Test.YtlapjkbefkmohaaGreatSdPlan9
import Derived.Deep.DeepCutAuto
import Derived.DeepKeys
import Derived.Deep.MidRow
import Derived.Lib.ConvBytes
import Derived.Laws.BitsAllLaws
import Derived.Test.YtlapjkbefkmohaaGreatSdDev2
import Derived.Test.YtlapjkbefkmohaaGreatProg
import Derived.WalkMore
import Derived.Lib.LazyBuf
import Derived.StillTailTactics
import Derived.BigQuiet
set_option linter.unusedVariables false
namespace Go.Proofs.YtlapjkbefkmohaaGreat
open Go.RowKit Go.Shelf
/-! ### What one block's turns leave -/
theorem Cells.grown {w w' : World} {A : Option Addr} {cs : List Value} {G n : Nat} (h : Cells w A cs) (hg : w.grownBy w' (some G)) (ho : Off G A n) (hn : n = 0 → cs = []) : Cells w' A cs := by
 rcases ho with h0 | ho
 · exact .inl (hn h0)
 rcases h with h | ⟨b, off, e, hc⟩
 · exact .inl h
 · refine .inr ⟨b, off, e, fun j u hu => ?_⟩
   have h1 := hc j u hu
   have h2 := lt_of_cell h1
   rw [World.cell?_of_block (w := w) (a := ⟨b, off + j, none⟩) (hg.block b h2 (by intro e'; injection e' with e'; exact ho b off e e'))]
   exact h1
theorem IsPn.grown {w w' : World} {L : Pn} {p q : Pl} {G : Nat} (h : IsPn w L p q) (hg : w.grownBy w' (some G)) (ho : PnOff G L p q) : IsPn w' L p q :=
 { h with targets := h.targets.grown hg ho.1 (fun e => by rw [List.length_eq_zero_iff.1 e]; rfl), data := h.data.grown hg ho.2 (fun e => by rw [List.length_eq_zero_iff.1 e]; rfl) }
theorem IsDk.grown {w w' : World} {D : Dk} {p q : Pl} {G : Nat} (h : IsDk w D p q) (hg : w.grownBy w' (some G)) (ho : DkOff G D p q) : IsDk w' D p q :=
 { h with cache := h.cache.grown hg ho.1 (fun e => by rw [List.length_eq_zero_iff.1 e]; rfl), bad := h.bad.grown hg ho.2 (fun e => by rw [List.length_eq_zero_iff.1 e]; rfl) }
theorem grown_of {w w' : World} (h : Below w.heap.size w w') (G : Nat) : w.grownBy w' (some G) := ⟨h.os, h.tape, h.output, h.size, fun k hk _ => h.block k hk⟩
theorem grown_belowG {a b : World} {G B : Nat} (h : a.grownBy b (some G)) (hB : B ≤ G) (hs : B ≤ a.heap.size) : Below B a b := ⟨h.os, h.tape, h.output, h.size, fun k hk => h.block k (by omega) (by intro e; injection e with e; omega)⟩
theorem Blk.grown {a b : World} {G k : Nat} {t : TypeId} {cs : Array Value} (h : Blk a k t cs) (hg : a.grownBy b (some G)) (hk : k ≠ G) : Blk b k t cs := h.kept hg (by intro e; injection e with e; exact hk e)
theorem grown_set {w w' : World} {g : Nat} (h : w.grownBy w' (some g)) (o : Nat) (v : Value) : w.grownBy (w'.setCell ⟨g, o, none⟩ v) (some g) :=
 ⟨h.os, h.tape, h.output, by simpa using h.size, fun k hk hne => (Below.heap_setCell w' ⟨g, o, none⟩ v k (fun e => hne (by rw [e]))).trans (h.block k hk hne)⟩
theorem grown_then {w w1 w2 : World} {g : Nat} (h : w.grownBy w1 (some g)) (h2 : Below w1.heap.size w1 w2) : w.grownBy w2 (some g) :=
 ⟨h2.os.trans h.os, h2.tape.trans h.tape, h2.output.trans h.output, Nat.le_trans h.size h2.size, fun k hk hne => (h2.block k (Nat.lt_of_lt_of_le hk h.size)).trans (h.block k hk hne)⟩
section
variable {P : Program} {Q : Exit → Act → World → Prop}
theorem oper_calls {o : Oper} {a : Act} {w w' : World} {f : FuncId} {args : Array Value} {K : Act → World → Prop} (hr : (execOp a.eval o).run P w = .ok (.enter f args) w')
 (h : Calls P f args w' fun e w'' => ∃ v, e = .returned v ∧ K (a.put o.dst v) w'') : o.wp P a w K Q := by
 simp only [Oper.wp, hr, Oper.upon]
 refine h.mono ?_
 rintro e w'' ⟨v, rfl, hv⟩
 exact hv
end
end Go.Proofs.YtlapjkbefkmohaaGreat

set_option linter.unusedVariables false
namespace Go.Proofs.YtlapjkbefkmohaaGreat
open Go.RowKit Go.Shelf
attribute [local go_sem] bs_mk bs_append bs_extract bs_size bs_toList bs_get
set_option maxRecDepth 100000 in
theorem r10_setR_in (L : Pn) (p q : Pl) (w : World) (hL : IsPn w L p q) (ht : L.targets.length ≤ 1000000) (he : L.targets.length = L.data.length) (l n : Nat) (hl : l < 256) (hn : n < 4294967296) :
 Calls Tryz.prog 51 #[pval L p q, rval l n] w fun e w' => RetPn w.heap.size L p q (L.set 1 (rtHead l n)) e w' ∧ Below w.heap.size w w' := by
 have hc := fun W => r10_cluster l W
 rw [decide_eq_true hl] at hc
 have hh := fun W => r10_head l n (by omega) hn W
 have hs := fun (W : World) (hb : Below w.heap.size w W) => r5_set L p q W (hL.below hb) 1 (by decide) (rtHead l n) (by rw [rtHead_length]; decide) ht he
 have hap := hL.apart (Nat.le_refl w.heap.size)
 have oP : ∀ B, w.heap.size ≤ B → PnOff B L p q := fun B hB => hL.apart hB
 generalize rtHead l n = T at *
 generalize L.set 1 T = R at *
 clear hL ht he hl hap
 obtain ⟨B1, b1⟩ := p
 obtain ⟨B2, b2⟩ := q
 have hB := Below.refl w.heap.size w
 have z := Blk.new w 67 #[.slice B1 L.targets.length b1, .slice B2 L.data.length b2]
 have zk := blk2 z
 have hB_1 := hB.alloc hB.size (.cells #[.slice B1 L.targets.length b1, .slice B2 L.data.length b2] 67)
 have y := Blk.new (w.alloc (.cells #[.slice B1 L.targets.length b1, .slice B2 L.data.length b2] 67)) 62 #[.int .i64 l, .int .u32 n]
 simp only [World.size_alloc] at y
 have yk := blk2 y
 have hB_2 := hB_1.alloc hB_1.size (.cells #[.int .i64 l, .int .u32 n] 62)
 have z_3 := z.alloc (.cells #[.int .i64 l, .int .u32 n] 62)
 have zk_3 := blk2 z_3
 have r := Blk.new ((w.alloc (.cells #[.slice B1 L.targets.length b1, .slice B2 L.data.length b2] 67)).alloc (.cells #[.int .i64 l, .int .u32 n] 62)) 67 #[.slice none 0 0, .slice none 0 0]
 simp only [World.size_alloc] at r
 have rk := blk2 r
 have rkf := r.frozen
 have hB_4 := hB_2.alloc hB_2.size (.cells #[.slice none 0 0, .slice none 0 0] 67)
 have z_5 := z_3.alloc (.cells #[.slice none 0 0, .slice none 0 0] 67)
 have zk_5 := blk2 z_5
 have y_6 := y.alloc (.cells #[.slice none 0 0, .slice none 0 0] 67)
 have yk_6 := blk2 y_6
 go_enter Tryz.func51, Tryz.ntmps51
 go_wp2_with fail
 generalize (((w.alloc (.cells #[.slice B1 L.targets.length b1, .slice B2 L.data.length b2] 67)).alloc (.cells #[.int .i64 l, .int .u32 n] 62)).alloc (.cells #[.slice none 0 0, .slice none 0 0] 67)) = V at hB_4 z_5 zk_5 y_6 yk_6 r rk rkf ⊢
 clear hB_1 hB_2 zk_3 z_3 hB z y zk yk
 have hB := hB_4
 have z := z_5
 have zk := zk_5
 have y := y_6
 have yk := yk_6
 clear hB_4 z_5 zk_5 y_6 yk_6
 go_at_call 59
 refine (hc _).mono ?_
 rintro e w5 ⟨rfl, rfl⟩
 have nz : w.heap.size ≠ w.heap.size + 1 + 1 := by omega
 have ny : w.heap.size + 1 ≠ w.heap.size + 1 + 1 := by omega
 have KZ := fun (W : World) (hW : w5.grownBy W (some (w.heap.size + 1 + 1))) => blk2 (z.grown hW nz)
 have KY := fun (W : World) (hW : w5.grownBy W (some (w.heap.size + 1 + 1))) => blk2 (y.grown hW ny)
 have hBs := hB.size
 go_wp2_with fail
 have s0 : w5.grownBy w5.drew (some (w.heap.size + 1 + 1)) := grown_of (Below.refl _ _).drew _
 have r0 := r.drew
 refine wp_region_late (S := fun W => w5.grownBy W (some (w.heap.size + 1 + 1))) (late := fun _ => false) (by kernel_rfl) ?_
 generalize w5.drew = U0 at s0 r0 ⊢
 simp only [List.size_toArray, List.length_cons, List.length_nil, Nat.reduceAdd, Array.replicate_succ, Array.replicate_zero, List.push_toArray, List.nil_append, List.cons_append]
 refine wpLate_take (i := 0) (oi := _) (v := pval L ⟨B1, b1⟩ ⟨B2, b2⟩) (d := some 11) rfl rfl (by kernel_rfl) (by kernel_rfl) (by kernel_rfl) (by kernel_rfl) (fun _ _ _ h => h) rfl (fun W hW => by have h9 := KZ W hW; go_simp) s0 ?_
 simp only [Act.put, List.setIfInBounds_toArray, List.set_cons_zero, List.set_cons_succ]
 refine wpLate_take (i := 1) (oi := _) (v := rval l n) (d := some 12) rfl rfl (by kernel_rfl) (by kernel_rfl) (by kernel_rfl) (by kernel_rfl) (fun _ _ _ h => h) rfl (fun W hW => by have h9 := KY W hW; go_simp) s0 ?_
 simp only [Act.put, List.setIfInBounds_toArray, List.set_cons_zero, List.set_cons_succ]
 refine wpLate_one (i := 2) (by kernel_rfl) rfl rfl (fun K' hK => ?_)
 refine oper_calls (f := 60) (args := #[rval l n]) (w' := U0) (by go_simp) ((hh U0).mono ?_)
 rintro e U1 ⟨rfl, hb1⟩
 refine ⟨_, rfl, ?_⟩
 show K' (Act.put _ (some 13) _) _
 have s1 := grown_then s0 hb1
 have r1 := r0.below hb1 r0.lt
 refine hK _ _ (fun _ _ => s1) ?_
 simp only [Act.put, List.setIfInBounds_toArray, List.set_cons_zero, List.set_cons_succ]
 refine wpLate_one (i := 3) (by kernel_rfl) rfl rfl (fun K' hK => ?_)
 refine oper_calls (f := 50) (args := #[pval L ⟨B1, b1⟩ ⟨B2, b2⟩, .int .i64 1, .string (bs T)]) (w' := U1) (by go_simp) ((hs U1 (hB.trans (grown_belowG s1 (by omega) hBs))).mono ?_)
 rintro e U2 ⟨⟨p6, q6, rfl, i6, o6⟩, hb2⟩
 refine ⟨_, rfl, ?_⟩
 show K' (Act.put _ (some 14) _) _
 have s2 := grown_then s1 hb2
 have or6 := o6 (w.heap.size + 1 + 1) r1.lt (oP _ (by omega))
 have r2 := r1.below hb2 r1.lt
 have hBU := hB.trans (grown_belowG s2 (by omega) hBs)
 have O6 : ∀ g, g < w.heap.size → PnOff g L ⟨B1, b1⟩ ⟨B2, b2⟩ → PnOff g R.1 p6 q6 := fun g h1 h2 => o6 g (by have := s1.size; omega) h2
 refine hK _ _ (fun _ _ => s2) ?_
 simp only [Act.put, List.setIfInBounds_toArray, List.set_cons_zero, List.set_cons_succ]
 refine wpLate_take0 (i := 4) (oi := _) (v := pval R.1 p6 q6) (d := some 15) rfl rfl (by kernel_rfl) (by kernel_rfl) (by kernel_rfl) (fun _ _ _ h => h) rfl (fun W => by first | rfl | go_simp) ?_
 simp only [Act.put, List.setIfInBounds_toArray, List.set_cons_zero, List.set_cons_succ]
 refine wpLate_take0 (i := 5) (oi := _) (v := .int .i64 R.2) (d := some 16) rfl rfl (by kernel_rfl) (by kernel_rfl) (by kernel_rfl) (fun _ _ _ h => h) rfl (fun W => by first | rfl | go_simp) ?_
 simp only [Act.put, List.setIfInBounds_toArray, List.set_cons_zero, List.set_cons_succ]
 refine wpLate_one (i := 6) (by kernel_rfl) rfl rfl (fun K' hK => ?_)
 refine oper_skip (w' := (U2.setCell ⟨w.heap.size + 1 + 1, 0, none⟩ (.slice p6.a R.1.targets.length p6.c)).setCell ⟨w.heap.size + 1 + 1, 1, none⟩ (.slice q6.a R.1.data.length q6.c)) (by have f1 := r2.frozen; have z1 := blk2 r2; have qq := r2.set 0 (.slice p6.a R.1.targets.length p6.c); have uf2 := qq.frozen; have u1 := blk2 qq; go_simp) ?_
 show K' (Act.put _ none _) _
 have s3 := grown_set (grown_set s2 0 (.slice p6.a R.1.targets.length p6.c)) 1 (.slice q6.a R.1.data.length q6.c)
 have yy := blk2 (blk_set2 r2 (.slice p6.a R.1.targets.length p6.c) (.slice q6.a R.1.data.length q6.c))
 have i8 := i6.off2 or6 (.slice p6.a R.1.targets.length p6.c) (.slice q6.a R.1.data.length q6.c)
 have b8 := below_set2 hBU (g := w.heap.size + 1 + 1) (by omega) (.slice p6.a R.1.targets.length p6.c) (.slice q6.a R.1.data.length q6.c)
 refine hK _ _ (fun _ _ => s3) ?_
 try simp only [Act.put, List.setIfInBounds_toArray, List.set_cons_zero, List.set_cons_succ]
 refine wpLate_take0 (i := 7) (oi := _) (v := .int .i64 R.2) (d := some 5) rfl rfl (by kernel_rfl) (by kernel_rfl) (by kernel_rfl) (fun _ _ _ h => h) rfl (fun W => by rfl) ?_
 simp only [Act.put, List.setIfInBounds_toArray, List.set_cons_zero, List.set_cons_succ]
 refine wpLate_done (by kernel_rfl) ?_ _
 go_wp2_with fail
 refine bodyPost_ret (v := .tuple #[pval R.1 p6 q6, .int .i64 R.2]) (by simp [results, Tryz.results51, go_sem, yy]) rfl ?_
 exact ⟨⟨p6, q6, rfl, i8, O6⟩, b8⟩
set_option maxRecDepth 100000 in
theorem r10_setR (L : Pn) (p q : Pl) (w : World) (hL : IsPn w L p q) (ht : L.targets.length ≤ 1000000) (he : L.targets.length = L.data.length) (l : Int) (n : Nat) (hn : n < 4294967296) :
 Calls Tryz.prog 51 #[pval L p q, .agg #[.int .i64 l, .int .u32 n]] w fun e w' => RetPn w.heap.size L p q (Pn.rtSet L l n) e w' ∧ Below w.heap.size w w' := by
 by_cases h : l < 0 ∨ 256 ≤ l
 · have hc := fun W => r10_clus l W
   rw [decide_eq_false (show ¬ (0 ≤ l ∧ l < 256) by omega)] at hc
   have Hr := hid (show Pn.rtSet L l n = (L, 10) by rw [Pn.rtSet, if_pos h])
   have hz := hL
   have hap := fun g (hg : w.heap.size ≤ g) => hL.apart hg
   clear hL h ht he hn
   obtain ⟨A1, a1⟩ := p
   obtain ⟨A2, a2⟩ := q
   have hB := Below.refl w.heap.size w
   have x := Blk.new w 67 #[.slice A1 L.targets.length a1, .slice A2 L.data.length a2]
   have xk := blk2 x
   have hB_1 := hB.alloc hB.size (.cells #[.slice A1 L.targets.length a1, .slice A2 L.data.length a2] 67)
   have y := Blk.new (w.alloc (.cells #[.slice A1 L.targets.length a1, .slice A2 L.data.length a2] 67)) 62 #[.int .i64 l, .int .u32 n]
   simp only [World.size_alloc] at y
   have yk := blk2 y
   have hB_2 := hB_1.alloc hB_1.size (.cells #[.int .i64 l, .int .u32 n] 62)
   have x_3 := x.alloc (.cells #[.int .i64 l, .int .u32 n] 62)
   have xk_3 := blk2 x_3
   have r := Blk.new ((w.alloc (.cells #[.slice A1 L.targets.length a1, .slice A2 L.data.length a2] 67)).alloc (.cells #[.int .i64 l, .int .u32 n] 62)) 67 #[.slice none 0 0, .slice none 0 0]
   simp only [World.size_alloc] at r
   have rk := blk2 r
   have rkf := r.frozen
   have hB_4 := hB_2.alloc hB_2.size (.cells #[.slice none 0 0, .slice none 0 0] 67)
   have x_5 := x_3.alloc (.cells #[.slice none 0 0, .slice none 0 0] 67)
   have xk_5 := blk2 x_5
   have y_6 := y.alloc (.cells #[.slice none 0 0, .slice none 0 0] 67)
   have yk_6 := blk2 y_6
   go_enter Tryz.func51, Tryz.ntmps51
   go_wp2_with fail
   go_at_call 59
   refine ((hc _)).mono ?_
   rintro e w1 ⟨rfl, hb1⟩
   replace hB := bt hB_4 hb1
   replace x := x_5.below hb1 x_5.lt
   replace xk := blk2 x
   replace y := y_6.below hb1 y_6.lt
   replace yk := blk2 y
   replace r := r.below hb1 r.lt
   replace rk := blk2 r
   replace rkf := r.frozen
   clear hB_1 hB_2 xk_3 x_3 hB_4 xk_5 x_5 yk_6 y_6
   have rl : w.heap.size + 1 + 1 < w1.heap.size := r.lt
   go_wp2_with fail
   have i0 := hz.below hB
   have yy := blk2 (blk_set2 r (.slice A1 L.targets.length a1) (.slice A2 L.data.length a2))
   have i2 := i0.off2 (g := w.heap.size + 1 + 1) (hap _ (by omega)) (.slice A1 L.targets.length a1) (.slice A2 L.data.length a2)
   have b8 := below_set2 hB (g := w.heap.size + 1 + 1) (by omega) (.slice A1 L.targets.length a1) (.slice A2 L.data.length a2)
   refine bodyPost_ret (v := .tuple #[pval L ⟨A1, a1⟩ ⟨A2, a2⟩, .int .i64 10]) (by simp [results, Tryz.results51, go_sem, yy]) rfl ?_
   rw [Hr.out]
   exact ⟨⟨⟨A1, a1⟩, ⟨A2, a2⟩, rfl, i2, fun g _ h => h⟩, b8⟩
 · obtain ⟨l, rfl⟩ := Int.eq_ofNat_of_zero_le (show 0 ≤ l by omega)
   refine (r10_setR_in L p q w hL ht he l n (by omega) hn).mono ?_
   rintro e w' ⟨h1, h2⟩
   rw [show Pn.rtSet L l n = L.set 1 (rtHead l n) by rw [Pn.rtSet, if_neg h, Int.toNat_natCast]]
   exact ⟨h1, h2⟩
end Go.Proofs.YtlapjkbefkmohaaGreat

set_option linter.unusedVariables false
namespace Go.Proofs.YtlapjkbefkmohaaGreat
open Go.RowKit Go.Shelf
attribute [local go_sem] bs_mk bs_append bs_extract bs_size bs_toList bs_get
def snCells (l : List Sn) : List Value := l.flatMap fun e => [.int .u32 e.id, .int .i64 e.l1, .string (bs e.name)]
theorem snCells_length (l : List Sn) : (snCells l).length = l.length * 3 := by
 induction l with
 | nil => rfl
 | cons x l ih => simp only [snCells, List.flatMap_cons, List.length_append, List.length_cons, List.length_nil] at ih ⊢; omega
theorem snCells_get (l : List Sn) (i : Nat) (h : i < l.length) : (snCells l)[i * 3]? = some (.int .u32 l[i].id) ∧ (snCells l)[i * 3 + 1]? = some (.int .i64 l[i].l1) ∧ (snCells l)[i * 3 + 2]? = some (.string (bs l[i].name)) := by
 induction l generalizing i with
 | nil => simp at h
 | cons x l ih =>
  have e : snCells (x :: l) = .int .u32 x.id :: .int .i64 x.l1 :: .string (bs x.name) :: snCells l := rfl
  cases i with
  | zero => rw [e]; exact ⟨rfl, rfl, rfl⟩
  | succ i =>
   have := ih i (by simpa using h)
   rw [e, show (i + 1) * 3 = i * 3 + 1 + 1 + 1 by omega]
   simpa using this
theorem Cells.sn {w : World} {A : Option Addr} {l : List Sn} (h : Cells w A (snCells l)) {i : Nat} (hi : i < l.length) :
 ∃ b off, A = some ⟨b, off, none⟩ ∧ ∀ j (hj : j < l.length), w.cell? ⟨b, off + j * 3, none⟩ = some (.int .u32 l[j].id) ∧ w.cell? ⟨b, off + j * 3 + 1, none⟩ = some (.int .i64 l[j].l1) ∧ w.cell? ⟨b, off + j * 3 + 2, none⟩ = some (.string (bs l[j].name)) := by
 rcases h with h | ⟨b, off, rfl, h⟩
 · have := congrArg List.length h; rw [snCells_length] at this; simp at this; omega
 · refine ⟨b, off, rfl, fun j hj => ?_⟩
   obtain ⟨e1, e2, e3⟩ := snCells_get l j hj
   exact ⟨h _ _ e1, by rw [Nat.add_assoc]; exact h _ _ e2, by rw [Nat.add_assoc]; exact h _ _ e3⟩
end Go.Proofs.YtlapjkbefkmohaaGreat

set_option linter.unusedVariables false
namespace Go.Proofs.YtlapjkbefkmohaaGreat
open Go.RowKit Go.Shelf
attribute [local go_sem] bs_mk bs_append bs_extract bs_size bs_toList bs_get
def dmRows (l : List Dm) : List Value := l.flatMap dmCells
theorem dmRows_length {l : List Dm} (h : ∀ m ∈ l, m.bits.length = 64) : (dmRows l).length = l.length * 66 := by
 induction l with
 | nil => rfl
 | cons x l ih =>
  have h1 := dmCells_length (h x (by simp))
  have h2 := ih (fun m hm => h m (by simp [hm]))
  simp only [dmRows, List.flatMap_cons, List.length_append, List.length_cons] at h2 ⊢
  omega
theorem one_dm (m : Dm) : ∀ u ∈ dmCells m, u.oneCell' = true := by
 intro u hu
 simp only [dmCells, List.mem_cons, List.mem_map] at hu
 rcases hu with rfl | rfl | ⟨b, _, rfl⟩ <;> simp [Value.oneCell']
theorem one_dms (l : List Dm) : ∀ u ∈ dmRows l, u.oneCell' = true := by
 intro u hu
 obtain ⟨m, _, h⟩ := List.mem_flatMap.1 hu
 exact one_dm m u h
end Go.Proofs.YtlapjkbefkmohaaGreat

set_option linter.unusedVariables false
namespace Go.Proofs.YtlapjkbefkmohaaGreat
open Go.RowKit Go.Shelf
attribute [local go_sem] bs_mk bs_append bs_extract bs_size bs_toList bs_get
theorem Blk.range {w : World} {g : Nat} {t : TypeId} {cs : List Value} (h : Blk w g t cs.toArray) : w.rangeAt g 0 cs := fun j v hv => by rw [h.cell, Nat.zero_add]; simpa using hv
theorem Blk.there {w : World} {g : Nat} {t : TypeId} {cs : List Value} (h : Blk w g t cs.toArray) : w.there g 0 cs.length := fun j hj => ⟨by rw [h.cell, Nat.zero_add]; simp [hj], h.frozen _⟩
theorem setCells_whole {g : Nat} {t : TypeId} : ∀ (new old : List Value) (pre : List Value) {w : World}, new.length = old.length → Blk w g t (pre ++ old).toArray → Blk (w.setCells g pre.length new) g t (pre ++ new).toArray
 | [], [], _, _, _, h => by simpa [World.setCells] using h
 | v :: r, o :: q, pre, w, hl, h => by
  have h1 := h.set pre.length v
  have e : (pre ++ o :: q).toArray.setIfInBounds pre.length v = (pre ++ [v] ++ q).toArray := by simp
  rw [e] at h1
  have h2 := setCells_whole r q (pre ++ [v]) (by simpa using hl) h1
  rw [List.length_append, List.length_singleton, List.append_assoc, List.singleton_append] at h2
  exact h2
theorem blk_setD {w : World} {g : Nat} {t : TypeId} {a : Dm} (h : Blk w g t (dmCells a).toArray) (b : Dm) (ha : a.bits.length = 64) (hb : b.bits.length = 64) : Blk (w.setCells g 0 (dmCells b)) g t (dmCells b).toArray :=
 setCells_whole (dmCells b) (dmCells a) [] (by rw [dmCells_length ha, dmCells_length hb]) h
theorem below_setD {B : Nat} {w0 w : World} {g : Nat} (h : Below B w0 w) (hg : B ≤ g) (b : Dm) : Below B w0 (w.setCells g 0 (dmCells b)) := below_setCells' hg (dmCells b) 0 h
/-- How many cells: a word that the walk does not open. -/
def dmN : Nat := 66
theorem dm_len {m : Dm} (h : m.bits.length = 64) : (dmCells m).length = dmN := dmCells_length h
theorem dmCells_bit (m : Dm) (k : Nat) (h : k < m.bits.length) : (dmCells m)[2 + k]? = some (.bool m.bits[k]) := by
 rw [show 2 + k = k + 1 + 1 by omega]
 simp [dmCells, h]
theorem Blk.bit {w : World} {g : Nat} {t : TypeId} {m : Dm} (h : Blk w g t (dmCells m).toArray) (k : Nat) (hk : k < m.bits.length) : w.cell? ⟨g, 2 + k, none⟩ = some (.bool m.bits[k]) := by
 rw [h.cell]; simpa using dmCells_bit m k hk
theorem Tryz.dm_size : (Tryz.prog.info? 57).map (·.size) = some 66 := by kernel_rfl
theorem Tryz.dm_agg (W : World) : (isAgg 57).run Tryz.prog W = .ok true W := by
 unfold isAgg
 rw [Sem.run_bind, run_underlying Tryz.underlying57 W]
 rfl
theorem Tryz.dm_siz (W : World) : (sizeOf 57).run Tryz.prog W = .ok dmN W := by
 unfold dmN
 obtain ⟨i, hi, h⟩ := Option.map_eq_some_iff.1 Tryz.dm_size
 simp [sizeOf, typeInfo, hi, h]
theorem Tryz.dm_load {w : World} {b o : Nat} (m : Dm) (hm : m.bits.length = 64) (h : w.rangeAt b o (dmCells m)) : (loadCellsFrom ⟨b, o, none⟩ 0 dmN #[]).run Tryz.prog w = .ok (dmCells m).toArray w := by
 have := run_loadCells_list (P := Tryz.prog) w ⟨b, o, none⟩ (dmCells m) (fun j v hv => by rw [Addr.add_mid]; exact h j v hv)
 rw [dmCells_length hm] at this
 exact this
theorem Tryz.dm_store {w : World} {b o : Nat} (m : Dm) (hm : m.bits.length = 64) (h : w.there b o 66) : (storeCells ⟨b, o, none⟩ (dmCells m) 0).run Tryz.prog w = .ok () (w.setCells b o (dmCells m)) := by
 have hl := dmCells_length hm
 have := run_storeCells_cells (P := Tryz.prog) b o (dmCells m) 0 w (fun j hj => by simpa using (h j (by omega)).1) (fun j hj => by simpa using (h j (by omega)).2) (one_dm m)
 simpa using this
theorem Tryz.dm_all {w : World} {g : Nat} (m : Dm) (hm : m.bits.length = 64) (h : Blk w g 57 (dmCells m).toArray) :
 (loadCellsFrom ⟨g, 0, none⟩ 0 dmN #[]).run Tryz.prog w = .ok (dmCells m).toArray w ∧ w.cell? ⟨g, 0, none⟩ = some (.string (bs m.name)) ∧ w.cell? ⟨g, 1, none⟩ = some (.bool m.use) :=
 ⟨Tryz.dm_load m hm h.range, h.cell 0, h.cell 1⟩
theorem Tryz.dm_put {w : World} {g : Nat} {a : Dm} (m : Dm) (hm : m.bits.length = 64) (ha : a.bits.length = 64) (h : Blk w g 57 (dmCells a).toArray) : (storeCells ⟨g, 0, none⟩ (dmCells m) 0).run Tryz.prog w = .ok () (w.setCells g 0 (dmCells m)) :=
 Tryz.dm_store m hm (by have := h.there; rwa [dmCells_length ha] at this)
theorem Tryz.dm_zeros : Tryz.zeroCells57 = (dmCells Dm.zero).toArray := by kernel_rfl
section
variable {P : Program}
theorem wpList_run {ops : Array Oper} {rest : List Oper} {o : Oper} {a : Act} {w : World} {Q : Exit → Act → World → Prop} (hgd : o.guard = none) (v : Value) (hr : (execOp a.eval o).run P w = .ok (.value v) w)
 (h : wpList P ops Q rest (a.put o.dst v) w) : wpList P ops Q (o :: rest) a w := wpList_plain hgd fun K hK => by unfold Oper.wp; rw [hr]; exact hK _ _ h
end
end Go.Proofs.YtlapjkbefkmohaaGreat

set_option linter.unusedVariables false
namespace Go.Proofs.YtlapjkbefkmohaaGreat
open Go.RowKit Go.Shelf
attribute [local go_sem] bs_mk bs_append bs_extract bs_size bs_toList bs_get
def Dm.read (t : List UInt8) : Dm := ⟨(toNameR (t.take 8)).1, decide (t.getD 8 0 = 1), (List.range 64).map (Dm.bitAt t)⟩
end Go.Proofs.YtlapjkbefkmohaaGreat

set_option linter.unusedVariables false
namespace Go.Proofs.YtlapjkbefkmohaaGreat
open Go.RowKit Go.Shelf
attribute [local go_sem] bs_mk bs_append bs_extract bs_size bs_toList bs_get
theorem Tryz.infoDmap3 : (Tryz.prog.info? 57).map (fun i => (i.zero, i.size, i.bytes)) = some (some (dmval Dm.zero), 66, 88) := by kernel_rfl
end Go.Proofs.YtlapjkbefkmohaaGreat

set_option linter.unusedVariables false
namespace Go.Proofs.YtlapjkbefkmohaaGreat
open Go.RowKit Go.Shelf
attribute [local go_sem] bs_mk bs_append bs_extract bs_size bs_toList bs_get Oper.semAt_some
def Pn.secs (L : Pn) : List (Int × List UInt8) := L.targets.zip L.data
theorem secs_at (L : Pn) (m : Nat) (hm : m < L.secs.length) : ∃ (h1 : m < L.targets.length) (h2 : m < L.data.length), L.secs[m] = (L.targets[m], L.data[m]) := by
 have h := hm
 rw [Pn.secs, List.length_zip] at h
 exact ⟨by omega, by omega, List.getElem_zip⟩
theorem secs_length (L : Pn) (h : L.targets.length = L.data.length) : L.secs.length = L.targets.length := by
 rw [Pn.secs, List.length_zip]; omega
end Go.Proofs.YtlapjkbefkmohaaGreat

set_option linter.unusedVariables false
namespace Go.Proofs.YtlapjkbefkmohaaGreat
open Go.RowKit Go.Shelf
attribute [local go_sem] bs_mk bs_append bs_extract bs_size bs_toList bs_get Oper.semAt_some
namespace Dk
theorem layIn_snoc : ∀ (l : List (Int × List UInt8)) (D : Dk) (x : Int × List UInt8), (layIn l D).2 = 0 → layIn (l ++ [x]) D = (layIn l D).1.write x.1 x.2 := by
 intro l
 induction l with
 | nil =>
  intro D x _
  show layIn [x] D = D.write x.1 x.2
  rw [layIn]
  split
  · rfl
  · rename_i h
    have h : (D.write x.1 x.2).2 = 0 := by simpa using h
    exact Prod.ext rfl h.symm
 | cons a l ih =>
  intro D x h
  rw [List.cons_append, layIn]
  rw [layIn] at h
  split
  · rename_i h1
    rw [if_pos h1] at h
    exact absurd h h1
  · rename_i h1
    rw [if_neg h1] at h
    rw [layIn, if_neg h1]
    exact ih _ _ h
theorem layIn_stop : ∀ (l r : List (Int × List UInt8)) (D : Dk), (layIn l D).2 ≠ 0 → layIn (l ++ r) D = layIn l D := by
 intro l
 induction l with
 | nil => intro r D h; exact absurd rfl h
 | cons a l ih =>
  intro r D h
  rw [List.cons_append, layIn, layIn]
  rw [layIn] at h
  split
  · rfl
  · rename_i h1
    rw [if_neg h1] at h
    exact ih _ _ h
end Dk
end Go.Proofs.YtlapjkbefkmohaaGreat
