/- Package point: a worker in memory; a step is tried. Package point: a worker's steps, as closures. Package point: a worker's methods. Package point: a table is taken. -/
import Derived.Test.YtplgmlcoeehnfaaGreatPuPointPlain
import Derived.Test.YtplgmlcoeehnfaaGreatPuJourA
import Derived.Test.YtplgmlcoeehnfaaGreatPuRoots
import Derived.Test.YtplgmlcoeehnfaaGreatPuTable9
import Derived.Test.YtplgmlcoeehnfaaGreatPuAllocs
set_option linter.unusedVariables false
namespace Go.Proofs.YtplgmlcoeehnfaaGreat
open Go.RowKit Go.Shelf
attribute [local go_sem] bs_mk bs_append bs_extract bs_size bs_toList bs_get
/-! ### What one block's turns leave -/
theorem Cells.grown {w w' : World} {A : Option Addr} {cs : List Value} {G n : Nat} (h : Cells w A cs) (hg : w.grownBy w' (some G)) (ho : Off G A n) (hn : n = 0 → cs = []) : Cells w' A cs := by
  rcases ho with h0 | ho
  · exact .inl (hn h0)
  rcases h with h | ⟨b, off, e, hc⟩
  · exact .inl h
  · refine .inr ⟨b, off, e, fun j u hu => ?_⟩
    have h1 := hc j u hu
    have h2 := lt_of_cell h1
    rw [World.cell?_of_block (w := w) (a := ⟨b, off + j, none⟩) (hg.block b h2 (by intro e'; injection e' with e'; exact ho b off e e'))]
    exact h1
theorem IsPn.grown {w w' : World} {L : Pn} {p q : Pl} {G : Nat} (h : IsPn w L p q) (hg : w.grownBy w' (some G)) (ho : PnOff G L p q) : IsPn w' L p q :=
  { h with targets := h.targets.grown hg ho.1 (fun e => by rw [List.length_eq_zero_iff.1 e]; rfl), data := h.data.grown hg ho.2 (fun e => by rw [List.length_eq_zero_iff.1 e]; rfl) }
theorem IsDk.grown {w w' : World} {D : Dk} {p q : Pl} {G : Nat} (h : IsDk w D p q) (hg : w.grownBy w' (some G)) (ho : DkOff G D p q) : IsDk w' D p q :=
  { h with cache := h.cache.grown hg ho.1 (fun e => by rw [List.length_eq_zero_iff.1 e]; rfl), bad := h.bad.grown hg ho.2 (fun e => by rw [List.length_eq_zero_iff.1 e]; rfl) }
theorem grown_of {w w' : World} (h : Below w.heap.size w w') (G : Nat) : w.grownBy w' (some G) := ⟨h.os, h.tape, h.output, h.size, fun k hk _ => h.block k hk⟩
theorem grown_trans {a b c : World} {G : Nat} (h : a.grownBy b (some G)) (k : b.grownBy c (some G)) : a.grownBy c (some G) :=
  ⟨k.os.trans h.os, k.tape.trans h.tape, k.output.trans h.output, Nat.le_trans h.size k.size, fun j hj hne => (k.block j (Nat.lt_of_lt_of_le hj h.size) hne).trans (h.block j hj hne)⟩
theorem grown_belowG {a b : World} {G B : Nat} (h : a.grownBy b (some G)) (hB : B ≤ G) (hs : B ≤ a.heap.size) : Below B a b := ⟨h.os, h.tape, h.output, h.size, fun k hk => h.block k (by omega) (by intro e; injection e with e; omega)⟩
theorem Blk.grown {a b : World} {G k : Nat} {t : TypeId} {cs : Array Value} (h : Blk a k t cs) (hg : a.grownBy b (some G)) (hk : k ≠ G) : Blk b k t cs := h.kept hg (by intro e; injection e with e; exact hk e)
theorem blk10 {w : World} {g : Nat} {t : TypeId} {c0 c1 c2 c3 c4 c5 c6 c7 c8 c9 : Value} (h : Blk w g t #[c0, c1, c2, c3, c4, c5, c6, c7, c8, c9]) :
    w.cell? ⟨g, 0, none⟩ = some c0 ∧ w.cell? ⟨g, 1, none⟩ = some c1 ∧ w.cell? ⟨g, 2, none⟩ = some c2 ∧ w.cell? ⟨g, 3, none⟩ = some c3 ∧ w.cell? ⟨g, 4, none⟩ = some c4 ∧ w.cell? ⟨g, 5, none⟩ = some c5 ∧ w.cell? ⟨g, 6, none⟩ = some c6 ∧ w.cell? ⟨g, 7, none⟩ = some c7 ∧ w.cell? ⟨g, 8, none⟩ = some c8 ∧ w.cell? ⟨g, 9, none⟩ = some c9 :=
  ⟨h.cell 0, h.cell 1, h.cell 2, h.cell 3, h.cell 4, h.cell 5, h.cell 6, h.cell 7, h.cell 8, h.cell 9⟩
/-- A worker: its plan, its geometry, its device, its error. -/
structure WkAt (W : World) (G : Nat) (D : Dk) (dp dq : Pl) (g h : Int) (X : Pn) (p q : Pl) (e : Int) : Prop where
  box : Blk W G 120 #[.slice p.a X.targets.length p.c, .slice q.a X.data.length q.c, .int .i64 g, .int .i64 h, .string (bs D.data), .slice dp.a D.cache.length dp.c, .int .i64 D.fuse, .bool D.off, .slice dq.a D.bad.length dq.c, .int .i64 e]
  dk : IsDk W D dp dq
  pn : IsPn W X p q
  od : DkOff G D dp dq
  op : PnOff G X p q
  fit : X.Fit
theorem WkAt.below {W W' : World} {G : Nat} {D : Dk} {dp dq : Pl} {g h : Int} {X : Pn} {p q : Pl} {e : Int} (k : WkAt W G D dp dq g h X p q e) (hb : Below W.heap.size W W') : WkAt W' G D dp dq g h X p q e :=
  ⟨k.box.below hb k.box.lt, k.dk.below hb, k.pn.below hb, k.od, k.op, k.fit⟩
theorem WkAt.other {W : World} {G : Nat} {D : Dk} {dp dq : Pl} {g h : Int} {X : Pn} {p q : Pl} {e : Int} (k : WkAt W G D dp dq g h X p q e) {a : Addr} (h1 : a.block ≠ G) (h2 : DkOff a.block D dp dq) (h3 : PnOff a.block X p q) (v : Value) : WkAt (W.setCell a v) G D dp dq g h X p q e :=
  ⟨k.box.other h1.symm v, k.dk.off h2 v, k.pn.off h3 v, k.od, k.op, k.fit⟩
/-- What a worker's step leaves: its own block alone is another one. -/
def RetWk (w : World) (G : Nat) (D : Dk) (dp dq : Pl) (g h : Int) (X : Pn) (p q : Pl) (Y : Pn × Int) (w' : World) : Prop :=
  w.grownBy w' (some G) ∧ ∃ p' q', WkAt w' G D dp dq g h Y.1 p' q' Y.2 ∧ ∀ b, b < w.heap.size → PnOff b X p q → PnOff b Y.1 p' q'
/-- The worker behind a step. -/
abbrev wkSet (W : World) (G : Nat) (X : Pn) (p q : Pl) (e : Int) : World := ((W.setCell ⟨G, 0, none⟩ (.slice p.a X.targets.length p.c)).setCell ⟨G, 1, none⟩ (.slice q.a X.data.length q.c)).setCell ⟨G, 9, none⟩ (.int .i64 e)
theorem WkAt.set {W : World} {G : Nat} {D : Dk} {dp dq : Pl} {g h : Int} {X : Pn} {p q : Pl} {e : Int} (k : WkAt W G D dp dq g h X p q e) {Y : Pn} {p' q' : Pl} {e' : Int} (hY : IsPn W Y p' q') (ho : PnOff G Y p' q') (hf : Y.Fit) : WkAt (wkSet W G Y p' q' e') G D dp dq g h Y p' q' e' :=
  ⟨((k.box.set 0 _).set 1 _).set 9 _, ((k.dk.off k.od _).off k.od _).off k.od _, ((hY.off ho _).off ho _).off ho _, k.od, ho, hf⟩
theorem wkSet_grown {w W : World} {G : Nat} (h : w.grownBy W (some G)) (X : Pn) (p q : Pl) (e : Int) : w.grownBy (wkSet W G X p q e) (some G) := grown_set (grown_set (grown_set h 0 _) 1 _) 9 _
set_option maxRecDepth 100000 in
set_option maxHeartbeats 2000000 in
/-- A step that is tried, where there was no error. -/
theorem pt_try_ok (f : FuncId) (hc : f = 117 ∨ f = 119 ∨ f = 115 ∨ f = 168 ∨ f = 162 ∨ f = 164 ∨ f = 107)
    (caps : Array Value) (G : Nat) (c0 c1 c2 c3 c4 c5 c6 c7 c8 : Value) (w : World) (hb : Blk w G 120 #[c0, c1, c2, c3, c4, c5, c6, c7, c8, .int .i64 0]) {Q : Pn → Pl → Pl → Int → World → Prop}
    (hf : Calls Tryz.prog f caps w fun x w' => ∃ X p q e, x = .returned (.tuple #[pval X p q, .int .i64 e]) ∧ Q X p q e w' ∧ Blk w' G 120 #[c0, c1, c2, c3, c4, c5, c6, c7, c8, .int .i64 0]) :
    Calls Tryz.prog 106 #[.pointer (some ⟨G, 0, none⟩), .func (.func f) #[] caps] w fun x w' => x = .returned (.tuple #[]) ∧ ∃ X p q e W, Q X p q e W ∧ w' = wkSet W G X p q e := by
  have k0 := blk10 hb
  rcases hc with rfl | rfl | rfl | rfl | rfl | rfl | rfl
  · go_enter Tryz.func106, Tryz.ntmps106
    go_wp2_with fail
    refine hf.mono ?_
    rintro e w1 ⟨X, ⟨pa, pc⟩, ⟨qa, qc⟩, er, rfl, hq, hb1⟩
    have k1 := blk10 hb1
    have f1 := hb1.frozen
    have hb2 := (hb1.set 0 (.slice pa X.targets.length pc)).set 1 (.slice qa X.data.length qc)
    have f2 := hb2.frozen
    have f3 := (hb1.set 0 (.slice pa X.targets.length pc)).frozen
    clear k0
    go_wp2_with fail
    refine bodyPost_end (v := .tuple #[]) (by simp [results, Tryz.results106, go_sem]) rfl ?_
    exact ⟨rfl, X, ⟨pa, pc⟩, ⟨qa, qc⟩, er, w1, hq, rfl⟩
  · go_enter Tryz.func106, Tryz.ntmps106
    go_wp2_with fail
    refine hf.mono ?_
    rintro e w1 ⟨X, ⟨pa, pc⟩, ⟨qa, qc⟩, er, rfl, hq, hb1⟩
    have k1 := blk10 hb1
    have f1 := hb1.frozen
    have hb2 := (hb1.set 0 (.slice pa X.targets.length pc)).set 1 (.slice qa X.data.length qc)
    have f2 := hb2.frozen
    have f3 := (hb1.set 0 (.slice pa X.targets.length pc)).frozen
    clear k0
    go_wp2_with fail
    refine bodyPost_end (v := .tuple #[]) (by simp [results, Tryz.results106, go_sem]) rfl ?_
    exact ⟨rfl, X, ⟨pa, pc⟩, ⟨qa, qc⟩, er, w1, hq, rfl⟩
  · go_enter Tryz.func106, Tryz.ntmps106
    go_wp2_with fail
    refine hf.mono ?_
    rintro e w1 ⟨X, ⟨pa, pc⟩, ⟨qa, qc⟩, er, rfl, hq, hb1⟩
    have k1 := blk10 hb1
    have f1 := hb1.frozen
    have hb2 := (hb1.set 0 (.slice pa X.targets.length pc)).set 1 (.slice qa X.data.length qc)
    have f2 := hb2.frozen
    have f3 := (hb1.set 0 (.slice pa X.targets.length pc)).frozen
    clear k0
    go_wp2_with fail
    refine bodyPost_end (v := .tuple #[]) (by simp [results, Tryz.results106, go_sem]) rfl ?_
    exact ⟨rfl, X, ⟨pa, pc⟩, ⟨qa, qc⟩, er, w1, hq, rfl⟩
  · go_enter Tryz.func106, Tryz.ntmps106
    go_wp2_with fail
    refine hf.mono ?_
    rintro e w1 ⟨X, ⟨pa, pc⟩, ⟨qa, qc⟩, er, rfl, hq, hb1⟩
    have k1 := blk10 hb1
    have f1 := hb1.frozen
    have hb2 := (hb1.set 0 (.slice pa X.targets.length pc)).set 1 (.slice qa X.data.length qc)
    have f2 := hb2.frozen
    have f3 := (hb1.set 0 (.slice pa X.targets.length pc)).frozen
    clear k0
    go_wp2_with fail
    refine bodyPost_end (v := .tuple #[]) (by simp [results, Tryz.results106, go_sem]) rfl ?_
    exact ⟨rfl, X, ⟨pa, pc⟩, ⟨qa, qc⟩, er, w1, hq, rfl⟩
  · go_enter Tryz.func106, Tryz.ntmps106
    go_wp2_with fail
    refine hf.mono ?_
    rintro e w1 ⟨X, ⟨pa, pc⟩, ⟨qa, qc⟩, er, rfl, hq, hb1⟩
    have k1 := blk10 hb1
    have f1 := hb1.frozen
    have hb2 := (hb1.set 0 (.slice pa X.targets.length pc)).set 1 (.slice qa X.data.length qc)
    have f2 := hb2.frozen
    have f3 := (hb1.set 0 (.slice pa X.targets.length pc)).frozen
    clear k0
    go_wp2_with fail
    refine bodyPost_end (v := .tuple #[]) (by simp [results, Tryz.results106, go_sem]) rfl ?_
    exact ⟨rfl, X, ⟨pa, pc⟩, ⟨qa, qc⟩, er, w1, hq, rfl⟩
  · go_enter Tryz.func106, Tryz.ntmps106
    go_wp2_with fail
    refine hf.mono ?_
    rintro e w1 ⟨X, ⟨pa, pc⟩, ⟨qa, qc⟩, er, rfl, hq, hb1⟩
    have k1 := blk10 hb1
    have f1 := hb1.frozen
    have hb2 := (hb1.set 0 (.slice pa X.targets.length pc)).set 1 (.slice qa X.data.length qc)
    have f2 := hb2.frozen
    have f3 := (hb1.set 0 (.slice pa X.targets.length pc)).frozen
    clear k0
    go_wp2_with fail
    refine bodyPost_end (v := .tuple #[]) (by simp [results, Tryz.results106, go_sem]) rfl ?_
    exact ⟨rfl, X, ⟨pa, pc⟩, ⟨qa, qc⟩, er, w1, hq, rfl⟩
  · go_enter Tryz.func106, Tryz.ntmps106
    go_wp2_with fail
    refine hf.mono ?_
    rintro e w1 ⟨X, ⟨pa, pc⟩, ⟨qa, qc⟩, er, rfl, hq, hb1⟩
    have k1 := blk10 hb1
    have f1 := hb1.frozen
    have hb2 := (hb1.set 0 (.slice pa X.targets.length pc)).set 1 (.slice qa X.data.length qc)
    have f2 := hb2.frozen
    have f3 := (hb1.set 0 (.slice pa X.targets.length pc)).frozen
    clear k0
    go_wp2_with fail
    refine bodyPost_end (v := .tuple #[]) (by simp [results, Tryz.results106, go_sem]) rfl ?_
    exact ⟨rfl, X, ⟨pa, pc⟩, ⟨qa, qc⟩, er, w1, hq, rfl⟩
/-- A step that is tried behind an error. -/
theorem pt_try_no (fv : Value) (G : Nat) (c0 c1 c2 c3 c4 c5 c6 c7 c8 : Value) (er : Int) (he : er ≠ 0) (w : World) (hb : Blk w G 120 #[c0, c1, c2, c3, c4, c5, c6, c7, c8, .int .i64 er]) :
    Calls Tryz.prog 106 #[.pointer (some ⟨G, 0, none⟩), fv] w fun x w' => x = .returned (.tuple #[]) ∧ w' = w := by
  have k0 := blk10 hb
  have n1 : (er == 0) = false := by simpa using he
  clear he
  go_enter Tryz.func106, Tryz.ntmps106
  go_wp2_with fail
  refine bodyPost_end (v := .tuple #[]) (by simp [results, Tryz.results106, go_sem]) rfl ?_
  exact ⟨rfl, rfl⟩
end Go.Proofs.YtplgmlcoeehnfaaGreat
set_option linter.unusedVariables false
namespace Go.Proofs.YtplgmlcoeehnfaaGreat
open Go.RowKit Go.Shelf
attribute [local go_sem] bs_mk bs_append bs_extract bs_size bs_toList bs_get
section
variable {P : Program} {Q : Exit → Act → World → Prop}
theorem oper_calls {o : Oper} {a : Act} {w w' : World} {f : FuncId} {args : Array Value} {K : Act → World → Prop} (hr : (execOp a.eval o).run P w = .ok (.enter f args) w')
    (h : Calls P f args w' fun e w'' => ∃ v, e = .returned v ∧ K (a.put o.dst v) w'') : o.wp P a w K Q := by
  simp only [Oper.wp, hr, Oper.upon]
  refine h.mono ?_
  rintro e w'' ⟨v, rfl, hv⟩
  exact hv
end
theorem WkAt.at {W W' : World} {G : Nat} {D : Dk} {dp dq : Pl} {g h : Int} {X : Pn} {p q : Pl} {e : Int} (k : WkAt W G D dp dq g h X p q e) {B : Nat} (hB : W.heap.size ≤ B) (hb : Below B W W') : WkAt W' G D dp dq g h X p q e := k.below (hb.mono hB)
set_option maxRecDepth 100000 in
set_option maxHeartbeats 1000000 in
theorem pt_count1 (D : Dk) (dp dq : Pl) (g h : Int) (X : Pn) (p q : Pl) (e : Int) (G : Nat) (w : World) (hW : WkAt w G D dp dq g h X p q e) (hD : D.fit = true) (k b : Int) (hb : -9223372036854775808 ≤ b ∧ b ≤ 9223372036854775807) (b0 : Nat) (t0 : TypeId) (h0 : Blk w b0 t0 #[.pointer (some ⟨G, 0, none⟩)]) (b1 : Nat) (t1 : TypeId) (h1 : Blk w b1 t1 #[.int .i64 k]) (b2 : Nat) (t2 : TypeId) (h2 : Blk w b2 t2 #[.int .i64 b]) :
    Calls Tryz.prog 117 #[.pointer (some ⟨b0, 0, none⟩), .pointer (some ⟨b1, 0, none⟩), .pointer (some ⟨b2, 0, none⟩)] w fun x w' => RetPn w.heap.size X p q (Pn.cntAdd D X k b) x w' ∧ Below w.heap.size w w' := by
  have hcall := fun (W : World) (hb : Below w.heap.size w W) => rc_add D X dp dq p q W (hW.dk.below hb) (hW.pn.below hb) hD hW.fit k b ‹_›
  have hB := Below.refl w.heap.size w
  have r := Blk.new w 28 #[.slice none 0 0, .slice none 0 0]
  have rk := blk2 r
  have rkf := r.frozen
  have hB_1 := hB.alloc hB.size (.cells #[.slice none 0 0, .slice none 0 0] 28)
  have K0 := fun (W : World) (hb : Below w.heap.size w W) => blk1 (h0.below hb h0.lt)
  have K1 := fun (W : World) (hb : Below w.heap.size w W) => blk1 (h1.below hb h1.lt)
  have K2 := fun (W : World) (hb : Below w.heap.size w W) => blk1 (h2.below hb h2.lt)
  have KW := fun (W : World) (hb : Below w.heap.size w W) => blk10 (hW.box.below hb hW.box.lt)
  have hap := hW.pn.apart (Nat.le_refl w.heap.size)
  go_enter Tryz.func117, Tryz.ntmps117
  go_wp2_with fail
  generalize (w.alloc (.cells #[.slice none 0 0, .slice none 0 0] 28)) = V at hB_1 r rk rkf ⊢
  clear hB
  have hB := hB_1
  clear hB_1
  have s0 : Below w.heap.size w V.drew := hB.drew
  have r0 := r.drew
  refine wp_region_late (S := fun W => Below w.heap.size w W) (late := fun _ => false) (by kernel_rfl) ?_
  generalize V.drew = U0 at s0 r0 ⊢
  simp only [List.size_toArray, List.length_cons, List.length_nil, Nat.reduceAdd, Array.replicate_succ, Array.replicate_zero, List.push_toArray, List.nil_append, List.cons_append]
  refine wpLate_take (i := 0) (oi := _) (v := .pointer (some ⟨G, 0, none⟩)) (d := some 5) rfl rfl (by kernel_rfl) (by kernel_rfl) (by kernel_rfl) (by kernel_rfl) (fun _ _ _ h => h) rfl (fun W hW => by have z := K0 W hW; go_simp) s0 ?_
  simp only [Act.put, List.setIfInBounds_toArray, List.set_cons_zero, List.set_cons_succ]
  refine wpLate_take0 (i := 1) (oi := _) (v := .pointer (some ⟨G, 0, none⟩)) (d := some 6) rfl rfl (by kernel_rfl) (by kernel_rfl) (by kernel_rfl) (fun _ _ _ h => h) rfl (fun W => by go_simp) ?_
  simp only [Act.put, List.setIfInBounds_toArray, List.set_cons_zero, List.set_cons_succ]
  refine wpLate_take0 (i := 2) (oi := _) (v := .pointer (some ⟨G, 4, none⟩)) (d := some 7) rfl rfl (by kernel_rfl) (by kernel_rfl) (by kernel_rfl) (fun _ _ _ h => h) rfl (fun W => by go_simp) ?_
  simp only [Act.put, List.setIfInBounds_toArray, List.set_cons_zero, List.set_cons_succ]
  refine wpLate_take (i := 3) (oi := _) (v := dval D dp dq) (d := some 8) rfl rfl (by kernel_rfl) (by kernel_rfl) (by kernel_rfl) (by kernel_rfl) (fun _ _ _ h => h) rfl (fun W hW => by have z := KW W hW; go_simp) s0 ?_
  simp only [Act.put, List.setIfInBounds_toArray, List.set_cons_zero, List.set_cons_succ]
  refine wpLate_take (i := 4) (oi := _) (v := .pointer (some ⟨G, 0, none⟩)) (d := some 9) rfl rfl (by kernel_rfl) (by kernel_rfl) (by kernel_rfl) (by kernel_rfl) (fun _ _ _ h => h) rfl (fun W hW => by have z := K0 W hW; go_simp) s0 ?_
  simp only [Act.put, List.setIfInBounds_toArray, List.set_cons_zero, List.set_cons_succ]
  refine wpLate_take0 (i := 5) (oi := _) (v := .pointer (some ⟨G, 0, none⟩)) (d := some 10) rfl rfl (by kernel_rfl) (by kernel_rfl) (by kernel_rfl) (fun _ _ _ h => h) rfl (fun W => by go_simp) ?_
  simp only [Act.put, List.setIfInBounds_toArray, List.set_cons_zero, List.set_cons_succ]
  refine wpLate_take0 (i := 6) (oi := _) (v := .pointer (some ⟨G, 0, none⟩)) (d := some 11) rfl rfl (by kernel_rfl) (by kernel_rfl) (by kernel_rfl) (fun _ _ _ h => h) rfl (fun W => by go_simp) ?_
  simp only [Act.put, List.setIfInBounds_toArray, List.set_cons_zero, List.set_cons_succ]
  refine wpLate_take (i := 7) (oi := _) (v := pval X p q) (d := some 12) rfl rfl (by kernel_rfl) (by kernel_rfl) (by kernel_rfl) (by kernel_rfl) (fun _ _ _ h => h) rfl (fun W hW => by have z := KW W hW; go_simp) s0 ?_
  simp only [Act.put, List.setIfInBounds_toArray, List.set_cons_zero, List.set_cons_succ]
  refine wpLate_take (i := 8) (oi := _) (v := .int .i64 k) (d := some 13) rfl rfl (by kernel_rfl) (by kernel_rfl) (by kernel_rfl) (by kernel_rfl) (fun _ _ _ h => h) rfl (fun W hW => by have z := K1 W hW; go_simp) s0 ?_
  simp only [Act.put, List.setIfInBounds_toArray, List.set_cons_zero, List.set_cons_succ]
  refine wpLate_take (i := 9) (oi := _) (v := .int .i64 b) (d := some 14) rfl rfl (by kernel_rfl) (by kernel_rfl) (by kernel_rfl) (by kernel_rfl) (fun _ _ _ h => h) rfl (fun W hW => by have z := K2 W hW; go_simp) s0 ?_
  simp only [Act.put, List.setIfInBounds_toArray, List.set_cons_zero, List.set_cons_succ]
  refine wpLate_one (i := 10) (by kernel_rfl) rfl rfl (fun K' hK => ?_)
  refine oper_calls (f := 118) (args := #[dval D dp dq, pval X p q, .int .i64 k, .int .i64 b]) (w' := U0) (by go_simp) ((hcall U0 s0).mono ?_)
  rintro e U1 ⟨⟨⟨pa, pc⟩, ⟨qa, qc⟩, rfl, i1, o1⟩, hb1⟩
  refine ⟨_, rfl, ?_⟩
  show K' (Act.put _ (some 15) _) _
  have s1 := s0.trans (hb1.mono s0.size)
  have r1 := r0.below hb1 r0.lt
  have og := o1 w.heap.size r0.lt hap
  have f1 := r1.frozen
  have z1 := blk2 r1
  refine hK _ _ (fun _ _ => s1) ?_
  simp only [Act.put, List.setIfInBounds_toArray, List.set_cons_zero, List.set_cons_succ]
  refine wpLate_take0 (i := 11) (oi := _) (v := pval (Pn.cntAdd D X k b).1 ⟨pa, pc⟩ ⟨qa, qc⟩) (d := some 16) rfl rfl (by kernel_rfl) (by kernel_rfl) (by kernel_rfl) (fun _ _ _ h => h) rfl (fun W => by first | rfl | go_simp) ?_
  simp only [Act.put, List.setIfInBounds_toArray, List.set_cons_zero, List.set_cons_succ]
  refine wpLate_take0 (i := 12) (oi := _) (v := .int .i64 (Pn.cntAdd D X k b).2) (d := some 17) rfl rfl (by kernel_rfl) (by kernel_rfl) (by kernel_rfl) (fun _ _ _ h => h) rfl (fun W => by first | rfl | go_simp) ?_
  simp only [Act.put, List.setIfInBounds_toArray, List.set_cons_zero, List.set_cons_succ]
  refine wpLate_one (i := 13) (by kernel_rfl) rfl rfl (fun K' hK => ?_)
  refine oper_skip (w' := (U1.setCell ⟨w.heap.size, 0, none⟩ (.slice pa (Pn.cntAdd D X k b).1.targets.length pc)).setCell ⟨w.heap.size, 1, none⟩ (.slice qa (Pn.cntAdd D X k b).1.data.length qc)) (by have qq := r1.set 0 (.slice pa (Pn.cntAdd D X k b).1.targets.length pc); have uf2 := qq.frozen; have u1 := blk2 qq; go_simp) ?_
  show K' (Act.put _ none _) _
  have s2 := below_set2 s1 (g := w.heap.size) (Nat.le_refl _) (.slice pa (Pn.cntAdd D X k b).1.targets.length pc) (.slice qa (Pn.cntAdd D X k b).1.data.length qc)
  have r2 := blk_set2 r1 (.slice pa (Pn.cntAdd D X k b).1.targets.length pc) (.slice qa (Pn.cntAdd D X k b).1.data.length qc)
  have i2 := i1.off2 og (.slice pa (Pn.cntAdd D X k b).1.targets.length pc) (.slice qa (Pn.cntAdd D X k b).1.data.length qc)
  have yy := blk2 r2
  refine hK _ _ (fun _ _ => s2) ?_
  try simp only [Act.put, List.setIfInBounds_toArray, List.set_cons_zero, List.set_cons_succ]
  refine wpLate_take0 (i := 14) (oi := _) (v := .int .i64 (Pn.cntAdd D X k b).2) (d := some 4) rfl rfl (by kernel_rfl) (by kernel_rfl) (by kernel_rfl) (fun _ _ _ h => h) rfl (fun W => by rfl) ?_
  simp only [Act.put, List.setIfInBounds_toArray, List.set_cons_zero, List.set_cons_succ]
  refine wpLate_done (by kernel_rfl) ?_ _
  go_wp2_with fail
  refine bodyPost_ret (v := .tuple #[pval (Pn.cntAdd D X k b).1 ⟨pa, pc⟩ ⟨qa, qc⟩, .int .i64 (Pn.cntAdd D X k b).2]) (by simp [results, Tryz.results117, go_sem, yy]) rfl ?_
  exact ⟨⟨⟨pa, pc⟩, ⟨qa, qc⟩, rfl, i2, fun b hb ho => o1 b (Nat.lt_trans hb r0.lt) ho⟩, s2⟩
set_option maxRecDepth 100000 in
set_option maxHeartbeats 1000000 in
theorem pt_set1 (D : Dk) (dp dq : Pl) (g h : Int) (X : Pn) (p q : Pl) (e : Int) (G : Nat) (w : World) (hW : WkAt w G D dp dq g h X p q e) (hD : D.fit = true) (t i K A : Int) (b0 : Nat) (t0 : TypeId) (h0 : Blk w b0 t0 #[.pointer (some ⟨G, 0, none⟩)]) (b1 : Nat) (t1 : TypeId) (h1 : Blk w b1 t1 #[.int .i64 t]) (b2 : Nat) (t2 : TypeId) (h2 : Blk w b2 t2 #[.int .i64 i]) (b3 : Nat) (t3 : TypeId) (h3 : Blk w b3 t3 #[.int .i64 K, .int .i64 A]) :
    Calls Tryz.prog 119 #[.pointer (some ⟨b0, 0, none⟩), .pointer (some ⟨b1, 0, none⟩), .pointer (some ⟨b2, 0, none⟩), .pointer (some ⟨b3, 0, none⟩)] w fun x w' => RetPn w.heap.size X p q (Pn.tabSet D X t i K A) x w' ∧ Below w.heap.size w w' := by
  have hcall := fun (W : World) (hb : Below w.heap.size w W) => t_set D X dp dq p q W (hW.dk.below hb) (hW.pn.below hb) hD hW.fit t i K A
  have hB := Below.refl w.heap.size w
  have r := Blk.new w 28 #[.slice none 0 0, .slice none 0 0]
  have rk := blk2 r
  have rkf := r.frozen
  have hB_1 := hB.alloc hB.size (.cells #[.slice none 0 0, .slice none 0 0] 28)
  have K0 := fun (W : World) (hb : Below w.heap.size w W) => blk1 (h0.below hb h0.lt)
  have K1 := fun (W : World) (hb : Below w.heap.size w W) => blk1 (h1.below hb h1.lt)
  have K2 := fun (W : World) (hb : Below w.heap.size w W) => blk1 (h2.below hb h2.lt)
  have K3 := fun (W : World) (hb : Below w.heap.size w W) => blk2 (h3.below hb h3.lt)
  have KW := fun (W : World) (hb : Below w.heap.size w W) => blk10 (hW.box.below hb hW.box.lt)
  have hap := hW.pn.apart (Nat.le_refl w.heap.size)
  go_enter Tryz.func119, Tryz.ntmps119
  go_wp2_with fail
  generalize (w.alloc (.cells #[.slice none 0 0, .slice none 0 0] 28)) = V at hB_1 r rk rkf ⊢
  clear hB
  have hB := hB_1
  clear hB_1
  have s0 : Below w.heap.size w V.drew := hB.drew
  have r0 := r.drew
  refine wp_region_late (S := fun W => Below w.heap.size w W) (late := fun _ => false) (by kernel_rfl) ?_
  generalize V.drew = U0 at s0 r0 ⊢
  simp only [List.size_toArray, List.length_cons, List.length_nil, Nat.reduceAdd, Array.replicate_succ, Array.replicate_zero, List.push_toArray, List.nil_append, List.cons_append]
  refine wpLate_take (i := 0) (oi := _) (v := .pointer (some ⟨G, 0, none⟩)) (d := some 6) rfl rfl (by kernel_rfl) (by kernel_rfl) (by kernel_rfl) (by kernel_rfl) (fun _ _ _ h => h) rfl (fun W hW => by have z := K0 W hW; go_simp) s0 ?_
  simp only [Act.put, List.setIfInBounds_toArray, List.set_cons_zero, List.set_cons_succ]
  refine wpLate_take0 (i := 1) (oi := _) (v := .pointer (some ⟨G, 0, none⟩)) (d := some 7) rfl rfl (by kernel_rfl) (by kernel_rfl) (by kernel_rfl) (fun _ _ _ h => h) rfl (fun W => by go_simp) ?_
  simp only [Act.put, List.setIfInBounds_toArray, List.set_cons_zero, List.set_cons_succ]
  refine wpLate_take0 (i := 2) (oi := _) (v := .pointer (some ⟨G, 4, none⟩)) (d := some 8) rfl rfl (by kernel_rfl) (by kernel_rfl) (by kernel_rfl) (fun _ _ _ h => h) rfl (fun W => by go_simp) ?_
  simp only [Act.put, List.setIfInBounds_toArray, List.set_cons_zero, List.set_cons_succ]
  refine wpLate_take (i := 3) (oi := _) (v := dval D dp dq) (d := some 9) rfl rfl (by kernel_rfl) (by kernel_rfl) (by kernel_rfl) (by kernel_rfl) (fun _ _ _ h => h) rfl (fun W hW => by have z := KW W hW; go_simp) s0 ?_
  simp only [Act.put, List.setIfInBounds_toArray, List.set_cons_zero, List.set_cons_succ]
  refine wpLate_take (i := 4) (oi := _) (v := .pointer (some ⟨G, 0, none⟩)) (d := some 10) rfl rfl (by kernel_rfl) (by kernel_rfl) (by kernel_rfl) (by kernel_rfl) (fun _ _ _ h => h) rfl (fun W hW => by have z := K0 W hW; go_simp) s0 ?_
  simp only [Act.put, List.setIfInBounds_toArray, List.set_cons_zero, List.set_cons_succ]
  refine wpLate_take0 (i := 5) (oi := _) (v := .pointer (some ⟨G, 0, none⟩)) (d := some 11) rfl rfl (by kernel_rfl) (by kernel_rfl) (by kernel_rfl) (fun _ _ _ h => h) rfl (fun W => by go_simp) ?_
  simp only [Act.put, List.setIfInBounds_toArray, List.set_cons_zero, List.set_cons_succ]
  refine wpLate_take0 (i := 6) (oi := _) (v := .pointer (some ⟨G, 0, none⟩)) (d := some 12) rfl rfl (by kernel_rfl) (by kernel_rfl) (by kernel_rfl) (fun _ _ _ h => h) rfl (fun W => by go_simp) ?_
  simp only [Act.put, List.setIfInBounds_toArray, List.set_cons_zero, List.set_cons_succ]
  refine wpLate_take (i := 7) (oi := _) (v := pval X p q) (d := some 13) rfl rfl (by kernel_rfl) (by kernel_rfl) (by kernel_rfl) (by kernel_rfl) (fun _ _ _ h => h) rfl (fun W hW => by have z := KW W hW; go_simp) s0 ?_
  simp only [Act.put, List.setIfInBounds_toArray, List.set_cons_zero, List.set_cons_succ]
  refine wpLate_take (i := 8) (oi := _) (v := .int .i64 t) (d := some 14) rfl rfl (by kernel_rfl) (by kernel_rfl) (by kernel_rfl) (by kernel_rfl) (fun _ _ _ h => h) rfl (fun W hW => by have z := K1 W hW; go_simp) s0 ?_
  simp only [Act.put, List.setIfInBounds_toArray, List.set_cons_zero, List.set_cons_succ]
  refine wpLate_take (i := 9) (oi := _) (v := .int .i64 i) (d := some 15) rfl rfl (by kernel_rfl) (by kernel_rfl) (by kernel_rfl) (by kernel_rfl) (fun _ _ _ h => h) rfl (fun W hW => by have z := K2 W hW; go_simp) s0 ?_
  simp only [Act.put, List.setIfInBounds_toArray, List.set_cons_zero, List.set_cons_succ]
  refine wpLate_take (i := 10) (oi := _) (v := eval2 K A) (d := some 16) rfl rfl (by kernel_rfl) (by kernel_rfl) (by kernel_rfl) (by kernel_rfl) (fun _ _ _ h => h) rfl (fun W hW => by have z := K3 W hW; go_simp) s0 ?_
  simp only [Act.put, List.setIfInBounds_toArray, List.set_cons_zero, List.set_cons_succ]
  refine wpLate_one (i := 11) (by kernel_rfl) rfl rfl (fun K' hK => ?_)
  refine oper_calls (f := 120) (args := #[dval D dp dq, pval X p q, .int .i64 t, .int .i64 i, eval2 K A]) (w' := U0) (by go_simp) ((hcall U0 s0).mono ?_)
  rintro e U1 ⟨⟨⟨pa, pc⟩, ⟨qa, qc⟩, rfl, i1, o1⟩, hb1⟩
  refine ⟨_, rfl, ?_⟩
  show K' (Act.put _ (some 17) _) _
  have s1 := s0.trans (hb1.mono s0.size)
  have r1 := r0.below hb1 r0.lt
  have og := o1 w.heap.size r0.lt hap
  have f1 := r1.frozen
  have z1 := blk2 r1
  refine hK _ _ (fun _ _ => s1) ?_
  simp only [Act.put, List.setIfInBounds_toArray, List.set_cons_zero, List.set_cons_succ]
  refine wpLate_take0 (i := 12) (oi := _) (v := pval (Pn.tabSet D X t i K A).1 ⟨pa, pc⟩ ⟨qa, qc⟩) (d := some 18) rfl rfl (by kernel_rfl) (by kernel_rfl) (by kernel_rfl) (fun _ _ _ h => h) rfl (fun W => by first | rfl | go_simp) ?_
  simp only [Act.put, List.setIfInBounds_toArray, List.set_cons_zero, List.set_cons_succ]
  refine wpLate_take0 (i := 13) (oi := _) (v := .int .i64 (Pn.tabSet D X t i K A).2) (d := some 19) rfl rfl (by kernel_rfl) (by kernel_rfl) (by kernel_rfl) (fun _ _ _ h => h) rfl (fun W => by first | rfl | go_simp) ?_
  simp only [Act.put, List.setIfInBounds_toArray, List.set_cons_zero, List.set_cons_succ]
  refine wpLate_one (i := 14) (by kernel_rfl) rfl rfl (fun K' hK => ?_)
  refine oper_skip (w' := (U1.setCell ⟨w.heap.size, 0, none⟩ (.slice pa (Pn.tabSet D X t i K A).1.targets.length pc)).setCell ⟨w.heap.size, 1, none⟩ (.slice qa (Pn.tabSet D X t i K A).1.data.length qc)) (by have qq := r1.set 0 (.slice pa (Pn.tabSet D X t i K A).1.targets.length pc); have uf2 := qq.frozen; have u1 := blk2 qq; go_simp) ?_
  show K' (Act.put _ none _) _
  have s2 := below_set2 s1 (g := w.heap.size) (Nat.le_refl _) (.slice pa (Pn.tabSet D X t i K A).1.targets.length pc) (.slice qa (Pn.tabSet D X t i K A).1.data.length qc)
  have r2 := blk_set2 r1 (.slice pa (Pn.tabSet D X t i K A).1.targets.length pc) (.slice qa (Pn.tabSet D X t i K A).1.data.length qc)
  have i2 := i1.off2 og (.slice pa (Pn.tabSet D X t i K A).1.targets.length pc) (.slice qa (Pn.tabSet D X t i K A).1.data.length qc)
  have yy := blk2 r2
  refine hK _ _ (fun _ _ => s2) ?_
  try simp only [Act.put, List.setIfInBounds_toArray, List.set_cons_zero, List.set_cons_succ]
  refine wpLate_take0 (i := 15) (oi := _) (v := .int .i64 (Pn.tabSet D X t i K A).2) (d := some 5) rfl rfl (by kernel_rfl) (by kernel_rfl) (by kernel_rfl) (fun _ _ _ h => h) rfl (fun W => by rfl) ?_
  simp only [Act.put, List.setIfInBounds_toArray, List.set_cons_zero, List.set_cons_succ]
  refine wpLate_done (by kernel_rfl) ?_ _
  go_wp2_with fail
  refine bodyPost_ret (v := .tuple #[pval (Pn.tabSet D X t i K A).1 ⟨pa, pc⟩ ⟨qa, qc⟩, .int .i64 (Pn.tabSet D X t i K A).2]) (by simp [results, Tryz.results119, go_sem, yy]) rfl ?_
  exact ⟨⟨⟨pa, pc⟩, ⟨qa, qc⟩, rfl, i2, fun b hb ho => o1 b (Nat.lt_trans hb r0.lt) ho⟩, s2⟩
set_option maxRecDepth 100000 in
set_option maxHeartbeats 1000000 in
theorem pt_own3 (D : Dk) (dp dq : Pl) (g h : Int) (X : Pn) (p q : Pl) (e : Int) (G : Nat) (w : World) (hW : WkAt w G D dp dq g h X p q e) (hD : D.fit = true) (k K A : Int) (b1 : Nat) (t1 : TypeId) (h1 : Blk w b1 t1 #[.pointer (some ⟨G, 0, none⟩)]) (b2 : Nat) (t2 : TypeId) (h2 : Blk w b2 t2 #[.int .i64 K, .int .i64 A]) :
    Calls Tryz.prog 113 #[.int .i64 k, .pointer (some ⟨b1, 0, none⟩), .pointer (some ⟨b2, 0, none⟩)] w fun x w' => RetPn w.heap.size X p q (Pn.tabCopy D X A k) x w' ∧ Below w.heap.size w w' := by
  have hcall := fun (W : World) (hb : Below w.heap.size w W) => t_copy D X dp dq p q W (hW.dk.below hb) (hW.pn.below hb) hD hW.fit A k
  have hB := Below.refl w.heap.size w
  have r := Blk.new w 28 #[.slice none 0 0, .slice none 0 0]
  have rk := blk2 r
  have rkf := r.frozen
  have hB_1 := hB.alloc hB.size (.cells #[.slice none 0 0, .slice none 0 0] 28)
  have K1 := fun (W : World) (hb : Below w.heap.size w W) => blk1 (h1.below hb h1.lt)
  have K2 := fun (W : World) (hb : Below w.heap.size w W) => blk2 (h2.below hb h2.lt)
  have KW := fun (W : World) (hb : Below w.heap.size w W) => blk10 (hW.box.below hb hW.box.lt)
  have hap := hW.pn.apart (Nat.le_refl w.heap.size)
  go_enter Tryz.func113, Tryz.ntmps113
  go_wp2_with fail
  generalize (w.alloc (.cells #[.slice none 0 0, .slice none 0 0] 28)) = V at hB_1 r rk rkf ⊢
  clear hB
  have hB := hB_1
  clear hB_1
  have s0 : Below w.heap.size w V.drew := hB.drew
  have r0 := r.drew
  refine wp_region_late (S := fun W => Below w.heap.size w W) (late := fun _ => false) (by kernel_rfl) ?_
  generalize V.drew = U0 at s0 r0 ⊢
  simp only [List.size_toArray, List.length_cons, List.length_nil, Nat.reduceAdd, Array.replicate_succ, Array.replicate_zero, List.push_toArray, List.nil_append, List.cons_append]
  refine wpLate_take (i := 0) (oi := _) (v := .pointer (some ⟨G, 0, none⟩)) (d := some 6) rfl rfl (by kernel_rfl) (by kernel_rfl) (by kernel_rfl) (by kernel_rfl) (fun _ _ _ h => h) rfl (fun W hW => by have z := K1 W hW; go_simp) s0 ?_
  simp only [Act.put, List.setIfInBounds_toArray, List.set_cons_zero, List.set_cons_succ]
  refine wpLate_take0 (i := 1) (oi := _) (v := .pointer (some ⟨G, 0, none⟩)) (d := some 7) rfl rfl (by kernel_rfl) (by kernel_rfl) (by kernel_rfl) (fun _ _ _ h => h) rfl (fun W => by go_simp) ?_
  simp only [Act.put, List.setIfInBounds_toArray, List.set_cons_zero, List.set_cons_succ]
  refine wpLate_take0 (i := 2) (oi := _) (v := .pointer (some ⟨G, 4, none⟩)) (d := some 8) rfl rfl (by kernel_rfl) (by kernel_rfl) (by kernel_rfl) (fun _ _ _ h => h) rfl (fun W => by go_simp) ?_
  simp only [Act.put, List.setIfInBounds_toArray, List.set_cons_zero, List.set_cons_succ]
  refine wpLate_take (i := 3) (oi := _) (v := dval D dp dq) (d := some 9) rfl rfl (by kernel_rfl) (by kernel_rfl) (by kernel_rfl) (by kernel_rfl) (fun _ _ _ h => h) rfl (fun W hW => by have z := KW W hW; go_simp) s0 ?_
  simp only [Act.put, List.setIfInBounds_toArray, List.set_cons_zero, List.set_cons_succ]
  refine wpLate_take (i := 4) (oi := _) (v := .pointer (some ⟨G, 0, none⟩)) (d := some 10) rfl rfl (by kernel_rfl) (by kernel_rfl) (by kernel_rfl) (by kernel_rfl) (fun _ _ _ h => h) rfl (fun W hW => by have z := K1 W hW; go_simp) s0 ?_
  simp only [Act.put, List.setIfInBounds_toArray, List.set_cons_zero, List.set_cons_succ]
  refine wpLate_take0 (i := 5) (oi := _) (v := .pointer (some ⟨G, 0, none⟩)) (d := some 11) rfl rfl (by kernel_rfl) (by kernel_rfl) (by kernel_rfl) (fun _ _ _ h => h) rfl (fun W => by go_simp) ?_
  simp only [Act.put, List.setIfInBounds_toArray, List.set_cons_zero, List.set_cons_succ]
  refine wpLate_take0 (i := 6) (oi := _) (v := .pointer (some ⟨G, 0, none⟩)) (d := some 12) rfl rfl (by kernel_rfl) (by kernel_rfl) (by kernel_rfl) (fun _ _ _ h => h) rfl (fun W => by go_simp) ?_
  simp only [Act.put, List.setIfInBounds_toArray, List.set_cons_zero, List.set_cons_succ]
  refine wpLate_take (i := 7) (oi := _) (v := pval X p q) (d := some 13) rfl rfl (by kernel_rfl) (by kernel_rfl) (by kernel_rfl) (by kernel_rfl) (fun _ _ _ h => h) rfl (fun W hW => by have z := KW W hW; go_simp) s0 ?_
  simp only [Act.put, List.setIfInBounds_toArray, List.set_cons_zero, List.set_cons_succ]
  refine wpLate_take0 (i := 8) (oi := _) (v := .pointer (some ⟨b2, 1, none⟩)) (d := some 14) rfl rfl (by kernel_rfl) (by kernel_rfl) (by kernel_rfl) (fun _ _ _ h => h) rfl (fun W => by go_simp) ?_
  simp only [Act.put, List.setIfInBounds_toArray, List.set_cons_zero, List.set_cons_succ]
  refine wpLate_take (i := 9) (oi := _) (v := .int .i64 A) (d := some 15) rfl rfl (by kernel_rfl) (by kernel_rfl) (by kernel_rfl) (by kernel_rfl) (fun _ _ _ h => h) rfl (fun W hW => by have z := K2 W hW; go_simp) s0 ?_
  simp only [Act.put, List.setIfInBounds_toArray, List.set_cons_zero, List.set_cons_succ]
  refine wpLate_take0 (i := 10) (oi := _) (v := .int .i64 k) (d := some 16) rfl rfl (by kernel_rfl) (by kernel_rfl) (by kernel_rfl) (fun _ _ _ h => h) rfl (fun W => by first | rfl | go_simp) ?_
  simp only [Act.put, List.setIfInBounds_toArray, List.set_cons_zero, List.set_cons_succ]
  refine wpLate_one (i := 11) (by kernel_rfl) rfl rfl (fun K' hK => ?_)
  refine oper_calls (f := 114) (args := #[dval D dp dq, pval X p q, .int .i64 A, .int .i64 k]) (w' := U0) (by go_simp) ((hcall U0 s0).mono ?_)
  rintro e U1 ⟨⟨⟨pa, pc⟩, ⟨qa, qc⟩, rfl, i1, o1⟩, hb1⟩
  refine ⟨_, rfl, ?_⟩
  show K' (Act.put _ (some 17) _) _
  have s1 := s0.trans (hb1.mono s0.size)
  have r1 := r0.below hb1 r0.lt
  have og := o1 w.heap.size r0.lt hap
  have f1 := r1.frozen
  have z1 := blk2 r1
  refine hK _ _ (fun _ _ => s1) ?_
  simp only [Act.put, List.setIfInBounds_toArray, List.set_cons_zero, List.set_cons_succ]
  refine wpLate_take0 (i := 12) (oi := _) (v := pval (Pn.tabCopy D X A k).1 ⟨pa, pc⟩ ⟨qa, qc⟩) (d := some 18) rfl rfl (by kernel_rfl) (by kernel_rfl) (by kernel_rfl) (fun _ _ _ h => h) rfl (fun W => by first | rfl | go_simp) ?_
  simp only [Act.put, List.setIfInBounds_toArray, List.set_cons_zero, List.set_cons_succ]
  refine wpLate_take0 (i := 13) (oi := _) (v := .int .i64 (Pn.tabCopy D X A k).2) (d := some 19) rfl rfl (by kernel_rfl) (by kernel_rfl) (by kernel_rfl) (fun _ _ _ h => h) rfl (fun W => by first | rfl | go_simp) ?_
  simp only [Act.put, List.setIfInBounds_toArray, List.set_cons_zero, List.set_cons_succ]
  refine wpLate_one (i := 14) (by kernel_rfl) rfl rfl (fun K' hK => ?_)
  refine oper_skip (w' := (U1.setCell ⟨w.heap.size, 0, none⟩ (.slice pa (Pn.tabCopy D X A k).1.targets.length pc)).setCell ⟨w.heap.size, 1, none⟩ (.slice qa (Pn.tabCopy D X A k).1.data.length qc)) (by have qq := r1.set 0 (.slice pa (Pn.tabCopy D X A k).1.targets.length pc); have uf2 := qq.frozen; have u1 := blk2 qq; go_simp) ?_
  show K' (Act.put _ none _) _
  have s2 := below_set2 s1 (g := w.heap.size) (Nat.le_refl _) (.slice pa (Pn.tabCopy D X A k).1.targets.length pc) (.slice qa (Pn.tabCopy D X A k).1.data.length qc)
  have r2 := blk_set2 r1 (.slice pa (Pn.tabCopy D X A k).1.targets.length pc) (.slice qa (Pn.tabCopy D X A k).1.data.length qc)
  have i2 := i1.off2 og (.slice pa (Pn.tabCopy D X A k).1.targets.length pc) (.slice qa (Pn.tabCopy D X A k).1.data.length qc)
  have yy := blk2 r2
  refine hK _ _ (fun _ _ => s2) ?_
  try simp only [Act.put, List.setIfInBounds_toArray, List.set_cons_zero, List.set_cons_succ]
  refine wpLate_take0 (i := 15) (oi := _) (v := .int .i64 (Pn.tabCopy D X A k).2) (d := some 5) rfl rfl (by kernel_rfl) (by kernel_rfl) (by kernel_rfl) (fun _ _ _ h => h) rfl (fun W => by rfl) ?_
  simp only [Act.put, List.setIfInBounds_toArray, List.set_cons_zero, List.set_cons_succ]
  refine wpLate_done (by kernel_rfl) ?_ _
  go_wp2_with fail
  refine bodyPost_ret (v := .tuple #[pval (Pn.tabCopy D X A k).1 ⟨pa, pc⟩ ⟨qa, qc⟩, .int .i64 (Pn.tabCopy D X A k).2]) (by simp [results, Tryz.results113, go_sem, yy]) rfl ?_
  exact ⟨⟨⟨pa, pc⟩, ⟨qa, qc⟩, rfl, i2, fun b hb ho => o1 b (Nat.lt_trans hb r0.lt) ho⟩, s2⟩
theorem pt_own2 (D : Dk) (dp dq : Pl) (g h : Int) (X : Pn) (p q : Pl) (e : Int) (G : Nat) (w : World) (hW : WkAt w G D dp dq g h X p q e) (hD : D.fit = true) (k : Int) (b1 : Nat) (t1 : TypeId) (h1 : Blk w b1 t1 #[.pointer (some ⟨G, 0, none⟩)]) :
    Calls Tryz.prog 110 #[.int .i64 k, .pointer (some ⟨b1, 0, none⟩)] w fun x w' => RetPn w.heap.size X p q (Pn.tabBlank X k) x w' ∧ Below w.heap.size w w' := by
  have hcall := fun (W : World) (hb : Below w.heap.size w W) => t_blank X p q W (hW.pn.below hb) hW.fit k
  have hap := hW.pn.apart (Nat.le_refl w.heap.size)
  have hlt := hW.box.lt
  have hB := Below.refl w.heap.size w
  have k1 := blk1 h1
  have hWb := hW.box
  have kW := blk10 hWb
  have r := Blk.new w 28 #[.slice none 0 0, .slice none 0 0]
  have rk := blk2 r
  have rkf := r.frozen
  have hB_1 := hB.alloc hB.size (.cells #[.slice none 0 0, .slice none 0 0] 28)
  have h1_2 := h1.alloc (.cells #[.slice none 0 0, .slice none 0 0] 28)
  have k1_2 := blk1 h1_2
  have hWb_3 := hWb.alloc (.cells #[.slice none 0 0, .slice none 0 0] 28)
  have kW_3 := blk10 hWb_3
  go_enter Tryz.func110, Tryz.ntmps110
  go_wp2_with fail
  generalize (w.alloc (.cells #[.slice none 0 0, .slice none 0 0] 28)) = V at hB_1 h1_2 k1_2 hWb_3 kW_3 r rk rkf ⊢
  clear hB h1 hWb k1 kW
  have hB := hB_1
  have h1 := h1_2
  have k1 := k1_2
  have hWb := hWb_3
  have kW := kW_3
  clear hB_1 h1_2 k1_2 hWb_3 kW_3
  have rl := r.lt
  go_wp2_with fail
  go_at_call 111
  refine ((hcall _ hB)).mono ?_
  rintro e w1 ⟨⟨⟨pa, pc⟩, ⟨qa, qc⟩, rfl, i1, o1⟩, hb1⟩
  replace hB := bt hB hb1
  replace h1 := h1.below hb1 h1.lt
  replace k1 := blk1 h1
  replace hWb := hWb.below hb1 hWb.lt
  replace kW := blk10 hWb
  replace r := r.below hb1 r.lt
  replace rk := blk2 r
  replace rkf := r.frozen
  have og := o1 w.heap.size rl hap
  go_wp2_with fail
  have v0 := r
  have yy := blk2 (blk_set2 v0 (.slice pa (Pn.tabBlank X k).1.targets.length pc) (.slice qa (Pn.tabBlank X k).1.data.length qc))
  have b9 := below_set2 hB (g := w.heap.size) (Nat.le_refl _) (.slice pa (Pn.tabBlank X k).1.targets.length pc) (.slice qa (Pn.tabBlank X k).1.data.length qc)
  have i2 := i1.off2 og (.slice pa (Pn.tabBlank X k).1.targets.length pc) (.slice qa (Pn.tabBlank X k).1.data.length qc)
  refine bodyPost_ret (v := .tuple #[pval (Pn.tabBlank X k).1 ⟨pa, pc⟩ ⟨qa, qc⟩, .int .i64 (Pn.tabBlank X k).2]) (by simp [results, Tryz.results110, go_sem, yy]) rfl ?_
  exact ⟨⟨⟨pa, pc⟩, ⟨qa, qc⟩, rfl, i2, fun b hb ho => o1 b (Nat.lt_trans hb rl) ho⟩, b9⟩
theorem grown_new {a b : World} {G k : Nat} (h : a.grownBy b (some G)) (hk : a.heap.size ≤ k) (o : Nat) (v : Value) : a.grownBy (b.setCell ⟨k, o, none⟩ v) (some G) :=
  ⟨h.os, h.tape, h.output, by rw [World.size_setCell]; exact h.size, fun j hj hne => (Below.heap_setCell b ⟨k, o, none⟩ v j (by show j ≠ k; omega)).trans (h.block j hj hne)⟩
set_option maxRecDepth 100000 in
set_option maxHeartbeats 1000000 in
theorem pt_get1 (D : Dk) (dp dq : Pl) (g h : Int) (X : Pn) (p q : Pl) (e : Int) (G : Nat) (w : World) (hW : WkAt w G D dp dq g h X p q e) (hD : D.fit = true) (t i : Int) (b0 : Nat) (t0 : TypeId) (h0 : Blk w b0 t0 #[.pointer (some ⟨G, 0, none⟩)]) (b1 : Nat) (t1 : TypeId) (h1 : Blk w b1 t1 #[.int .i64 t]) (b2 : Nat) (t2 : TypeId) (h2 : Blk w b2 t2 #[.int .i64 i]) (b3 : Nat) (t3 : TypeId) (u0 u1 : Value) (h3 : Blk w b3 t3 #[u0, u1]) (nG : G ≠ b3) (n0 : b0 ≠ b3) (n1 : b1 ≠ b3) (n2 : b2 ≠ b3) (od : DkOff b3 D dp dq) (op : PnOff b3 X p q) :
    Calls Tryz.prog 115 #[.pointer (some ⟨b0, 0, none⟩), .pointer (some ⟨b1, 0, none⟩), .pointer (some ⟨b2, 0, none⟩), .pointer (some ⟨b3, 0, none⟩)] w fun x w' => x = .returned (.tuple #[pval X p q, .int .i64 (Pn.tabGet D X t i).2]) ∧ w.grownBy w' (some b3) ∧ Blk w' b3 t3 #[.int .i64 (Pn.tabGet D X t i).1.1, .int .i64 (Pn.tabGet D X t i).1.2] := by
  have hcall := fun (W : World) (hb : w.grownBy W (some b3)) => t_get D X dp dq p q W (hW.dk.grown hb od) (hW.pn.grown hb op) hD hW.fit t i
  have lx := h3.lt
  have hB := Below.refl w.heap.size w
  have r := Blk.new w 28 #[.slice none 0 0, .slice none 0 0]
  have rk := blk2 r
  have rkf := r.frozen
  have hB_1 := hB.alloc hB.size (.cells #[.slice none 0 0, .slice none 0 0] 28)
  have K0 := fun (W : World) (hb : w.grownBy W (some b3)) => blk1 (h0.grown hb n0)
  have K1 := fun (W : World) (hb : w.grownBy W (some b3)) => blk1 (h1.grown hb n1)
  have K2 := fun (W : World) (hb : w.grownBy W (some b3)) => blk1 (h2.grown hb n2)
  have KW := fun (W : World) (hb : w.grownBy W (some b3)) => blk10 (hW.box.grown hb nG)
  go_enter Tryz.func115, Tryz.ntmps115
  go_wp2_with fail
  generalize (w.alloc (.cells #[.slice none 0 0, .slice none 0 0] 28)) = V at hB_1 r rk rkf ⊢
  clear hB
  have hB := hB_1
  clear hB_1
  have s0 : w.grownBy V.drew (some b3) := grown_of hB.drew _
  have r0 := r.drew
  have v0 := h3.below hB.drew h3.lt
  refine wp_region_late (S := fun W => w.grownBy W (some b3)) (late := fun _ => false) (by kernel_rfl) ?_
  generalize V.drew = U0 at s0 r0 v0 ⊢
  simp only [List.size_toArray, List.length_cons, List.length_nil, Nat.reduceAdd, Array.replicate_succ, Array.replicate_zero, List.push_toArray, List.nil_append, List.cons_append]
  refine wpLate_take (i := 0) (oi := _) (v := .pointer (some ⟨G, 0, none⟩)) (d := some 8) rfl rfl (by kernel_rfl) (by kernel_rfl) (by kernel_rfl) (by kernel_rfl) (fun _ _ _ h => h) rfl (fun W hW => by have z := K0 W hW; go_simp) s0 ?_
  simp only [Act.put, List.setIfInBounds_toArray, List.set_cons_zero, List.set_cons_succ]
  refine wpLate_take0 (i := 1) (oi := _) (v := .pointer (some ⟨G, 0, none⟩)) (d := some 9) rfl rfl (by kernel_rfl) (by kernel_rfl) (by kernel_rfl) (fun _ _ _ h => h) rfl (fun W => by go_simp) ?_
  simp only [Act.put, List.setIfInBounds_toArray, List.set_cons_zero, List.set_cons_succ]
  refine wpLate_take0 (i := 2) (oi := _) (v := .pointer (some ⟨G, 4, none⟩)) (d := some 10) rfl rfl (by kernel_rfl) (by kernel_rfl) (by kernel_rfl) (fun _ _ _ h => h) rfl (fun W => by go_simp) ?_
  simp only [Act.put, List.setIfInBounds_toArray, List.set_cons_zero, List.set_cons_succ]
  refine wpLate_take (i := 3) (oi := _) (v := dval D dp dq) (d := some 11) rfl rfl (by kernel_rfl) (by kernel_rfl) (by kernel_rfl) (by kernel_rfl) (fun _ _ _ h => h) rfl (fun W hW => by have z := KW W hW; go_simp) s0 ?_
  simp only [Act.put, List.setIfInBounds_toArray, List.set_cons_zero, List.set_cons_succ]
  refine wpLate_take (i := 4) (oi := _) (v := .pointer (some ⟨G, 0, none⟩)) (d := some 12) rfl rfl (by kernel_rfl) (by kernel_rfl) (by kernel_rfl) (by kernel_rfl) (fun _ _ _ h => h) rfl (fun W hW => by have z := K0 W hW; go_simp) s0 ?_
  simp only [Act.put, List.setIfInBounds_toArray, List.set_cons_zero, List.set_cons_succ]
  refine wpLate_take0 (i := 5) (oi := _) (v := .pointer (some ⟨G, 0, none⟩)) (d := some 13) rfl rfl (by kernel_rfl) (by kernel_rfl) (by kernel_rfl) (fun _ _ _ h => h) rfl (fun W => by go_simp) ?_
  simp only [Act.put, List.setIfInBounds_toArray, List.set_cons_zero, List.set_cons_succ]
  refine wpLate_take0 (i := 6) (oi := _) (v := .pointer (some ⟨G, 0, none⟩)) (d := some 14) rfl rfl (by kernel_rfl) (by kernel_rfl) (by kernel_rfl) (fun _ _ _ h => h) rfl (fun W => by go_simp) ?_
  simp only [Act.put, List.setIfInBounds_toArray, List.set_cons_zero, List.set_cons_succ]
  refine wpLate_take (i := 7) (oi := _) (v := pval X p q) (d := some 15) rfl rfl (by kernel_rfl) (by kernel_rfl) (by kernel_rfl) (by kernel_rfl) (fun _ _ _ h => h) rfl (fun W hW => by have z := KW W hW; go_simp) s0 ?_
  simp only [Act.put, List.setIfInBounds_toArray, List.set_cons_zero, List.set_cons_succ]
  refine wpLate_take (i := 8) (oi := _) (v := .int .i64 t) (d := some 16) rfl rfl (by kernel_rfl) (by kernel_rfl) (by kernel_rfl) (by kernel_rfl) (fun _ _ _ h => h) rfl (fun W hW => by have z := K1 W hW; go_simp) s0 ?_
  simp only [Act.put, List.setIfInBounds_toArray, List.set_cons_zero, List.set_cons_succ]
  refine wpLate_take (i := 9) (oi := _) (v := .int .i64 i) (d := some 17) rfl rfl (by kernel_rfl) (by kernel_rfl) (by kernel_rfl) (by kernel_rfl) (fun _ _ _ h => h) rfl (fun W hW => by have z := K2 W hW; go_simp) s0 ?_
  simp only [Act.put, List.setIfInBounds_toArray, List.set_cons_zero, List.set_cons_succ]
  refine wpLate_one (i := 10) (by kernel_rfl) rfl rfl (fun K' hK => ?_)
  refine oper_calls (f := 116) (args := #[dval D dp dq, pval X p q, .int .i64 t, .int .i64 i]) (w' := U0) (by go_simp) ((hcall U0 s0).mono ?_)
  rintro e U1 ⟨rfl, hb1⟩
  refine ⟨_, rfl, ?_⟩
  show K' (Act.put _ (some 18) _) _
  have s1 := grown_then s0 hb1
  have v1 := v0.below hb1 v0.lt
  have r1 := r0.below hb1 r0.lt
  refine hK _ _ (fun _ _ => s1) ?_
  simp only [Act.put, List.setIfInBounds_toArray, List.set_cons_zero, List.set_cons_succ]
  refine wpLate_take0 (i := 11) (oi := _) (v := .tuple #[eval2 (Pn.tabGet D X t i).1.1 (Pn.tabGet D X t i).1.2, .int .i64 (Pn.tabGet D X t i).2]) (d := some 7) rfl rfl (by kernel_rfl) (by kernel_rfl) (by kernel_rfl) (fun _ _ _ h => h) rfl (fun W => by first | rfl | go_simp) ?_
  simp only [Act.put, List.setIfInBounds_toArray, List.set_cons_zero, List.set_cons_succ]
  refine wpLate_take0 (i := 12) (oi := _) (v := eval2 (Pn.tabGet D X t i).1.1 (Pn.tabGet D X t i).1.2) (d := some 19) rfl rfl (by kernel_rfl) (by kernel_rfl) (by kernel_rfl) (fun _ _ _ h => h) rfl (fun W => by first | rfl | go_simp) ?_
  simp only [Act.put, List.setIfInBounds_toArray, List.set_cons_zero, List.set_cons_succ]
  refine wpLate_take0 (i := 13) (oi := _) (v := .int .i64 (Pn.tabGet D X t i).2) (d := some 20) rfl rfl (by kernel_rfl) (by kernel_rfl) (by kernel_rfl) (fun _ _ _ h => h) rfl (fun W => by first | rfl | go_simp) ?_
  simp only [Act.put, List.setIfInBounds_toArray, List.set_cons_zero, List.set_cons_succ]
  refine wpLate_one (i := 14) (by kernel_rfl) rfl rfl (fun K' hK => ?_)
  refine oper_skip (w' := ((U1.setCell ⟨b3, 0, none⟩ (.int .i64 (Pn.tabGet D X t i).1.1)).setCell ⟨b3, 1, none⟩ (.int .i64 (Pn.tabGet D X t i).1.2))) (by have f1 := v1.frozen; have z1 := blk2 v1; have qq := v1.set 0 (.int .i64 (Pn.tabGet D X t i).1.1); have uf2 := qq.frozen; have u1 := blk2 qq; go_simp) ?_
  show K' (Act.put _ none _) _
  have s2 : w.grownBy ((U1.setCell ⟨b3, 0, none⟩ (.int .i64 (Pn.tabGet D X t i).1.1)).setCell ⟨b3, 1, none⟩ (.int .i64 (Pn.tabGet D X t i).1.2)) (some b3) := (grown_set (grown_set s1 0 (.int .i64 (Pn.tabGet D X t i).1.1)) 1 (.int .i64 (Pn.tabGet D X t i).1.2))
  have v2 : Blk ((U1.setCell ⟨b3, 0, none⟩ (.int .i64 (Pn.tabGet D X t i).1.1)).setCell ⟨b3, 1, none⟩ (.int .i64 (Pn.tabGet D X t i).1.2)) b3 t3 #[.int .i64 (Pn.tabGet D X t i).1.1, .int .i64 (Pn.tabGet D X t i).1.2] := ((v1.set 0 (.int .i64 (Pn.tabGet D X t i).1.1)).set 1 (.int .i64 (Pn.tabGet D X t i).1.2))
  have r2 : Blk ((U1.setCell ⟨b3, 0, none⟩ (.int .i64 (Pn.tabGet D X t i).1.1)).setCell ⟨b3, 1, none⟩ (.int .i64 (Pn.tabGet D X t i).1.2)) w.heap.size 28 #[.slice none 0 0, .slice none 0 0] := ((r1.other (a := ⟨b3, 0, none⟩) (Nat.ne_of_gt lx) (.int .i64 (Pn.tabGet D X t i).1.1)).other (a := ⟨b3, 1, none⟩) (Nat.ne_of_gt lx) (.int .i64 (Pn.tabGet D X t i).1.2))
  refine hK _ _ (fun _ _ => s2) ?_
  generalize ((U1.setCell ⟨b3, 0, none⟩ (.int .i64 (Pn.tabGet D X t i).1.1)).setCell ⟨b3, 1, none⟩ (.int .i64 (Pn.tabGet D X t i).1.2)) = U2 at s2 v2 r2 ⊢
  try simp only [Act.put, List.setIfInBounds_toArray, List.set_cons_zero, List.set_cons_succ]
  refine wpLate_take0 (i := 15) (oi := _) (v := .int .i64 (Pn.tabGet D X t i).2) (d := some 6) rfl rfl (by kernel_rfl) (by kernel_rfl) (by kernel_rfl) (fun _ _ _ h => h) rfl (fun W => by rfl) ?_
  simp only [Act.put, List.setIfInBounds_toArray, List.set_cons_zero, List.set_cons_succ]
  refine wpLate_done (by kernel_rfl) ?_ _
  have z0 := K0 U2 s2
  have zW := KW U2 s2
  have z2 := blk2 r2
  have f2 := r2.frozen
  have hne : w.heap.size ≠ b3 := Nat.ne_of_gt lx
  have rs := r2.set 0 (.slice p.a X.targets.length p.c)
  have f3 := rs.frozen
  have u3 := blk2 rs
  have yy := blk2 (blk_set2 r2 (.slice p.a X.targets.length p.c) (.slice q.a X.data.length q.c))
  have hgl : b3 < U2.heap.size := v2.lt
  go_wp2_with fail
  refine bodyPost_ret (v := .tuple #[pval X p q, .int .i64 (Pn.tabGet D X t i).2]) (by simp [results, Tryz.results115, go_sem, yy]) rfl ?_
  refine ⟨rfl, ?_, v2.other (a := ⟨w.heap.size, 0, none⟩) (Nat.ne_of_lt lx) _ |>.other (a := ⟨w.heap.size, 1, none⟩) (Nat.ne_of_lt lx) _⟩
  exact grown_new (grown_new s2 (Nat.le_refl _) 0 _) (Nat.le_refl _) 1 _
set_option maxRecDepth 100000 in
set_option maxHeartbeats 1000000 in
theorem pt_counted1 (D : Dk) (dp dq : Pl) (g h : Int) (X : Pn) (p q : Pl) (e : Int) (G : Nat) (w : World) (hW : WkAt w G D dp dq g h X p q e) (hD : D.fit = true) (k : Int) (b0 : Nat) (t0 : TypeId) (h0 : Blk w b0 t0 #[.pointer (some ⟨G, 0, none⟩)]) (b1 : Nat) (t1 : TypeId) (h1 : Blk w b1 t1 #[.int .i64 k]) (b2 : Nat) (t2 : TypeId) (u0 : Value) (h2 : Blk w b2 t2 #[u0]) (nG : G ≠ b2) (n0 : b0 ≠ b2) (n1 : b1 ≠ b2) (od : DkOff b2 D dp dq) (op : PnOff b2 X p q) :
    Calls Tryz.prog 168 #[.pointer (some ⟨b0, 0, none⟩), .pointer (some ⟨b1, 0, none⟩), .pointer (some ⟨b2, 0, none⟩)] w fun x w' => x = .returned (.tuple #[pval X p q, .int .i64 (Pn.cntGet D X k).2]) ∧ w.grownBy w' (some b2) ∧ Blk w' b2 t2 #[.int .i64 (Pn.cntGet D X k).1] := by
  have hcall := fun (W : World) (hb : w.grownBy W (some b2)) => rc_get D X dp dq p q W (hW.dk.grown hb od) (hW.pn.grown hb op) hD hW.fit k
  have lx := h2.lt
  have hB := Below.refl w.heap.size w
  have r := Blk.new w 28 #[.slice none 0 0, .slice none 0 0]
  have rk := blk2 r
  have rkf := r.frozen
  have hB_1 := hB.alloc hB.size (.cells #[.slice none 0 0, .slice none 0 0] 28)
  have K0 := fun (W : World) (hb : w.grownBy W (some b2)) => blk1 (h0.grown hb n0)
  have K1 := fun (W : World) (hb : w.grownBy W (some b2)) => blk1 (h1.grown hb n1)
  have KW := fun (W : World) (hb : w.grownBy W (some b2)) => blk10 (hW.box.grown hb nG)
  go_enter Tryz.func168, Tryz.ntmps168
  go_wp2_with fail
  generalize (w.alloc (.cells #[.slice none 0 0, .slice none 0 0] 28)) = V at hB_1 r rk rkf ⊢
  clear hB
  have hB := hB_1
  clear hB_1
  have s0 : w.grownBy V.drew (some b2) := grown_of hB.drew _
  have r0 := r.drew
  have v0 := h2.below hB.drew h2.lt
  refine wp_region_late (S := fun W => w.grownBy W (some b2)) (late := fun _ => false) (by kernel_rfl) ?_
  generalize V.drew = U0 at s0 r0 v0 ⊢
  simp only [List.size_toArray, List.length_cons, List.length_nil, Nat.reduceAdd, Array.replicate_succ, Array.replicate_zero, List.push_toArray, List.nil_append, List.cons_append]
  refine wpLate_take (i := 0) (oi := _) (v := .pointer (some ⟨G, 0, none⟩)) (d := some 7) rfl rfl (by kernel_rfl) (by kernel_rfl) (by kernel_rfl) (by kernel_rfl) (fun _ _ _ h => h) rfl (fun W hW => by have z := K0 W hW; go_simp) s0 ?_
  simp only [Act.put, List.setIfInBounds_toArray, List.set_cons_zero, List.set_cons_succ]
  refine wpLate_take0 (i := 1) (oi := _) (v := .pointer (some ⟨G, 0, none⟩)) (d := some 8) rfl rfl (by kernel_rfl) (by kernel_rfl) (by kernel_rfl) (fun _ _ _ h => h) rfl (fun W => by go_simp) ?_
  simp only [Act.put, List.setIfInBounds_toArray, List.set_cons_zero, List.set_cons_succ]
  refine wpLate_take0 (i := 2) (oi := _) (v := .pointer (some ⟨G, 4, none⟩)) (d := some 9) rfl rfl (by kernel_rfl) (by kernel_rfl) (by kernel_rfl) (fun _ _ _ h => h) rfl (fun W => by go_simp) ?_
  simp only [Act.put, List.setIfInBounds_toArray, List.set_cons_zero, List.set_cons_succ]
  refine wpLate_take (i := 3) (oi := _) (v := dval D dp dq) (d := some 10) rfl rfl (by kernel_rfl) (by kernel_rfl) (by kernel_rfl) (by kernel_rfl) (fun _ _ _ h => h) rfl (fun W hW => by have z := KW W hW; go_simp) s0 ?_
  simp only [Act.put, List.setIfInBounds_toArray, List.set_cons_zero, List.set_cons_succ]
  refine wpLate_take (i := 4) (oi := _) (v := .pointer (some ⟨G, 0, none⟩)) (d := some 11) rfl rfl (by kernel_rfl) (by kernel_rfl) (by kernel_rfl) (by kernel_rfl) (fun _ _ _ h => h) rfl (fun W hW => by have z := K0 W hW; go_simp) s0 ?_
  simp only [Act.put, List.setIfInBounds_toArray, List.set_cons_zero, List.set_cons_succ]
  refine wpLate_take0 (i := 5) (oi := _) (v := .pointer (some ⟨G, 0, none⟩)) (d := some 12) rfl rfl (by kernel_rfl) (by kernel_rfl) (by kernel_rfl) (fun _ _ _ h => h) rfl (fun W => by go_simp) ?_
  simp only [Act.put, List.setIfInBounds_toArray, List.set_cons_zero, List.set_cons_succ]
  refine wpLate_take0 (i := 6) (oi := _) (v := .pointer (some ⟨G, 0, none⟩)) (d := some 13) rfl rfl (by kernel_rfl) (by kernel_rfl) (by kernel_rfl) (fun _ _ _ h => h) rfl (fun W => by go_simp) ?_
  simp only [Act.put, List.setIfInBounds_toArray, List.set_cons_zero, List.set_cons_succ]
  refine wpLate_take (i := 7) (oi := _) (v := pval X p q) (d := some 14) rfl rfl (by kernel_rfl) (by kernel_rfl) (by kernel_rfl) (by kernel_rfl) (fun _ _ _ h => h) rfl (fun W hW => by have z := KW W hW; go_simp) s0 ?_
  simp only [Act.put, List.setIfInBounds_toArray, List.set_cons_zero, List.set_cons_succ]
  refine wpLate_take (i := 8) (oi := _) (v := .int .i64 k) (d := some 15) rfl rfl (by kernel_rfl) (by kernel_rfl) (by kernel_rfl) (by kernel_rfl) (fun _ _ _ h => h) rfl (fun W hW => by have z := K1 W hW; go_simp) s0 ?_
  simp only [Act.put, List.setIfInBounds_toArray, List.set_cons_zero, List.set_cons_succ]
  refine wpLate_one (i := 9) (by kernel_rfl) rfl rfl (fun K' hK => ?_)
  refine oper_calls (f := 169) (args := #[dval D dp dq, pval X p q, .int .i64 k]) (w' := U0) (by go_simp) ((hcall U0 s0).mono ?_)
  rintro e U1 ⟨rfl, hb1⟩
  refine ⟨_, rfl, ?_⟩
  show K' (Act.put _ (some 16) _) _
  have s1 := grown_then s0 hb1
  have v1 := v0.below hb1 v0.lt
  have r1 := r0.below hb1 r0.lt
  refine hK _ _ (fun _ _ => s1) ?_
  simp only [Act.put, List.setIfInBounds_toArray, List.set_cons_zero, List.set_cons_succ]
  refine wpLate_take0 (i := 10) (oi := _) (v := .tuple #[.int .i64 (Pn.cntGet D X k).1, .int .i64 (Pn.cntGet D X k).2]) (d := some 6) rfl rfl (by kernel_rfl) (by kernel_rfl) (by kernel_rfl) (fun _ _ _ h => h) rfl (fun W => by first | rfl | go_simp) ?_
  simp only [Act.put, List.setIfInBounds_toArray, List.set_cons_zero, List.set_cons_succ]
  refine wpLate_take0 (i := 11) (oi := _) (v := .int .i64 (Pn.cntGet D X k).1) (d := some 17) rfl rfl (by kernel_rfl) (by kernel_rfl) (by kernel_rfl) (fun _ _ _ h => h) rfl (fun W => by first | rfl | go_simp) ?_
  simp only [Act.put, List.setIfInBounds_toArray, List.set_cons_zero, List.set_cons_succ]
  refine wpLate_take0 (i := 12) (oi := _) (v := .int .i64 (Pn.cntGet D X k).2) (d := some 18) rfl rfl (by kernel_rfl) (by kernel_rfl) (by kernel_rfl) (fun _ _ _ h => h) rfl (fun W => by first | rfl | go_simp) ?_
  simp only [Act.put, List.setIfInBounds_toArray, List.set_cons_zero, List.set_cons_succ]
  refine wpLate_one (i := 13) (by kernel_rfl) rfl rfl (fun K' hK => ?_)
  refine oper_skip (w' := (U1.setCell ⟨b2, 0, none⟩ (.int .i64 (Pn.cntGet D X k).1))) (by have f1 := v1.frozen; have z1 := blk1 v1; go_simp) ?_
  show K' (Act.put _ none _) _
  have s2 : w.grownBy (U1.setCell ⟨b2, 0, none⟩ (.int .i64 (Pn.cntGet D X k).1)) (some b2) := (grown_set s1 0 (.int .i64 (Pn.cntGet D X k).1))
  have v2 : Blk (U1.setCell ⟨b2, 0, none⟩ (.int .i64 (Pn.cntGet D X k).1)) b2 t2 #[.int .i64 (Pn.cntGet D X k).1] := (v1.set 0 (.int .i64 (Pn.cntGet D X k).1))
  have r2 : Blk (U1.setCell ⟨b2, 0, none⟩ (.int .i64 (Pn.cntGet D X k).1)) w.heap.size 28 #[.slice none 0 0, .slice none 0 0] := (r1.other (a := ⟨b2, 0, none⟩) (Nat.ne_of_gt lx) (.int .i64 (Pn.cntGet D X k).1))
  refine hK _ _ (fun _ _ => s2) ?_
  generalize (U1.setCell ⟨b2, 0, none⟩ (.int .i64 (Pn.cntGet D X k).1)) = U2 at s2 v2 r2 ⊢
  try simp only [Act.put, List.setIfInBounds_toArray, List.set_cons_zero, List.set_cons_succ]
  refine wpLate_take0 (i := 14) (oi := _) (v := .int .i64 (Pn.cntGet D X k).2) (d := some 5) rfl rfl (by kernel_rfl) (by kernel_rfl) (by kernel_rfl) (fun _ _ _ h => h) rfl (fun W => by rfl) ?_
  simp only [Act.put, List.setIfInBounds_toArray, List.set_cons_zero, List.set_cons_succ]
  refine wpLate_done (by kernel_rfl) ?_ _
  have z0 := K0 U2 s2
  have zW := KW U2 s2
  have z2 := blk2 r2
  have f2 := r2.frozen
  have hne : w.heap.size ≠ b2 := Nat.ne_of_gt lx
  have rs := r2.set 0 (.slice p.a X.targets.length p.c)
  have f3 := rs.frozen
  have u3 := blk2 rs
  have yy := blk2 (blk_set2 r2 (.slice p.a X.targets.length p.c) (.slice q.a X.data.length q.c))
  have hgl : b2 < U2.heap.size := v2.lt
  go_wp2_with fail
  refine bodyPost_ret (v := .tuple #[pval X p q, .int .i64 (Pn.cntGet D X k).2]) (by simp [results, Tryz.results168, go_sem, yy]) rfl ?_
  refine ⟨rfl, ?_, v2.other (a := ⟨w.heap.size, 0, none⟩) (Nat.ne_of_lt lx) _ |>.other (a := ⟨w.heap.size, 1, none⟩) (Nat.ne_of_lt lx) _⟩
  exact grown_new (grown_new s2 (Nat.le_refl _) 0 _) (Nat.le_refl _) 1 _
set_option maxRecDepth 100000 in
set_option maxHeartbeats 1000000 in
theorem pt_own1 (D : Dk) (dp dq : Pl) (g h : Int) (X : Pn) (p q : Pl) (e : Int) (G : Nat) (w : World) (hW : WkAt w G D dp dq g h X p q e) (hD : D.fit = true)  (b0 : Nat) (t0 : TypeId) (h0 : Blk w b0 t0 #[.pointer (some ⟨G, 0, none⟩)]) (b1 : Nat) (t1 : TypeId) (u0 u1 : Value) (h1 : Blk w b1 t1 #[u0, u1]) (nG : G ≠ b1) (n0 : b0 ≠ b1) (od : DkOff b1 D dp dq) (op : PnOff b1 X p q) :
    Calls Tryz.prog 107 #[.pointer (some ⟨b0, 0, none⟩), .pointer (some ⟨b1, 0, none⟩)] w fun x w' => x = .returned (.tuple #[pval X p q, .int .i64 (Pn.rtGet D X).2]) ∧ w.grownBy w' (some b1) ∧ Blk w' b1 t1 #[.int .i64 (Pn.rtGet D X).1.1, .int .u32 (Pn.rtGet D X).1.2] := by
  have hcall := fun (W : World) (hb : w.grownBy W (some b1)) => rt_get D X dp dq p q W (hW.dk.grown hb od) (hW.pn.grown hb op) hD hW.fit
  have lx := h1.lt
  have hB := Below.refl w.heap.size w
  have r := Blk.new w 28 #[.slice none 0 0, .slice none 0 0]
  have rk := blk2 r
  have rkf := r.frozen
  have hB_1 := hB.alloc hB.size (.cells #[.slice none 0 0, .slice none 0 0] 28)
  have K0 := fun (W : World) (hb : w.grownBy W (some b1)) => blk1 (h0.grown hb n0)
  have KW := fun (W : World) (hb : w.grownBy W (some b1)) => blk10 (hW.box.grown hb nG)
  go_enter Tryz.func107, Tryz.ntmps107
  go_wp2_with fail
  generalize (w.alloc (.cells #[.slice none 0 0, .slice none 0 0] 28)) = V at hB_1 r rk rkf ⊢
  clear hB
  have hB := hB_1
  clear hB_1
  have s0 : w.grownBy V.drew (some b1) := grown_of hB.drew _
  have r0 := r.drew
  have v0 := h1.below hB.drew h1.lt
  refine wp_region_late (S := fun W => w.grownBy W (some b1)) (late := fun _ => false) (by kernel_rfl) ?_
  generalize V.drew = U0 at s0 r0 v0 ⊢
  simp only [List.size_toArray, List.length_cons, List.length_nil, Nat.reduceAdd, Array.replicate_succ, Array.replicate_zero, List.push_toArray, List.nil_append, List.cons_append]
  refine wpLate_take (i := 0) (oi := _) (v := .pointer (some ⟨G, 0, none⟩)) (d := some 6) rfl rfl (by kernel_rfl) (by kernel_rfl) (by kernel_rfl) (by kernel_rfl) (fun _ _ _ h => h) rfl (fun W hW => by have z := K0 W hW; go_simp) s0 ?_
  simp only [Act.put, List.setIfInBounds_toArray, List.set_cons_zero, List.set_cons_succ]
  refine wpLate_take0 (i := 1) (oi := _) (v := .pointer (some ⟨G, 0, none⟩)) (d := some 7) rfl rfl (by kernel_rfl) (by kernel_rfl) (by kernel_rfl) (fun _ _ _ h => h) rfl (fun W => by go_simp) ?_
  simp only [Act.put, List.setIfInBounds_toArray, List.set_cons_zero, List.set_cons_succ]
  refine wpLate_take0 (i := 2) (oi := _) (v := .pointer (some ⟨G, 4, none⟩)) (d := some 8) rfl rfl (by kernel_rfl) (by kernel_rfl) (by kernel_rfl) (fun _ _ _ h => h) rfl (fun W => by go_simp) ?_
  simp only [Act.put, List.setIfInBounds_toArray, List.set_cons_zero, List.set_cons_succ]
  refine wpLate_take (i := 3) (oi := _) (v := dval D dp dq) (d := some 9) rfl rfl (by kernel_rfl) (by kernel_rfl) (by kernel_rfl) (by kernel_rfl) (fun _ _ _ h => h) rfl (fun W hW => by have z := KW W hW; go_simp) s0 ?_
  simp only [Act.put, List.setIfInBounds_toArray, List.set_cons_zero, List.set_cons_succ]
  refine wpLate_take (i := 4) (oi := _) (v := .pointer (some ⟨G, 0, none⟩)) (d := some 10) rfl rfl (by kernel_rfl) (by kernel_rfl) (by kernel_rfl) (by kernel_rfl) (fun _ _ _ h => h) rfl (fun W hW => by have z := K0 W hW; go_simp) s0 ?_
  simp only [Act.put, List.setIfInBounds_toArray, List.set_cons_zero, List.set_cons_succ]
  refine wpLate_take0 (i := 5) (oi := _) (v := .pointer (some ⟨G, 0, none⟩)) (d := some 11) rfl rfl (by kernel_rfl) (by kernel_rfl) (by kernel_rfl) (fun _ _ _ h => h) rfl (fun W => by go_simp) ?_
  simp only [Act.put, List.setIfInBounds_toArray, List.set_cons_zero, List.set_cons_succ]
  refine wpLate_take0 (i := 6) (oi := _) (v := .pointer (some ⟨G, 0, none⟩)) (d := some 12) rfl rfl (by kernel_rfl) (by kernel_rfl) (by kernel_rfl) (fun _ _ _ h => h) rfl (fun W => by go_simp) ?_
  simp only [Act.put, List.setIfInBounds_toArray, List.set_cons_zero, List.set_cons_succ]
  refine wpLate_take (i := 7) (oi := _) (v := pval X p q) (d := some 13) rfl rfl (by kernel_rfl) (by kernel_rfl) (by kernel_rfl) (by kernel_rfl) (fun _ _ _ h => h) rfl (fun W hW => by have z := KW W hW; go_simp) s0 ?_
  simp only [Act.put, List.setIfInBounds_toArray, List.set_cons_zero, List.set_cons_succ]
  refine wpLate_one (i := 8) (by kernel_rfl) rfl rfl (fun K' hK => ?_)
  refine oper_calls (f := 108) (args := #[dval D dp dq, pval X p q]) (w' := U0) (by go_simp) ((hcall U0 s0).mono ?_)
  rintro e U1 ⟨rfl, hb1⟩
  refine ⟨_, rfl, ?_⟩
  show K' (Act.put _ (some 14) _) _
  have s1 := grown_then s0 hb1
  have v1 := v0.below hb1 v0.lt
  have r1 := r0.below hb1 r0.lt
  refine hK _ _ (fun _ _ => s1) ?_
  simp only [Act.put, List.setIfInBounds_toArray, List.set_cons_zero, List.set_cons_succ]
  refine wpLate_take0 (i := 9) (oi := _) (v := .tuple #[rval (Pn.rtGet D X).1.1 (Pn.rtGet D X).1.2, .int .i64 (Pn.rtGet D X).2]) (d := some 5) rfl rfl (by kernel_rfl) (by kernel_rfl) (by kernel_rfl) (fun _ _ _ h => h) rfl (fun W => by first | rfl | go_simp) ?_
  simp only [Act.put, List.setIfInBounds_toArray, List.set_cons_zero, List.set_cons_succ]
  refine wpLate_take0 (i := 10) (oi := _) (v := rval (Pn.rtGet D X).1.1 (Pn.rtGet D X).1.2) (d := some 15) rfl rfl (by kernel_rfl) (by kernel_rfl) (by kernel_rfl) (fun _ _ _ h => h) rfl (fun W => by first | rfl | go_simp) ?_
  simp only [Act.put, List.setIfInBounds_toArray, List.set_cons_zero, List.set_cons_succ]
  refine wpLate_take0 (i := 11) (oi := _) (v := .int .i64 (Pn.rtGet D X).2) (d := some 16) rfl rfl (by kernel_rfl) (by kernel_rfl) (by kernel_rfl) (fun _ _ _ h => h) rfl (fun W => by first | rfl | go_simp) ?_
  simp only [Act.put, List.setIfInBounds_toArray, List.set_cons_zero, List.set_cons_succ]
  refine wpLate_one (i := 12) (by kernel_rfl) rfl rfl (fun K' hK => ?_)
  refine oper_skip (w' := ((U1.setCell ⟨b1, 0, none⟩ (.int .i64 (Pn.rtGet D X).1.1)).setCell ⟨b1, 1, none⟩ (.int .u32 (Pn.rtGet D X).1.2))) (by have f1 := v1.frozen; have z1 := blk2 v1; have qq := v1.set 0 (.int .i64 (Pn.rtGet D X).1.1); have uf2 := qq.frozen; have u1 := blk2 qq; go_simp) ?_
  show K' (Act.put _ none _) _
  have s2 : w.grownBy ((U1.setCell ⟨b1, 0, none⟩ (.int .i64 (Pn.rtGet D X).1.1)).setCell ⟨b1, 1, none⟩ (.int .u32 (Pn.rtGet D X).1.2)) (some b1) := (grown_set (grown_set s1 0 (.int .i64 (Pn.rtGet D X).1.1)) 1 (.int .u32 (Pn.rtGet D X).1.2))
  have v2 : Blk ((U1.setCell ⟨b1, 0, none⟩ (.int .i64 (Pn.rtGet D X).1.1)).setCell ⟨b1, 1, none⟩ (.int .u32 (Pn.rtGet D X).1.2)) b1 t1 #[.int .i64 (Pn.rtGet D X).1.1, .int .u32 (Pn.rtGet D X).1.2] := ((v1.set 0 (.int .i64 (Pn.rtGet D X).1.1)).set 1 (.int .u32 (Pn.rtGet D X).1.2))
  have r2 : Blk ((U1.setCell ⟨b1, 0, none⟩ (.int .i64 (Pn.rtGet D X).1.1)).setCell ⟨b1, 1, none⟩ (.int .u32 (Pn.rtGet D X).1.2)) w.heap.size 28 #[.slice none 0 0, .slice none 0 0] := ((r1.other (a := ⟨b1, 0, none⟩) (Nat.ne_of_gt lx) (.int .i64 (Pn.rtGet D X).1.1)).other (a := ⟨b1, 1, none⟩) (Nat.ne_of_gt lx) (.int .u32 (Pn.rtGet D X).1.2))
  refine hK _ _ (fun _ _ => s2) ?_
  generalize ((U1.setCell ⟨b1, 0, none⟩ (.int .i64 (Pn.rtGet D X).1.1)).setCell ⟨b1, 1, none⟩ (.int .u32 (Pn.rtGet D X).1.2)) = U2 at s2 v2 r2 ⊢
  try simp only [Act.put, List.setIfInBounds_toArray, List.set_cons_zero, List.set_cons_succ]
  refine wpLate_take0 (i := 13) (oi := _) (v := .int .i64 (Pn.rtGet D X).2) (d := some 4) rfl rfl (by kernel_rfl) (by kernel_rfl) (by kernel_rfl) (fun _ _ _ h => h) rfl (fun W => by rfl) ?_
  simp only [Act.put, List.setIfInBounds_toArray, List.set_cons_zero, List.set_cons_succ]
  refine wpLate_done (by kernel_rfl) ?_ _
  have z0 := K0 U2 s2
  have zW := KW U2 s2
  have z2 := blk2 r2
  have f2 := r2.frozen
  have hne : w.heap.size ≠ b1 := Nat.ne_of_gt lx
  have rs := r2.set 0 (.slice p.a X.targets.length p.c)
  have f3 := rs.frozen
  have u3 := blk2 rs
  have yy := blk2 (blk_set2 r2 (.slice p.a X.targets.length p.c) (.slice q.a X.data.length q.c))
  have hgl : b1 < U2.heap.size := v2.lt
  go_wp2_with fail
  refine bodyPost_ret (v := .tuple #[pval X p q, .int .i64 (Pn.rtGet D X).2]) (by simp [results, Tryz.results107, go_sem, yy]) rfl ?_
  refine ⟨rfl, ?_, v2.other (a := ⟨w.heap.size, 0, none⟩) (Nat.ne_of_lt lx) _ |>.other (a := ⟨w.heap.size, 1, none⟩) (Nat.ne_of_lt lx) _⟩
  exact grown_new (grown_new s2 (Nat.le_refl _) 0 _) (Nat.le_refl _) 1 _
set_option maxRecDepth 100000 in
set_option maxHeartbeats 1000000 in
theorem pt_take1 (D : Dk) (dp dq : Pl) (g : Int) (h : Nat) (X : Pn) (p q : Pl) (e : Int) (G : Nat) (w : World) (hW : WkAt w G D dp dq g h X p q e) (hD : D.fit = true) (hh : h ≤ 256) (b0 : Nat) (t0 : TypeId) (h0 : Blk w b0 t0 #[.pointer (some ⟨G, 0, none⟩)]) (b1 : Nat) (t1 : TypeId) (u0 : Value) (h1 : Blk w b1 t1 #[u0]) (nG : G ≠ b1) (n0 : b0 ≠ b1) (od : DkOff b1 D dp dq) (op : PnOff b1 X p q) :
    Calls Tryz.prog 162 #[.pointer (some ⟨b0, 0, none⟩), .pointer (some ⟨b1, 0, none⟩)] w fun x w' => ∃ p' q', x = .returned (.tuple #[pval (Pn.alTake D X h).1 p' q', .int .i64 (Pn.alTake D X h).2.2]) ∧ IsPn w' (Pn.alTake D X h).1 p' q' ∧ (∀ b, b < w.heap.size → PnOff b X p q → PnOff b (Pn.alTake D X h).1 p' q') ∧ w.grownBy w' (some b1) ∧ Blk w' b1 t1 #[.int .i64 (Pn.alTake D X h).2.1] := by
  have hcall := fun (W : World) (hb : w.grownBy W (some b1)) => al_take D X dp dq p q W (hW.dk.grown hb od) (hW.pn.grown hb op) hD hW.fit g h hh
  have lx := h1.lt
  have hap := hW.pn.apart (Nat.le_refl w.heap.size)
  have hB := Below.refl w.heap.size w
  have r := Blk.new w 28 #[.slice none 0 0, .slice none 0 0]
  have rk := blk2 r
  have rkf := r.frozen
  have hB_1 := hB.alloc hB.size (.cells #[.slice none 0 0, .slice none 0 0] 28)
  have K0 := fun (W : World) (hb : w.grownBy W (some b1)) => blk1 (h0.grown hb n0)
  have KW := fun (W : World) (hb : w.grownBy W (some b1)) => blk10 (hW.box.grown hb nG)
  go_enter Tryz.func162, Tryz.ntmps162
  go_wp2_with fail
  generalize (w.alloc (.cells #[.slice none 0 0, .slice none 0 0] 28)) = V at hB_1 r rk rkf ⊢
  clear hB
  have hB := hB_1
  clear hB_1
  have s0 : w.grownBy V.drew (some b1) := grown_of hB.drew _
  have r0 := r.drew
  have v0 := h1.below hB.drew h1.lt
  refine wp_region_late (S := fun W => w.grownBy W (some b1)) (late := fun _ => false) (by kernel_rfl) ?_
  generalize V.drew = U0 at s0 r0 v0 ⊢
  simp only [List.size_toArray, List.length_cons, List.length_nil, Nat.reduceAdd, Array.replicate_succ, Array.replicate_zero, List.push_toArray, List.nil_append, List.cons_append]
  refine wpLate_take (i := 0) (oi := _) (v := .pointer (some ⟨G, 0, none⟩)) (d := some 5) rfl rfl (by kernel_rfl) (by kernel_rfl) (by kernel_rfl) (by kernel_rfl) (fun _ _ _ h => h) rfl (fun W hW => by have z := K0 W hW; go_simp) s0 ?_
  simp only [Act.put, List.setIfInBounds_toArray, List.set_cons_zero, List.set_cons_succ]
  refine wpLate_take0 (i := 1) (oi := _) (v := .pointer (some ⟨G, 0, none⟩)) (d := some 6) rfl rfl (by kernel_rfl) (by kernel_rfl) (by kernel_rfl) (fun _ _ _ h => h) rfl (fun W => by go_simp) ?_
  simp only [Act.put, List.setIfInBounds_toArray, List.set_cons_zero, List.set_cons_succ]
  refine wpLate_take0 (i := 2) (oi := _) (v := .pointer (some ⟨G, 4, none⟩)) (d := some 7) rfl rfl (by kernel_rfl) (by kernel_rfl) (by kernel_rfl) (fun _ _ _ h => h) rfl (fun W => by go_simp) ?_
  simp only [Act.put, List.setIfInBounds_toArray, List.set_cons_zero, List.set_cons_succ]
  refine wpLate_take (i := 3) (oi := _) (v := dval D dp dq) (d := some 8) rfl rfl (by kernel_rfl) (by kernel_rfl) (by kernel_rfl) (by kernel_rfl) (fun _ _ _ h => h) rfl (fun W hW => by have z := KW W hW; go_simp) s0 ?_
  simp only [Act.put, List.setIfInBounds_toArray, List.set_cons_zero, List.set_cons_succ]
  refine wpLate_take (i := 4) (oi := _) (v := .pointer (some ⟨G, 0, none⟩)) (d := some 9) rfl rfl (by kernel_rfl) (by kernel_rfl) (by kernel_rfl) (by kernel_rfl) (fun _ _ _ h => h) rfl (fun W hW => by have z := K0 W hW; go_simp) s0 ?_
  simp only [Act.put, List.setIfInBounds_toArray, List.set_cons_zero, List.set_cons_succ]
  refine wpLate_take0 (i := 5) (oi := _) (v := .pointer (some ⟨G, 0, none⟩)) (d := some 10) rfl rfl (by kernel_rfl) (by kernel_rfl) (by kernel_rfl) (fun _ _ _ h => h) rfl (fun W => by go_simp) ?_
  simp only [Act.put, List.setIfInBounds_toArray, List.set_cons_zero, List.set_cons_succ]
  refine wpLate_take0 (i := 6) (oi := _) (v := .pointer (some ⟨G, 0, none⟩)) (d := some 11) rfl rfl (by kernel_rfl) (by kernel_rfl) (by kernel_rfl) (fun _ _ _ h => h) rfl (fun W => by go_simp) ?_
  simp only [Act.put, List.setIfInBounds_toArray, List.set_cons_zero, List.set_cons_succ]
  refine wpLate_take (i := 7) (oi := _) (v := pval X p q) (d := some 12) rfl rfl (by kernel_rfl) (by kernel_rfl) (by kernel_rfl) (by kernel_rfl) (fun _ _ _ h => h) rfl (fun W hW => by have z := KW W hW; go_simp) s0 ?_
  simp only [Act.put, List.setIfInBounds_toArray, List.set_cons_zero, List.set_cons_succ]
  refine wpLate_take (i := 8) (oi := _) (v := .pointer (some ⟨G, 0, none⟩)) (d := some 13) rfl rfl (by kernel_rfl) (by kernel_rfl) (by kernel_rfl) (by kernel_rfl) (fun _ _ _ h => h) rfl (fun W hW => by have z := K0 W hW; go_simp) s0 ?_
  simp only [Act.put, List.setIfInBounds_toArray, List.set_cons_zero, List.set_cons_succ]
  refine wpLate_take0 (i := 9) (oi := _) (v := .pointer (some ⟨G, 0, none⟩)) (d := some 14) rfl rfl (by kernel_rfl) (by kernel_rfl) (by kernel_rfl) (fun _ _ _ h => h) rfl (fun W => by go_simp) ?_
  simp only [Act.put, List.setIfInBounds_toArray, List.set_cons_zero, List.set_cons_succ]
  refine wpLate_take0 (i := 10) (oi := _) (v := .pointer (some ⟨G, 2, none⟩)) (d := some 15) rfl rfl (by kernel_rfl) (by kernel_rfl) (by kernel_rfl) (fun _ _ _ h => h) rfl (fun W => by go_simp) ?_
  simp only [Act.put, List.setIfInBounds_toArray, List.set_cons_zero, List.set_cons_succ]
  refine wpLate_take (i := 11) (oi := _) (v := gval g h) (d := some 16) rfl rfl (by kernel_rfl) (by kernel_rfl) (by kernel_rfl) (by kernel_rfl) (fun _ _ _ h => h) rfl (fun W hW => by have z := KW W hW; go_simp) s0 ?_
  simp only [Act.put, List.setIfInBounds_toArray, List.set_cons_zero, List.set_cons_succ]
  refine wpLate_one (i := 12) (by kernel_rfl) rfl rfl (fun K' hK => ?_)
  refine oper_calls (f := 163) (args := #[dval D dp dq, pval X p q, gval g h]) (w' := U0) (by go_simp) ((hcall U0 s0).mono ?_)
  rintro e U1 ⟨⟨pa, pc⟩, ⟨qa, qc⟩, rfl, i1, o1, hb1⟩
  refine ⟨_, rfl, ?_⟩
  show K' (Act.put _ (some 17) _) _
  have s1 := grown_then s0 hb1
  have v1 := v0.below hb1 v0.lt
  have r1 := r0.below hb1 r0.lt
  have og := o1 w.heap.size r0.lt hap
  have ob := o1 b1 v0.lt op
  refine hK _ _ (fun _ _ => s1) ?_
  simp only [Act.put, List.setIfInBounds_toArray, List.set_cons_zero, List.set_cons_succ]
  refine wpLate_take0 (i := 13) (oi := _) (v := .tuple #[pval (Pn.alTake D X h).1 ⟨pa, pc⟩ ⟨qa, qc⟩, .int .i64 (Pn.alTake D X h).2.1, .int .i64 (Pn.alTake D X h).2.2]) (d := some 4) rfl rfl (by kernel_rfl) (by kernel_rfl) (by kernel_rfl) (fun _ _ _ h => h) rfl (fun W => by first | rfl | go_simp) ?_
  simp only [Act.put, List.setIfInBounds_toArray, List.set_cons_zero, List.set_cons_succ]
  refine wpLate_take0 (i := 14) (oi := _) (v := pval (Pn.alTake D X h).1 ⟨pa, pc⟩ ⟨qa, qc⟩) (d := some 18) rfl rfl (by kernel_rfl) (by kernel_rfl) (by kernel_rfl) (fun _ _ _ h => h) rfl (fun W => by first | rfl | go_simp) ?_
  simp only [Act.put, List.setIfInBounds_toArray, List.set_cons_zero, List.set_cons_succ]
  refine wpLate_take0 (i := 15) (oi := _) (v := .int .i64 (Pn.alTake D X h).2.1) (d := some 19) rfl rfl (by kernel_rfl) (by kernel_rfl) (by kernel_rfl) (fun _ _ _ h => h) rfl (fun W => by first | rfl | go_simp) ?_
  simp only [Act.put, List.setIfInBounds_toArray, List.set_cons_zero, List.set_cons_succ]
  refine wpLate_take0 (i := 16) (oi := _) (v := .int .i64 (Pn.alTake D X h).2.2) (d := some 20) rfl rfl (by kernel_rfl) (by kernel_rfl) (by kernel_rfl) (fun _ _ _ h => h) rfl (fun W => by first | rfl | go_simp) ?_
  simp only [Act.put, List.setIfInBounds_toArray, List.set_cons_zero, List.set_cons_succ]
  refine wpLate_one (i := 17) (by kernel_rfl) rfl rfl (fun K' hK => ?_)
  have hne : w.heap.size ≠ b1 := Nat.ne_of_gt lx
  refine oper_skip (w' := (U1.setCell ⟨w.heap.size, 0, none⟩ (.slice pa (Pn.alTake D X h).1.targets.length pc)).setCell ⟨w.heap.size, 1, none⟩ (.slice qa (Pn.alTake D X h).1.data.length qc)) (by have f1 := r1.frozen; have z1 := blk2 r1; have qq := r1.set 0 (.slice pa (Pn.alTake D X h).1.targets.length pc); have uf2 := qq.frozen; have u1 := blk2 qq; go_simp) ?_
  show K' (Act.put _ none _) _
  have s2 := grown_new (grown_new s1 (Nat.le_refl _) 0 (.slice pa (Pn.alTake D X h).1.targets.length pc)) (Nat.le_refl _) 1 (.slice qa (Pn.alTake D X h).1.data.length qc)
  have v2 := (v1.other (a := ⟨w.heap.size, 0, none⟩) (Nat.ne_of_lt lx) (.slice pa (Pn.alTake D X h).1.targets.length pc)).other (a := ⟨w.heap.size, 1, none⟩) (Nat.ne_of_lt lx) (.slice qa (Pn.alTake D X h).1.data.length qc)
  have r2 := blk_set2 r1 (.slice pa (Pn.alTake D X h).1.targets.length pc) (.slice qa (Pn.alTake D X h).1.data.length qc)
  have i2 := i1.off2 og (.slice pa (Pn.alTake D X h).1.targets.length pc) (.slice qa (Pn.alTake D X h).1.data.length qc)
  refine hK _ _ (fun _ _ => s2) ?_
  generalize (U1.setCell ⟨w.heap.size, 0, none⟩ (.slice pa (Pn.alTake D X h).1.targets.length pc)).setCell ⟨w.heap.size, 1, none⟩ (.slice qa (Pn.alTake D X h).1.data.length qc) = U2 at s2 v2 r2 i2 ⊢
  try simp only [Act.put, List.setIfInBounds_toArray, List.set_cons_zero, List.set_cons_succ]
  refine wpLate_one (i := 18) (by kernel_rfl) rfl rfl (fun K' hK => ?_)
  refine oper_skip (w' := U2.setCell ⟨b1, 0, none⟩ (.int .i64 (Pn.alTake D X h).2.1)) (by have f1 := v2.frozen; have z1 := blk1 v2; go_simp) ?_
  show K' (Act.put _ none _) _
  have s3 := grown_set s2 0 (.int .i64 (Pn.alTake D X h).2.1)
  have v3 : Blk (U2.setCell ⟨b1, 0, none⟩ (.int .i64 (Pn.alTake D X h).2.1)) b1 t1 #[.int .i64 (Pn.alTake D X h).2.1] := v2.set 0 (.int .i64 (Pn.alTake D X h).2.1)
  have r3 := r2.other (a := ⟨b1, 0, none⟩) hne (.int .i64 (Pn.alTake D X h).2.1)
  have i3 := i2.off (a := ⟨b1, 0, none⟩) ob (.int .i64 (Pn.alTake D X h).2.1)
  refine hK _ _ (fun _ _ => s3) ?_
  generalize U2.setCell ⟨b1, 0, none⟩ (.int .i64 (Pn.alTake D X h).2.1) = U3 at s3 v3 r3 i3 ⊢
  try simp only [Act.put, List.setIfInBounds_toArray, List.set_cons_zero, List.set_cons_succ]
  refine wpLate_take0 (i := 19) (oi := _) (v := .int .i64 (Pn.alTake D X h).2.2) (d := some 3) rfl rfl (by kernel_rfl) (by kernel_rfl) (by kernel_rfl) (fun _ _ _ h => h) rfl (fun W => by rfl) ?_
  simp only [Act.put, List.setIfInBounds_toArray, List.set_cons_zero, List.set_cons_succ]
  refine wpLate_done (by kernel_rfl) ?_ _
  have z2 := blk2 r3
  have f2 := r3.frozen
  have rs := r3.set 0 (.slice pa (Pn.alTake D X h).1.targets.length pc)
  have f3 := rs.frozen
  have u3 := blk2 rs
  have yy := blk2 (blk_set2 r3 (.slice pa (Pn.alTake D X h).1.targets.length pc) (.slice qa (Pn.alTake D X h).1.data.length qc))
  have i4 := i3.off2 og (.slice pa (Pn.alTake D X h).1.targets.length pc) (.slice qa (Pn.alTake D X h).1.data.length qc)
  go_wp2_with fail
  refine bodyPost_ret (v := .tuple #[pval (Pn.alTake D X h).1 ⟨pa, pc⟩ ⟨qa, qc⟩, .int .i64 (Pn.alTake D X h).2.2]) (by simp [results, Tryz.results162, go_sem, yy]) rfl ?_
  refine ⟨⟨pa, pc⟩, ⟨qa, qc⟩, rfl, i4, fun b hb ho => o1 b (Nat.lt_trans hb r0.lt) ho, ?_, v3.other (a := ⟨w.heap.size, 0, none⟩) (Nat.ne_of_lt lx) _ |>.other (a := ⟨w.heap.size, 1, none⟩) (Nat.ne_of_lt lx) _⟩
  exact grown_new (grown_new s3 (Nat.le_refl _) 0 _) (Nat.le_refl _) 1 _
set_option maxRecDepth 100000 in
set_option maxHeartbeats 1000000 in
theorem pt_take2 (X : Pn) (p q : Pl) (M : Pn × Int) (k : Int) (f : FuncId) (hc : f = 110 ∨ f = 113) (caps : Array Value) (b0 b1 : Nat) (t0 t1 : TypeId) (w : World) (h0 : Blk w b0 t0 #[.func (.func f) #[] caps]) (h1 : Blk w b1 t1 #[.int .i64 k]) (hap : PnOff w.heap.size X p q)
    (hcall : ∀ (W : World), Below w.heap.size w W → Calls Tryz.prog f (#[.int .i64 k] ++ caps) W fun x w' => RetPn W.heap.size X p q M x w' ∧ Below W.heap.size W w') :
    Calls Tryz.prog 164 #[.pointer (some ⟨b0, 0, none⟩), .pointer (some ⟨b1, 0, none⟩)] w fun x w' => RetPn w.heap.size X p q M x w' ∧ Below w.heap.size w w' := by
  rcases hc with rfl | rfl
  · skip
    have hB := Below.refl w.heap.size w
    have k0 := blk1 h0
    have k1 := blk1 h1
    have r := Blk.new w 28 #[.slice none 0 0, .slice none 0 0]
    have rk := blk2 r
    have rkf := r.frozen
    have hB_1 := hB.alloc hB.size (.cells #[.slice none 0 0, .slice none 0 0] 28)
    have h0_2 := h0.alloc (.cells #[.slice none 0 0, .slice none 0 0] 28)
    have k0_2 := blk1 h0_2
    have h1_3 := h1.alloc (.cells #[.slice none 0 0, .slice none 0 0] 28)
    have k1_3 := blk1 h1_3
    go_enter Tryz.func164, Tryz.ntmps164
    go_wp2_with fail
    have rl := (r).lt
    refine (hcall _ hB_1).mono ?_
    rintro e w1 ⟨⟨⟨pa, pc⟩, ⟨qa, qc⟩, rfl, i1, o1⟩, hb1⟩
    have og := o1 w.heap.size rl hap
    have v0 := (r).below hb1 (r).lt
    have vf := v0.frozen
    have vk := blk2 v0
    have bb := bt hB_1 hb1
    go_wp2_with fail
    have yy := blk2 (blk_set2 v0 (.slice pa M.1.targets.length pc) (.slice qa M.1.data.length qc))
    have b9 := below_set2 bb (g := w.heap.size) (Nat.le_refl _) (.slice pa M.1.targets.length pc) (.slice qa M.1.data.length qc)
    have i2 := i1.off2 og (.slice pa M.1.targets.length pc) (.slice qa M.1.data.length qc)
    refine bodyPost_ret (v := .tuple #[pval M.1 ⟨pa, pc⟩ ⟨qa, qc⟩, .int .i64 M.2]) (by simp [results, Tryz.results164, go_sem, yy]) rfl ?_
    exact ⟨⟨⟨pa, pc⟩, ⟨qa, qc⟩, rfl, i2, fun b hb ho => o1 b (Nat.lt_trans hb rl) ho⟩, b9⟩
  · skip
    have hB := Below.refl w.heap.size w
    have k0 := blk1 h0
    have k1 := blk1 h1
    have r := Blk.new w 28 #[.slice none 0 0, .slice none 0 0]
    have rk := blk2 r
    have rkf := r.frozen
    have hB_1 := hB.alloc hB.size (.cells #[.slice none 0 0, .slice none 0 0] 28)
    have h0_2 := h0.alloc (.cells #[.slice none 0 0, .slice none 0 0] 28)
    have k0_2 := blk1 h0_2
    have h1_3 := h1.alloc (.cells #[.slice none 0 0, .slice none 0 0] 28)
    have k1_3 := blk1 h1_3
    go_enter Tryz.func164, Tryz.ntmps164
    go_wp2_with fail
    have rl := (r).lt
    refine (hcall _ hB_1).mono ?_
    rintro e w1 ⟨⟨⟨pa, pc⟩, ⟨qa, qc⟩, rfl, i1, o1⟩, hb1⟩
    have og := o1 w.heap.size rl hap
    have v0 := (r).below hb1 (r).lt
    have vf := v0.frozen
    have vk := blk2 v0
    have bb := bt hB_1 hb1
    go_wp2_with fail
    have yy := blk2 (blk_set2 v0 (.slice pa M.1.targets.length pc) (.slice qa M.1.data.length qc))
    have b9 := below_set2 bb (g := w.heap.size) (Nat.le_refl _) (.slice pa M.1.targets.length pc) (.slice qa M.1.data.length qc)
    have i2 := i1.off2 og (.slice pa M.1.targets.length pc) (.slice qa M.1.data.length qc)
    refine bodyPost_ret (v := .tuple #[pval M.1 ⟨pa, pc⟩ ⟨qa, qc⟩, .int .i64 M.2]) (by simp [results, Tryz.results164, go_sem, yy]) rfl ?_
    exact ⟨⟨⟨pa, pc⟩, ⟨qa, qc⟩, rfl, i2, fun b hb ho => o1 b (Nat.lt_trans hb rl) ho⟩, b9⟩
end Go.Proofs.YtplgmlcoeehnfaaGreat
set_option linter.unusedVariables false
namespace Go.Proofs.YtplgmlcoeehnfaaGreat
open Go.RowKit Go.Shelf
attribute [local go_sem] bs_mk bs_append bs_extract bs_size bs_toList bs_get
/-- A method's end behind a step that was tried. -/
theorem retWk_of {w w1 W : World} {G : Nat} {D : Dk} {dp dq : Pl} {g h : Int} {X Y : Pn} {p q p' q' : Pl} {e' e2 : Int} (hb : Below w.heap.size w w1) (hg : w1.grownBy W (some G)) (k : WkAt W G D dp dq g h X p q e2) (hY : IsPn W Y p' q') (ho : ∀ b, b < w.heap.size → PnOff b X p q → PnOff b Y p' q') (oG : PnOff G Y p' q') (hf : Y.Fit) :
    RetWk w G D dp dq g h X p q (Y, e') (wkSet W G Y p' q' e') :=
  ⟨wkSet_grown (grown_trans (grown_of hb G) hg) _ _ _ _, p', q', k.set hY oG hf, ho⟩
theorem retWk_refl {w w1 : World} {G : Nat} {D : Dk} {dp dq : Pl} {g h : Int} {X : Pn} {p q : Pl} {e : Int} (k : WkAt w G D dp dq g h X p q e) (hb : Below w.heap.size w w1) : RetWk w G D dp dq g h X p q (X, e) w1 :=
  ⟨grown_of hb G, p, q, k.below hb, fun _ _ h => h⟩
set_option maxRecDepth 100000 in
set_option maxHeartbeats 1000000 in
theorem pt_count_ok (D : Dk) (dp dq : Pl) (g h : Int) (X : Pn) (p q : Pl) (G : Nat) (w : World) (hD : D.fit = true) (hW : WkAt w G D dp dq g h X p q 0) (k b : Int) (hkb : -9223372036854775808 ≤ b ∧ b ≤ 9223372036854775807) :
    Calls Tryz.prog 66 #[.pointer (some ⟨G, 0, none⟩), .int .i64 k, .int .i64 b] w fun x w' => x = .returned (.tuple #[]) ∧ RetWk w G D dp dq g h X p q (Pn.cntAdd D X k b) w' := by
  have hlt := hW.box.lt
  have hB := Below.refl w.heap.size w
  have b0 := Blk.new w 118 #[.pointer (some ⟨G, 0, none⟩)]
  have k0 := blk1 b0
  have hB_1 := hB.alloc hB.size (.cells #[.pointer (some ⟨G, 0, none⟩)] 118)
  have b1 := Blk.new (w.alloc (.cells #[.pointer (some ⟨G, 0, none⟩)] 118)) 3 #[.int .i64 k]
  simp only [World.size_alloc] at b1
  have b1k := blk1 b1
  have hB_2 := hB_1.alloc hB_1.size (.cells #[.int .i64 k] 3)
  have b0_3 := b0.alloc (.cells #[.int .i64 k] 3)
  have k0_3 := blk1 b0_3
  have b2 := Blk.new ((w.alloc (.cells #[.pointer (some ⟨G, 0, none⟩)] 118)).alloc (.cells #[.int .i64 k] 3)) 3 #[.int .i64 b]
  simp only [World.size_alloc] at b2
  have b2k := blk1 b2
  have hB_4 := hB_2.alloc hB_2.size (.cells #[.int .i64 b] 3)
  have b0_5 := b0_3.alloc (.cells #[.int .i64 b] 3)
  have k0_5 := blk1 b0_5
  have b1_6 := b1.alloc (.cells #[.int .i64 b] 3)
  have b1k_6 := blk1 b1_6
  go_enter Tryz.func66, Tryz.ntmps66
  go_wp2_with fail
  generalize (((w.alloc (.cells #[.pointer (some ⟨G, 0, none⟩)] 118)).alloc (.cells #[.int .i64 k] 3)).alloc (.cells #[.int .i64 b] 3)) = V at hB_4 b0_5 k0_5 b1_6 b1k_6 b2 b2k ⊢
  clear hB_1 hB_2 k0_3 b0_3 hB b0 b1 k0 b1k
  have hB := hB_4
  have b0 := b0_5
  have k0 := k0_5
  have b1 := b1_6
  have b1k := b1k_6
  clear hB_4 b0_5 k0_5 b1_6 b1k_6
  have kV := hW.below hB
  go_at_call 106
  have hcl := pt_count1 D dp dq g h X p q 0 G V kV hD k b hkb _ _ b0 _ _ b1 _ _ b2
  refine (pt_try_ok 117 (.inl rfl) #[.pointer (some ⟨w.heap.size, 0, none⟩), .pointer (some ⟨w.heap.size + 1, 0, none⟩), .pointer (some ⟨w.heap.size + 1 + 1, 0, none⟩)] G (.slice p.a X.targets.length p.c) (.slice q.a X.data.length q.c) (.int .i64 g) (.int .i64 h) (.string (bs D.data)) (.slice dp.a D.cache.length dp.c) (.int .i64 D.fuse) (.bool D.off) (.slice dq.a D.bad.length dq.c) V kV.box (Q := fun Y p' q' er W => V.grownBy W (some G) ∧ WkAt W G D dp dq g h X p q 0 ∧ IsPn W Y p' q' ∧ (∀ b, b < V.heap.size → PnOff b X p q → PnOff b Y p' q') ∧ Y = (Pn.cntAdd D X k b).1 ∧ er = (Pn.cntAdd D X k b).2) (hcl.mono ?_)).mono ?_
  · rintro e W ⟨⟨p', q', rfl, i1, o1⟩, hb⟩
    exact ⟨_, p', q', _, rfl, ⟨grown_of hb G, kV.below hb, i1, o1, rfl, rfl⟩, (kV.below hb).box⟩
  · rintro e W2 ⟨rfl, Y, p', q', er, W, ⟨hg, kW, i1, o1, rfl, rfl⟩, rfl⟩
    go_wp2_with fail
    refine bodyPost_end (v := .tuple #[]) (by simp [results, Tryz.results66, go_sem]) rfl ?_
    exact ⟨rfl, retWk_of hB hg kW i1 (fun b hb => o1 b (Nat.lt_of_lt_of_le hb hB.size)) (o1 G kV.box.lt kV.op) (Pn.cntAdd_fit hD hW.fit k b)⟩
theorem pt_count_no (D : Dk) (dp dq : Pl) (g h : Int) (X : Pn) (p q : Pl) (G : Nat) (w : World) (hD : D.fit = true) (er : Int) (he : er ≠ 0) (hW : WkAt w G D dp dq g h X p q er) (k b : Int) (hkb : -9223372036854775808 ≤ b ∧ b ≤ 9223372036854775807) :
    Calls Tryz.prog 66 #[.pointer (some ⟨G, 0, none⟩), .int .i64 k, .int .i64 b] w fun x w' => x = .returned (.tuple #[]) ∧ RetWk w G D dp dq g h X p q (X, er) w' := by
  have hlt := hW.box.lt
  have hB := Below.refl w.heap.size w
  have b0 := Blk.new w 118 #[.pointer (some ⟨G, 0, none⟩)]
  have k0 := blk1 b0
  have hB_1 := hB.alloc hB.size (.cells #[.pointer (some ⟨G, 0, none⟩)] 118)
  have b1 := Blk.new (w.alloc (.cells #[.pointer (some ⟨G, 0, none⟩)] 118)) 3 #[.int .i64 k]
  simp only [World.size_alloc] at b1
  have b1k := blk1 b1
  have hB_2 := hB_1.alloc hB_1.size (.cells #[.int .i64 k] 3)
  have b0_3 := b0.alloc (.cells #[.int .i64 k] 3)
  have k0_3 := blk1 b0_3
  have b2 := Blk.new ((w.alloc (.cells #[.pointer (some ⟨G, 0, none⟩)] 118)).alloc (.cells #[.int .i64 k] 3)) 3 #[.int .i64 b]
  simp only [World.size_alloc] at b2
  have b2k := blk1 b2
  have hB_4 := hB_2.alloc hB_2.size (.cells #[.int .i64 b] 3)
  have b0_5 := b0_3.alloc (.cells #[.int .i64 b] 3)
  have k0_5 := blk1 b0_5
  have b1_6 := b1.alloc (.cells #[.int .i64 b] 3)
  have b1k_6 := blk1 b1_6
  go_enter Tryz.func66, Tryz.ntmps66
  go_wp2_with fail
  generalize (((w.alloc (.cells #[.pointer (some ⟨G, 0, none⟩)] 118)).alloc (.cells #[.int .i64 k] 3)).alloc (.cells #[.int .i64 b] 3)) = V at hB_4 b0_5 k0_5 b1_6 b1k_6 b2 b2k ⊢
  clear hB_1 hB_2 k0_3 b0_3 hB b0 b1 k0 b1k
  have hB := hB_4
  have b0 := b0_5
  have k0 := k0_5
  have b1 := b1_6
  have b1k := b1k_6
  clear hB_4 b0_5 k0_5 b1_6 b1k_6
  have kV := hW.below hB
  go_at_call 106
  refine (pt_try_no _ G (.slice p.a X.targets.length p.c) (.slice q.a X.data.length q.c) (.int .i64 g) (.int .i64 h) (.string (bs D.data)) (.slice dp.a D.cache.length dp.c) (.int .i64 D.fuse) (.bool D.off) (.slice dq.a D.bad.length dq.c) er he V kV.box).mono ?_
  rintro e W2 ⟨rfl, rfl⟩
  clear he
  go_wp2_with fail
  refine bodyPost_end (v := .tuple #[]) (by simp [results, Tryz.results66, go_sem]) rfl ?_
  exact ⟨rfl, retWk_refl hW hB⟩
set_option maxRecDepth 100000 in
set_option maxHeartbeats 1000000 in
theorem pt_set_ok (D : Dk) (dp dq : Pl) (g h : Int) (X : Pn) (p q : Pl) (G : Nat) (w : World) (hD : D.fit = true) (hW : WkAt w G D dp dq g h X p q 0) (t i K B : Int) :
    Calls Tryz.prog 67 #[.pointer (some ⟨G, 0, none⟩), .int .i64 t, .int .i64 i, eval2 K B] w fun x w' => x = .returned (.tuple #[]) ∧ RetWk w G D dp dq g h X p q (Pn.tabSet D X t i K B) w' := by
  have hlt := hW.box.lt
  have hB := Below.refl w.heap.size w
  have b0 := Blk.new w 118 #[.pointer (some ⟨G, 0, none⟩)]
  have k0 := blk1 b0
  have hB_1 := hB.alloc hB.size (.cells #[.pointer (some ⟨G, 0, none⟩)] 118)
  have b1 := Blk.new (w.alloc (.cells #[.pointer (some ⟨G, 0, none⟩)] 118)) 3 #[.int .i64 t]
  simp only [World.size_alloc] at b1
  have b1k := blk1 b1
  have hB_2 := hB_1.alloc hB_1.size (.cells #[.int .i64 t] 3)
  have b0_3 := b0.alloc (.cells #[.int .i64 t] 3)
  have k0_3 := blk1 b0_3
  have b2 := Blk.new ((w.alloc (.cells #[.pointer (some ⟨G, 0, none⟩)] 118)).alloc (.cells #[.int .i64 t] 3)) 3 #[.int .i64 i]
  simp only [World.size_alloc] at b2
  have b2k := blk1 b2
  have hB_4 := hB_2.alloc hB_2.size (.cells #[.int .i64 i] 3)
  have b0_5 := b0_3.alloc (.cells #[.int .i64 i] 3)
  have k0_5 := blk1 b0_5
  have b1_6 := b1.alloc (.cells #[.int .i64 i] 3)
  have b1k_6 := blk1 b1_6
  have b3 := Blk.new (((w.alloc (.cells #[.pointer (some ⟨G, 0, none⟩)] 118)).alloc (.cells #[.int .i64 t] 3)).alloc (.cells #[.int .i64 i] 3)) 32 #[.int .i64 K, .int .i64 B]
  simp only [World.size_alloc] at b3
  have b3k := blk2 b3
  have hB_7 := hB_4.alloc hB_4.size (.cells #[.int .i64 K, .int .i64 B] 32)
  have b0_8 := b0_5.alloc (.cells #[.int .i64 K, .int .i64 B] 32)
  have k0_8 := blk1 b0_8
  have b1_9 := b1_6.alloc (.cells #[.int .i64 K, .int .i64 B] 32)
  have b1k_9 := blk1 b1_9
  have b2_10 := b2.alloc (.cells #[.int .i64 K, .int .i64 B] 32)
  have b2k_10 := blk1 b2_10
  go_enter Tryz.func67, Tryz.ntmps67
  go_wp2_with fail
  generalize ((((w.alloc (.cells #[.pointer (some ⟨G, 0, none⟩)] 118)).alloc (.cells #[.int .i64 t] 3)).alloc (.cells #[.int .i64 i] 3)).alloc (.cells #[.int .i64 K, .int .i64 B] 32)) = V at hB_7 b0_8 k0_8 b1_9 b1k_9 b2_10 b2k_10 b3 b3k ⊢
  clear hB_1 hB_2 k0_3 b0_3 hB_4 k0_5 b0_5 b1k_6 b1_6 hB b0 b1 b2 k0 b1k b2k
  have hB := hB_7
  have b0 := b0_8
  have k0 := k0_8
  have b1 := b1_9
  have b1k := b1k_9
  have b2 := b2_10
  have b2k := b2k_10
  clear hB_7 b0_8 k0_8 b1_9 b1k_9 b2_10 b2k_10
  have kV := hW.below hB
  go_at_call 106
  have hcl := pt_set1 D dp dq g h X p q 0 G V kV hD t i K B _ _ b0 _ _ b1 _ _ b2 _ _ b3
  refine (pt_try_ok 119 (.inr (.inl rfl)) #[.pointer (some ⟨w.heap.size, 0, none⟩), .pointer (some ⟨w.heap.size + 1, 0, none⟩), .pointer (some ⟨w.heap.size + 1 + 1, 0, none⟩), .pointer (some ⟨w.heap.size + 1 + 1 + 1, 0, none⟩)] G (.slice p.a X.targets.length p.c) (.slice q.a X.data.length q.c) (.int .i64 g) (.int .i64 h) (.string (bs D.data)) (.slice dp.a D.cache.length dp.c) (.int .i64 D.fuse) (.bool D.off) (.slice dq.a D.bad.length dq.c) V kV.box (Q := fun Y p' q' er W => V.grownBy W (some G) ∧ WkAt W G D dp dq g h X p q 0 ∧ IsPn W Y p' q' ∧ (∀ b, b < V.heap.size → PnOff b X p q → PnOff b Y p' q') ∧ Y = (Pn.tabSet D X t i K B).1 ∧ er = (Pn.tabSet D X t i K B).2) (hcl.mono ?_)).mono ?_
  · rintro e W ⟨⟨p', q', rfl, i1, o1⟩, hb⟩
    exact ⟨_, p', q', _, rfl, ⟨grown_of hb G, kV.below hb, i1, o1, rfl, rfl⟩, (kV.below hb).box⟩
  · rintro e W2 ⟨rfl, Y, p', q', er, W, ⟨hg, kW, i1, o1, rfl, rfl⟩, rfl⟩
    go_wp2_with fail
    refine bodyPost_end (v := .tuple #[]) (by simp [results, Tryz.results67, go_sem]) rfl ?_
    exact ⟨rfl, retWk_of hB hg kW i1 (fun b hb => o1 b (Nat.lt_of_lt_of_le hb hB.size)) (o1 G kV.box.lt kV.op) (Pn.tabSet_fit hD hW.fit t i K B)⟩
theorem pt_set_no (D : Dk) (dp dq : Pl) (g h : Int) (X : Pn) (p q : Pl) (G : Nat) (w : World) (hD : D.fit = true) (er : Int) (he : er ≠ 0) (hW : WkAt w G D dp dq g h X p q er) (t i K B : Int) :
    Calls Tryz.prog 67 #[.pointer (some ⟨G, 0, none⟩), .int .i64 t, .int .i64 i, eval2 K B] w fun x w' => x = .returned (.tuple #[]) ∧ RetWk w G D dp dq g h X p q (X, er) w' := by
  have hlt := hW.box.lt
  have hB := Below.refl w.heap.size w
  have b0 := Blk.new w 118 #[.pointer (some ⟨G, 0, none⟩)]
  have k0 := blk1 b0
  have hB_1 := hB.alloc hB.size (.cells #[.pointer (some ⟨G, 0, none⟩)] 118)
  have b1 := Blk.new (w.alloc (.cells #[.pointer (some ⟨G, 0, none⟩)] 118)) 3 #[.int .i64 t]
  simp only [World.size_alloc] at b1
  have b1k := blk1 b1
  have hB_2 := hB_1.alloc hB_1.size (.cells #[.int .i64 t] 3)
  have b0_3 := b0.alloc (.cells #[.int .i64 t] 3)
  have k0_3 := blk1 b0_3
  have b2 := Blk.new ((w.alloc (.cells #[.pointer (some ⟨G, 0, none⟩)] 118)).alloc (.cells #[.int .i64 t] 3)) 3 #[.int .i64 i]
  simp only [World.size_alloc] at b2
  have b2k := blk1 b2
  have hB_4 := hB_2.alloc hB_2.size (.cells #[.int .i64 i] 3)
  have b0_5 := b0_3.alloc (.cells #[.int .i64 i] 3)
  have k0_5 := blk1 b0_5
  have b1_6 := b1.alloc (.cells #[.int .i64 i] 3)
  have b1k_6 := blk1 b1_6
  have b3 := Blk.new (((w.alloc (.cells #[.pointer (some ⟨G, 0, none⟩)] 118)).alloc (.cells #[.int .i64 t] 3)).alloc (.cells #[.int .i64 i] 3)) 32 #[.int .i64 K, .int .i64 B]
  simp only [World.size_alloc] at b3
  have b3k := blk2 b3
  have hB_7 := hB_4.alloc hB_4.size (.cells #[.int .i64 K, .int .i64 B] 32)
  have b0_8 := b0_5.alloc (.cells #[.int .i64 K, .int .i64 B] 32)
  have k0_8 := blk1 b0_8
  have b1_9 := b1_6.alloc (.cells #[.int .i64 K, .int .i64 B] 32)
  have b1k_9 := blk1 b1_9
  have b2_10 := b2.alloc (.cells #[.int .i64 K, .int .i64 B] 32)
  have b2k_10 := blk1 b2_10
  go_enter Tryz.func67, Tryz.ntmps67
  go_wp2_with fail
  generalize ((((w.alloc (.cells #[.pointer (some ⟨G, 0, none⟩)] 118)).alloc (.cells #[.int .i64 t] 3)).alloc (.cells #[.int .i64 i] 3)).alloc (.cells #[.int .i64 K, .int .i64 B] 32)) = V at hB_7 b0_8 k0_8 b1_9 b1k_9 b2_10 b2k_10 b3 b3k ⊢
  clear hB_1 hB_2 k0_3 b0_3 hB_4 k0_5 b0_5 b1k_6 b1_6 hB b0 b1 b2 k0 b1k b2k
  have hB := hB_7
  have b0 := b0_8
  have k0 := k0_8
  have b1 := b1_9
  have b1k := b1k_9
  have b2 := b2_10
  have b2k := b2k_10
  clear hB_7 b0_8 k0_8 b1_9 b1k_9 b2_10 b2k_10
  have kV := hW.below hB
  go_at_call 106
  refine (pt_try_no _ G (.slice p.a X.targets.length p.c) (.slice q.a X.data.length q.c) (.int .i64 g) (.int .i64 h) (.string (bs D.data)) (.slice dp.a D.cache.length dp.c) (.int .i64 D.fuse) (.bool D.off) (.slice dq.a D.bad.length dq.c) er he V kV.box).mono ?_
  rintro e W2 ⟨rfl, rfl⟩
  clear he
  go_wp2_with fail
  refine bodyPost_end (v := .tuple #[]) (by simp [results, Tryz.results67, go_sem]) rfl ?_
  exact ⟨rfl, retWk_refl hW hB⟩
theorem WkAt.grown {w W : World} {G B : Nat} {D : Dk} {dp dq : Pl} {g h : Int} {X : Pn} {p q : Pl} {e : Int} (k : WkAt w G D dp dq g h X p q e) (hg : w.grownBy W (some B)) (n : G ≠ B) (od : DkOff B D dp dq) (op : PnOff B X p q) : WkAt W G D dp dq g h X p q e :=
  ⟨k.box.grown hg n, k.dk.grown hg od, k.pn.grown hg op, k.od, k.op, k.fit⟩
theorem wkSet_blk {W : World} {G b : Nat} {t : TypeId} {cs : Array Value} (h : Blk W b t cs) (hb : b ≠ G) (X : Pn) (p q : Pl) (e : Int) : Blk (wkSet W G X p q e) b t cs :=
  ((h.other (a := ⟨G, 0, none⟩) hb _).other (a := ⟨G, 1, none⟩) hb _).other (a := ⟨G, 9, none⟩) hb _
theorem grown_through {a b c : World} {G k : Nat} (h : a.grownBy b (some G)) (hg : b.grownBy c (some k)) (hk : a.heap.size ≤ k) : a.grownBy c (some G) :=
  ⟨hg.os.trans h.os, hg.tape.trans h.tape, hg.output.trans h.output, Nat.le_trans h.size hg.size, fun j hj hne => (hg.block j (Nat.lt_of_lt_of_le hj h.size) (by intro e; injection e with e; omega)).trans (h.block j hj hne)⟩
set_option maxRecDepth 100000 in
set_option maxHeartbeats 1000000 in
theorem pt_get_okS (D : Dk) (dp dq : Pl) (g h : Int) (X : Pn) (p q : Pl) (G : Nat) (w : World) (hD : D.fit = true) (hW : WkAt w G D dp dq g h X p q 0) (t i : Int) :
    Calls Tryz.prog 65 #[.pointer (some ⟨G, 0, none⟩), .int .i64 t, .int .i64 i] w fun x w' => x = .returned (eval2 (Pn.tabGet D X t i).1.1 (Pn.tabGet D X t i).1.2) ∧ w.grownBy w' (some G) ∧ WkAt w' G D dp dq g h X p q ((Pn.tabGet D X t i).2) := by
  have hlt := hW.box.lt
  have oD : ∀ B, w.heap.size ≤ B → DkOff B D dp dq := fun B hB => hW.dk.apart hB
  have oP : ∀ B, w.heap.size ≤ B → PnOff B X p q := fun B hB => hW.pn.apart hB
  have hB := Below.refl w.heap.size w
  have b0 := Blk.new w 118 #[.pointer (some ⟨G, 0, none⟩)]
  have k0 := blk1 b0
  have hB_1 := hB.alloc hB.size (.cells #[.pointer (some ⟨G, 0, none⟩)] 118)
  have b1 := Blk.new (w.alloc (.cells #[.pointer (some ⟨G, 0, none⟩)] 118)) 3 #[.int .i64 t]
  simp only [World.size_alloc] at b1
  have b1k := blk1 b1
  have hB_2 := hB_1.alloc hB_1.size (.cells #[.int .i64 t] 3)
  have b0_3 := b0.alloc (.cells #[.int .i64 t] 3)
  have k0_3 := blk1 b0_3
  have b2 := Blk.new ((w.alloc (.cells #[.pointer (some ⟨G, 0, none⟩)] 118)).alloc (.cells #[.int .i64 t] 3)) 3 #[.int .i64 i]
  simp only [World.size_alloc] at b2
  have b2k := blk1 b2
  have hB_4 := hB_2.alloc hB_2.size (.cells #[.int .i64 i] 3)
  have b0_5 := b0_3.alloc (.cells #[.int .i64 i] 3)
  have k0_5 := blk1 b0_5
  have b1_6 := b1.alloc (.cells #[.int .i64 i] 3)
  have b1k_6 := blk1 b1_6
  have b3 := Blk.new (((w.alloc (.cells #[.pointer (some ⟨G, 0, none⟩)] 118)).alloc (.cells #[.int .i64 t] 3)).alloc (.cells #[.int .i64 i] 3)) 32 #[.int .i64 0, .int .i64 0]
  simp only [World.size_alloc] at b3
  have b3k := blk2 b3
  have b3kf := b3.frozen
  have hB_7 := hB_4.alloc hB_4.size (.cells #[.int .i64 0, .int .i64 0] 32)
  have b0_8 := b0_5.alloc (.cells #[.int .i64 0, .int .i64 0] 32)
  have k0_8 := blk1 b0_8
  have b1_9 := b1_6.alloc (.cells #[.int .i64 0, .int .i64 0] 32)
  have b1k_9 := blk1 b1_9
  have b2_10 := b2.alloc (.cells #[.int .i64 0, .int .i64 0] 32)
  have b2k_10 := blk1 b2_10
  go_enter Tryz.func65, Tryz.ntmps65
  go_wp2_with fail
  generalize ((((w.alloc (.cells #[.pointer (some ⟨G, 0, none⟩)] 118)).alloc (.cells #[.int .i64 t] 3)).alloc (.cells #[.int .i64 i] 3)).alloc (.cells #[.int .i64 0, .int .i64 0] 32)) = V at hB_7 b0_8 k0_8 b1_9 b1k_9 b2_10 b2k_10 b3 b3k b3kf ⊢
  clear hB_1 hB_2 k0_3 b0_3 hB_4 k0_5 b0_5 b1k_6 b1_6 hB b0 b1 b2 k0 b1k b2k
  have hB := hB_7
  have b0 := b0_8
  have k0 := k0_8
  have b1 := b1_9
  have b1k := b1k_9
  have b2 := b2_10
  have b2k := b2k_10
  clear hB_7 b0_8 k0_8 b1_9 b1k_9 b2_10 b2k_10
  have kV := hW.below hB
  have hRG : w.heap.size + 1 + 1 + 1 ≠ G := by omega
  have oDR := oD (w.heap.size + 1 + 1 + 1) (by omega)
  have oPR := oP (w.heap.size + 1 + 1 + 1) (by omega)
  go_at_call 106
  have hcl := pt_get1 D dp dq g h X p q 0 G V kV hD t i _ _ b0 _ _ b1 _ _ b2 _ _ _ _ b3 hRG.symm (by omega) (by omega) (by omega) oDR oPR
  refine (pt_try_ok 115 (.inr (.inr (.inl rfl))) #[.pointer (some ⟨w.heap.size, 0, none⟩), .pointer (some ⟨w.heap.size + 1, 0, none⟩), .pointer (some ⟨w.heap.size + 1 + 1, 0, none⟩), .pointer (some ⟨w.heap.size + 1 + 1 + 1, 0, none⟩)] G (.slice p.a X.targets.length p.c) (.slice q.a X.data.length q.c) (.int .i64 g) (.int .i64 h) (.string (bs D.data)) (.slice dp.a D.cache.length dp.c) (.int .i64 D.fuse) (.bool D.off) (.slice dq.a D.bad.length dq.c) V kV.box (Q := fun Y p' q' er W => X = Y ∧ p = p' ∧ q = q' ∧ er = (Pn.tabGet D X t i).2 ∧ V.grownBy W (some (w.heap.size + 1 + 1 + 1)) ∧ Blk W (w.heap.size + 1 + 1 + 1) 32 #[.int .i64 (Pn.tabGet D X t i).1.1, .int .i64 (Pn.tabGet D X t i).1.2]) (hcl.mono ?_)).mono ?_
  · rintro e W ⟨rfl, hg, hb⟩
    exact ⟨X, p, q, _, rfl, ⟨rfl, rfl, rfl, rfl, hg, hb⟩, kV.box.grown hg hRG.symm⟩
  rintro e W2 ⟨rfl, Y, p', q', er, W, ⟨rfl, rfl, rfl, rfl, hg, hb⟩, rfl⟩
  have kW := kV.grown hg hRG.symm oDR oPR
  have kU := kW.set kW.pn kW.op kW.fit (e' := (Pn.tabGet D X t i).2)
  have rU := wkSet_blk hb hRG X p q ((Pn.tabGet D X t i).2)
  have gU : w.grownBy (wkSet W G X p q ((Pn.tabGet D X t i).2)) (some G) := wkSet_grown (grown_through (grown_of hB G) hg (by omega)) _ _ _ _
  generalize wkSet W G X p q ((Pn.tabGet D X t i).2) = U at kU rU gU ⊢
  clear hcl hb kW hg b0 k0 b1 b1k b2 b2k b3 b3k b3kf kV
  skip
  have z1 := blk2 rU
  have f1 := rU.frozen
  have s0_ := rU.set 0 (.int .i64 (Pn.tabGet D X t i).1.1)
  have sf0_ := s0_.frozen
  have sk0_ := blk2 s0_
  have sl_ := s0_.set 1 (.int .i64 (Pn.tabGet D X t i).1.2)
  have yy := blk2 sl_
  go_wp2_with fail
  refine bodyPost_ret (v := eval2 (Pn.tabGet D X t i).1.1 (Pn.tabGet D X t i).1.2) (by simp [results, Tryz.results65, go_sem, yy]) rfl ?_
  exact ⟨rfl, (grown_new (grown_new gU (show w.heap.size ≤ w.heap.size + 1 + 1 + 1 by omega) 0 (.int .i64 (Pn.tabGet D X t i).1.1)) (show w.heap.size ≤ w.heap.size + 1 + 1 + 1 by omega) 1 (.int .i64 (Pn.tabGet D X t i).1.2)), ((kU.other (a := ⟨w.heap.size + 1 + 1 + 1, 0, none⟩) hRG oDR oPR (.int .i64 (Pn.tabGet D X t i).1.1)).other (a := ⟨w.heap.size + 1 + 1 + 1, 1, none⟩) hRG oDR oPR (.int .i64 (Pn.tabGet D X t i).1.2))⟩
theorem pt_get_ok (D : Dk) (dp dq : Pl) (g h : Int) (X : Pn) (p q : Pl) (G : Nat) (w : World) (hD : D.fit = true) (hW : WkAt w G D dp dq g h X p q 0) (t i : Int) :
    Calls Tryz.prog 65 #[.pointer (some ⟨G, 0, none⟩), .int .i64 t, .int .i64 i] w fun x w' => x = .returned (eval2 (Pn.tabGet D X t i).1.1 (Pn.tabGet D X t i).1.2) ∧ RetWk w G D dp dq g h X p q (X, (Pn.tabGet D X t i).2) w' :=
  (pt_get_okS D dp dq g h X p q G w hD hW t i).mono fun _ _ h => ⟨h.1, h.2.1, p, q, h.2.2, fun _ _ h => h⟩
theorem pt_get_no (D : Dk) (dp dq : Pl) (g h : Int) (X : Pn) (p q : Pl) (G : Nat) (w : World) (hD : D.fit = true) (er : Int) (he : er ≠ 0) (hW : WkAt w G D dp dq g h X p q er) (t i : Int) :
    Calls Tryz.prog 65 #[.pointer (some ⟨G, 0, none⟩), .int .i64 t, .int .i64 i] w fun x w' => x = .returned (eval2 0 0) ∧ RetWk w G D dp dq g h X p q (X, er) w' := by
  have hlt := hW.box.lt
  have oD : ∀ B, w.heap.size ≤ B → DkOff B D dp dq := fun B hB => hW.dk.apart hB
  have oP : ∀ B, w.heap.size ≤ B → PnOff B X p q := fun B hB => hW.pn.apart hB
  have hB := Below.refl w.heap.size w
  have b0 := Blk.new w 118 #[.pointer (some ⟨G, 0, none⟩)]
  have k0 := blk1 b0
  have hB_1 := hB.alloc hB.size (.cells #[.pointer (some ⟨G, 0, none⟩)] 118)
  have b1 := Blk.new (w.alloc (.cells #[.pointer (some ⟨G, 0, none⟩)] 118)) 3 #[.int .i64 t]
  simp only [World.size_alloc] at b1
  have b1k := blk1 b1
  have hB_2 := hB_1.alloc hB_1.size (.cells #[.int .i64 t] 3)
  have b0_3 := b0.alloc (.cells #[.int .i64 t] 3)
  have k0_3 := blk1 b0_3
  have b2 := Blk.new ((w.alloc (.cells #[.pointer (some ⟨G, 0, none⟩)] 118)).alloc (.cells #[.int .i64 t] 3)) 3 #[.int .i64 i]
  simp only [World.size_alloc] at b2
  have b2k := blk1 b2
  have hB_4 := hB_2.alloc hB_2.size (.cells #[.int .i64 i] 3)
  have b0_5 := b0_3.alloc (.cells #[.int .i64 i] 3)
  have k0_5 := blk1 b0_5
  have b1_6 := b1.alloc (.cells #[.int .i64 i] 3)
  have b1k_6 := blk1 b1_6
  have b3 := Blk.new (((w.alloc (.cells #[.pointer (some ⟨G, 0, none⟩)] 118)).alloc (.cells #[.int .i64 t] 3)).alloc (.cells #[.int .i64 i] 3)) 32 #[.int .i64 0, .int .i64 0]
  simp only [World.size_alloc] at b3
  have b3k := blk2 b3
  have b3kf := b3.frozen
  have hB_7 := hB_4.alloc hB_4.size (.cells #[.int .i64 0, .int .i64 0] 32)
  have b0_8 := b0_5.alloc (.cells #[.int .i64 0, .int .i64 0] 32)
  have k0_8 := blk1 b0_8
  have b1_9 := b1_6.alloc (.cells #[.int .i64 0, .int .i64 0] 32)
  have b1k_9 := blk1 b1_9
  have b2_10 := b2.alloc (.cells #[.int .i64 0, .int .i64 0] 32)
  have b2k_10 := blk1 b2_10
  go_enter Tryz.func65, Tryz.ntmps65
  go_wp2_with fail
  generalize ((((w.alloc (.cells #[.pointer (some ⟨G, 0, none⟩)] 118)).alloc (.cells #[.int .i64 t] 3)).alloc (.cells #[.int .i64 i] 3)).alloc (.cells #[.int .i64 0, .int .i64 0] 32)) = V at hB_7 b0_8 k0_8 b1_9 b1k_9 b2_10 b2k_10 b3 b3k b3kf ⊢
  clear hB_1 hB_2 k0_3 b0_3 hB_4 k0_5 b0_5 b1k_6 b1_6 hB b0 b1 b2 k0 b1k b2k
  have hB := hB_7
  have b0 := b0_8
  have k0 := k0_8
  have b1 := b1_9
  have b1k := b1k_9
  have b2 := b2_10
  have b2k := b2k_10
  clear hB_7 b0_8 k0_8 b1_9 b1k_9 b2_10 b2k_10
  have kV := hW.below hB
  have hRG : w.heap.size + 1 + 1 + 1 ≠ G := by omega
  have oDR := oD (w.heap.size + 1 + 1 + 1) (by omega)
  have oPR := oP (w.heap.size + 1 + 1 + 1) (by omega)
  go_at_call 106
  refine (pt_try_no _ G (.slice p.a X.targets.length p.c) (.slice q.a X.data.length q.c) (.int .i64 g) (.int .i64 h) (.string (bs D.data)) (.slice dp.a D.cache.length dp.c) (.int .i64 D.fuse) (.bool D.off) (.slice dq.a D.bad.length dq.c) er he V kV.box).mono ?_
  rintro e W2 ⟨rfl, rfl⟩
  clear he
  have z1 := blk2 b3
  have f1 := b3.frozen
  have s0_ := b3.set 0 (.int .i64 0)
  have sf0_ := s0_.frozen
  have sk0_ := blk2 s0_
  have sl_ := s0_.set 1 (.int .i64 0)
  have yy := blk2 sl_
  go_wp2_with fail
  refine bodyPost_ret (v := eval2 0 0) (by simp [results, Tryz.results65, go_sem, yy]) rfl ?_
  exact ⟨rfl, (grown_new (grown_new (grown_of hB G) (show w.heap.size ≤ w.heap.size + 1 + 1 + 1 by omega) 0 (.int .i64 0)) (show w.heap.size ≤ w.heap.size + 1 + 1 + 1 by omega) 1 (.int .i64 0)), p, q, ((kV.other (a := ⟨w.heap.size + 1 + 1 + 1, 0, none⟩) hRG oDR oPR (.int .i64 0)).other (a := ⟨w.heap.size + 1 + 1 + 1, 1, none⟩) hRG oDR oPR (.int .i64 0)), fun _ _ h => h⟩
set_option maxRecDepth 100000 in
set_option maxHeartbeats 1000000 in
theorem pt_counted_okS (D : Dk) (dp dq : Pl) (g h : Int) (X : Pn) (p q : Pl) (G : Nat) (w : World) (hD : D.fit = true) (hW : WkAt w G D dp dq g h X p q 0) (k : Int) :
    Calls Tryz.prog 112 #[.pointer (some ⟨G, 0, none⟩), .int .i64 k] w fun x w' => x = .returned (.int .i64 (Pn.cntGet D X k).1) ∧ w.grownBy w' (some G) ∧ WkAt w' G D dp dq g h X p q ((Pn.cntGet D X k).2) := by
  have hlt := hW.box.lt
  have oD : ∀ B, w.heap.size ≤ B → DkOff B D dp dq := fun B hB => hW.dk.apart hB
  have oP : ∀ B, w.heap.size ≤ B → PnOff B X p q := fun B hB => hW.pn.apart hB
  have hB := Below.refl w.heap.size w
  have b0 := Blk.new w 118 #[.pointer (some ⟨G, 0, none⟩)]
  have k0 := blk1 b0
  have hB_1 := hB.alloc hB.size (.cells #[.pointer (some ⟨G, 0, none⟩)] 118)
  have b1 := Blk.new (w.alloc (.cells #[.pointer (some ⟨G, 0, none⟩)] 118)) 3 #[.int .i64 k]
  simp only [World.size_alloc] at b1
  have b1k := blk1 b1
  have hB_2 := hB_1.alloc hB_1.size (.cells #[.int .i64 k] 3)
  have b0_3 := b0.alloc (.cells #[.int .i64 k] 3)
  have k0_3 := blk1 b0_3
  have b2 := Blk.new ((w.alloc (.cells #[.pointer (some ⟨G, 0, none⟩)] 118)).alloc (.cells #[.int .i64 k] 3)) 3 #[.int .i64 0]
  simp only [World.size_alloc] at b2
  have b2k := blk1 b2
  have b2kf := b2.frozen
  have hB_4 := hB_2.alloc hB_2.size (.cells #[.int .i64 0] 3)
  have b0_5 := b0_3.alloc (.cells #[.int .i64 0] 3)
  have k0_5 := blk1 b0_5
  have b1_6 := b1.alloc (.cells #[.int .i64 0] 3)
  have b1k_6 := blk1 b1_6
  go_enter Tryz.func112, Tryz.ntmps112
  go_wp2_with fail
  generalize (((w.alloc (.cells #[.pointer (some ⟨G, 0, none⟩)] 118)).alloc (.cells #[.int .i64 k] 3)).alloc (.cells #[.int .i64 0] 3)) = V at hB_4 b0_5 k0_5 b1_6 b1k_6 b2 b2k b2kf ⊢
  clear hB_1 hB_2 k0_3 b0_3 hB b0 b1 k0 b1k
  have hB := hB_4
  have b0 := b0_5
  have k0 := k0_5
  have b1 := b1_6
  have b1k := b1k_6
  clear hB_4 b0_5 k0_5 b1_6 b1k_6
  have kV := hW.below hB
  have hRG : w.heap.size + 1 + 1 ≠ G := by omega
  have oDR := oD (w.heap.size + 1 + 1) (by omega)
  have oPR := oP (w.heap.size + 1 + 1) (by omega)
  go_at_call 106
  have hcl := pt_counted1 D dp dq g h X p q 0 G V kV hD k _ _ b0 _ _ b1 _ _ _ b2 hRG.symm (by omega) (by omega) oDR oPR
  refine (pt_try_ok 168 (.inr (.inr (.inr (.inl rfl)))) #[.pointer (some ⟨w.heap.size, 0, none⟩), .pointer (some ⟨w.heap.size + 1, 0, none⟩), .pointer (some ⟨w.heap.size + 1 + 1, 0, none⟩)] G (.slice p.a X.targets.length p.c) (.slice q.a X.data.length q.c) (.int .i64 g) (.int .i64 h) (.string (bs D.data)) (.slice dp.a D.cache.length dp.c) (.int .i64 D.fuse) (.bool D.off) (.slice dq.a D.bad.length dq.c) V kV.box (Q := fun Y p' q' er W => X = Y ∧ p = p' ∧ q = q' ∧ er = (Pn.cntGet D X k).2 ∧ V.grownBy W (some (w.heap.size + 1 + 1)) ∧ Blk W (w.heap.size + 1 + 1) 3 #[.int .i64 (Pn.cntGet D X k).1]) (hcl.mono ?_)).mono ?_
  · rintro e W ⟨rfl, hg, hb⟩
    exact ⟨X, p, q, _, rfl, ⟨rfl, rfl, rfl, rfl, hg, hb⟩, kV.box.grown hg hRG.symm⟩
  rintro e W2 ⟨rfl, Y, p', q', er, W, ⟨rfl, rfl, rfl, rfl, hg, hb⟩, rfl⟩
  have kW := kV.grown hg hRG.symm oDR oPR
  have kU := kW.set kW.pn kW.op kW.fit (e' := (Pn.cntGet D X k).2)
  have rU := wkSet_blk hb hRG X p q ((Pn.cntGet D X k).2)
  have gU : w.grownBy (wkSet W G X p q ((Pn.cntGet D X k).2)) (some G) := wkSet_grown (grown_through (grown_of hB G) hg (by omega)) _ _ _ _
  generalize wkSet W G X p q ((Pn.cntGet D X k).2) = U at kU rU gU ⊢
  clear hcl hb kW hg b0 k0 b1 b1k b2 b2k b2kf kV
  skip
  have z1 := blk1 rU
  have f1 := rU.frozen
  have sl_ := rU.set 0 (.int .i64 (Pn.cntGet D X k).1)
  have yy := blk1 sl_
  go_wp2_with fail
  refine bodyPost_ret (v := .int .i64 (Pn.cntGet D X k).1) (by simp [results, Tryz.results112, go_sem, yy]) rfl ?_
  exact ⟨rfl, (grown_new gU (show w.heap.size ≤ w.heap.size + 1 + 1 by omega) 0 (.int .i64 (Pn.cntGet D X k).1)), (kU.other (a := ⟨w.heap.size + 1 + 1, 0, none⟩) hRG oDR oPR (.int .i64 (Pn.cntGet D X k).1))⟩
theorem pt_counted_ok (D : Dk) (dp dq : Pl) (g h : Int) (X : Pn) (p q : Pl) (G : Nat) (w : World) (hD : D.fit = true) (hW : WkAt w G D dp dq g h X p q 0) (k : Int) :
    Calls Tryz.prog 112 #[.pointer (some ⟨G, 0, none⟩), .int .i64 k] w fun x w' => x = .returned (.int .i64 (Pn.cntGet D X k).1) ∧ RetWk w G D dp dq g h X p q (X, (Pn.cntGet D X k).2) w' :=
  (pt_counted_okS D dp dq g h X p q G w hD hW k).mono fun _ _ h => ⟨h.1, h.2.1, p, q, h.2.2, fun _ _ h => h⟩
end Go.Proofs.YtplgmlcoeehnfaaGreat
set_option linter.unusedVariables false
namespace Go.Proofs.YtplgmlcoeehnfaaGreat
open Go.RowKit Go.Shelf
attribute [local go_sem] bs_mk bs_append bs_extract bs_size bs_toList bs_get
set_option maxRecDepth 100000 in
set_option maxHeartbeats 2000000 in
theorem pt_take_ok (D : Dk) (dp dq : Pl) (g : Int) (h : Nat) (X : Pn) (p q : Pl) (G : Nat) (w : World) (hD : D.fit = true) (hW : WkAt w G D dp dq g h X p q 0) (hh : h ≤ 256)
    (f : FuncId) (hf : f = 110 ∨ f = 113) (caps : Array Value) (M : Pn × Int) (hM : M.1.Fit)
    (hfill : ∀ (W : World) (p' q' : Pl), w.grownBy W (some G) → WkAt W G D dp dq g h (Pn.alTake D X h).1 p' q' 0 → Calls Tryz.prog f (#[.int .i64 (Pn.alTake D X h).2.1] ++ caps) W fun x w' => RetPn W.heap.size (Pn.alTake D X h).1 p' q' M x w' ∧ Below W.heap.size W w') :
    Calls Tryz.prog 109 #[.pointer (some ⟨G, 0, none⟩), .func (.func f) #[] caps] w fun x w' => x = .returned (.int .i64 (Pn.alTake D X h).2.1) ∧ RetWk w G D dp dq g h X p q (Pn.step ((Pn.alTake D X h).1, (Pn.alTake D X h).2.2) fun _ => M) w' := by
  have hlt := hW.box.lt
  have oD : ∀ B, w.heap.size ≤ B → DkOff B D dp dq := fun B hB => hW.dk.apart hB
  have oP : ∀ B, w.heap.size ≤ B → PnOff B X p q := fun B hB => hW.pn.apart hB
  have hXf := Pn.alTake_fit (L := X) hD hW.fit h
  have Hok := hid (fun e0 : (Pn.alTake D X h).2.2 = 0 => show (Pn.step ((Pn.alTake D X h).1, (Pn.alTake D X h).2.2) fun _ => M) = M from Pn.step_zero e0)
  have Hno := hid (fun e0 : (Pn.alTake D X h).2.2 ≠ 0 => show (Pn.step ((Pn.alTake D X h).1, (Pn.alTake D X h).2.2) fun _ => M) = ((Pn.alTake D X h).1, (Pn.alTake D X h).2.2) from Pn.step_err e0)
  have hB := Below.refl w.heap.size w
  have b0 := Blk.new w 118 #[.pointer (some ⟨G, 0, none⟩)]
  have k0 := blk1 b0
  have hB_1 := hB.alloc hB.size (.cells #[.pointer (some ⟨G, 0, none⟩)] 118)
  have b1 := Blk.new (w.alloc (.cells #[.pointer (some ⟨G, 0, none⟩)] 118)) 180 #[.func (.func f) #[] caps]
  simp only [World.size_alloc] at b1
  have k1 := blk1 b1
  have hB_2 := hB_1.alloc hB_1.size (.cells #[.func (.func f) #[] caps] 180)
  have b0_3 := b0.alloc (.cells #[.func (.func f) #[] caps] 180)
  have k0_3 := blk1 b0_3
  have b2 := Blk.new ((w.alloc (.cells #[.pointer (some ⟨G, 0, none⟩)] 118)).alloc (.cells #[.func (.func f) #[] caps] 180)) 3 #[.int .i64 0]
  simp only [World.size_alloc] at b2
  have k2 := blk1 b2
  have k2f := b2.frozen
  have hB_4 := hB_2.alloc hB_2.size (.cells #[.int .i64 0] 3)
  have b0_5 := b0_3.alloc (.cells #[.int .i64 0] 3)
  have k0_5 := blk1 b0_5
  have b1_6 := b1.alloc (.cells #[.int .i64 0] 3)
  have k1_6 := blk1 b1_6
  go_enter Tryz.func109, Tryz.ntmps109
  go_wp2_with fail
  generalize (((w.alloc (.cells #[.pointer (some ⟨G, 0, none⟩)] 118)).alloc (.cells #[.func (.func f) #[] caps] 180)).alloc (.cells #[.int .i64 0] 3)) = V at hB_4 b0_5 k0_5 b1_6 k1_6 b2 k2 k2f ⊢
  clear hB_1 hB_2 k0_3 b0_3 hB b0 b1 k0 k1
  have hB := hB_4
  have b0 := b0_5
  have k0 := k0_5
  have b1 := b1_6
  have k1 := k1_6
  clear hB_4 b0_5 k0_5 b1_6 k1_6
  have kV := hW.below hB
  have hRG : w.heap.size + 1 + 1 ≠ G := by omega
  have oDR := oD (w.heap.size + 1 + 1) (by omega)
  have oPR := oP (w.heap.size + 1 + 1) (by omega)
  have hcl := pt_take1 D dp dq g h X p q 0 G V kV hD hh _ _ b0 _ _ _ b2 hRG.symm (by omega) oDR oPR
  go_at_call 106
  refine (pt_try_ok 162 (.inr (.inr (.inr (.inr (.inl rfl))))) #[.pointer (some ⟨w.heap.size, 0, none⟩), .pointer (some ⟨w.heap.size + 1 + 1, 0, none⟩)] G (.slice p.a X.targets.length p.c) (.slice q.a X.data.length q.c) (.int .i64 g) (.int .i64 h) (.string (bs D.data)) (.slice dp.a D.cache.length dp.c) (.int .i64 D.fuse) (.bool D.off) (.slice dq.a D.bad.length dq.c) V kV.box
    (Q := fun Y p' q' er W => (Pn.alTake D X h).1 = Y ∧ er = (Pn.alTake D X h).2.2 ∧ IsPn W Y p' q' ∧ (∀ b, b < V.heap.size → PnOff b X p q → PnOff b Y p' q') ∧ V.grownBy W (some (w.heap.size + 1 + 1)) ∧ Blk W (w.heap.size + 1 + 1) 3 #[.int .i64 (Pn.alTake D X h).2.1]) (hcl.mono ?_)).mono ?_
  · rintro e W ⟨p', q', rfl, i1, o1, hg, hb⟩
    exact ⟨_, p', q', _, rfl, ⟨rfl, rfl, i1, o1, hg, hb⟩, kV.box.grown hg hRG.symm⟩
  rintro e W2 ⟨rfl, Y, p1, q1, er, W, ⟨rfl, rfl, i1, o1, hg, hb⟩, rfl⟩
  have oG1 := o1 G kV.box.lt kV.op
  have kU := (kV.grown hg hRG.symm oDR oPR).set (e' := (Pn.alTake D X h).2.2) i1 oG1 hXf
  have rU := wkSet_blk hb hRG (Pn.alTake D X h).1 p1 q1 (Pn.alTake D X h).2.2
  have v0 := wkSet_blk (b0.grown hg (show w.heap.size ≠ w.heap.size + 1 + 1 by omega)) (show w.heap.size ≠ G by omega) (Pn.alTake D X h).1 p1 q1 (Pn.alTake D X h).2.2
  have v1 := wkSet_blk (b1.grown hg (show w.heap.size + 1 ≠ w.heap.size + 1 + 1 by omega)) (show w.heap.size + 1 ≠ G by omega) (Pn.alTake D X h).1 p1 q1 (Pn.alTake D X h).2.2
  have gU : w.grownBy (wkSet W G (Pn.alTake D X h).1 p1 q1 (Pn.alTake D X h).2.2) (some G) := wkSet_grown (grown_through (grown_of hB G) hg (by omega)) _ _ _ _
  have O1 : ∀ b, b < V.heap.size → PnOff b X p q → PnOff b (Pn.alTake D X h).1 p1 q1 := o1
  generalize wkSet W G (Pn.alTake D X h).1 p1 q1 (Pn.alTake D X h).2.2 = U at kU rU v0 v1 gU ⊢
  have hsV := hB.size
  have bl2 : w.heap.size + 1 + 1 < V.heap.size := b2.lt
  clear hcl hb hg b0 k0 b1 k1 b2 k2 k2f kV i1 o1
  have z0 := blk1 v0
  have z1 := blk1 v1
  by_cases he : (Pn.alTake D X h).2.2 = 0
  · have Hs := hid (Hok.out he)
    clear Hok Hno
    rw [he] at kU
    clear he
    go_wp2_with fail
    go_at_call 106
    have hc2 := pt_take2 (Pn.alTake D X h).1 p1 q1 M (Pn.alTake D X h).2.1 f hf caps _ _ _ _ U v1 rU (kU.pn.apart (Nat.le_refl _)) (fun W hW => hfill W p1 q1 (grown_then gU hW) (kU.below hW))
    refine (pt_try_ok 164 (.inr (.inr (.inr (.inr (.inr (.inl rfl)))))) #[.pointer (some ⟨w.heap.size + 1, 0, none⟩), .pointer (some ⟨w.heap.size + 1 + 1, 0, none⟩)] G (.slice p1.a (Pn.alTake D X h).1.targets.length p1.c) (.slice q1.a (Pn.alTake D X h).1.data.length q1.c) (.int .i64 g) (.int .i64 h) (.string (bs D.data)) (.slice dp.a D.cache.length dp.c) (.int .i64 D.fuse) (.bool D.off) (.slice dq.a D.bad.length dq.c) U kU.box
      (Q := fun Y p' q' er W => M.1 = Y ∧ er = M.2 ∧ IsPn W Y p' q' ∧ (∀ b, b < U.heap.size → PnOff b (Pn.alTake D X h).1 p1 q1 → PnOff b Y p' q') ∧ Below U.heap.size U W) (hc2.mono ?_)).mono ?_
    · rintro e W ⟨⟨p', q', rfl, i1, o1⟩, hb⟩
      exact ⟨_, p', q', _, rfl, ⟨rfl, rfl, i1, o1, hb⟩, kU.box.below hb kU.box.lt⟩
    rintro e W2 ⟨rfl, Y, p2, q2, er, W, ⟨rfl, rfl, i2, o2, hb⟩, rfl⟩
    have kT := (kU.below hb).set (e' := M.2) i2 (o2 G kU.box.lt kU.op) hM
    have rT := wkSet_blk (rU.below hb rU.lt) hRG M.1 p2 q2 M.2
    have gT : w.grownBy (wkSet W G M.1 p2 q2 M.2) (some G) := wkSet_grown (grown_then gU hb) _ _ _ _
    have oT := o2 (w.heap.size + 1 + 1) rU.lt (O1 _ bl2 oPR)
    have O2 : ∀ b, b < w.heap.size → PnOff b X p q → PnOff b M.1 p2 q2 := fun b hb' ho => o2 b (Nat.lt_of_lt_of_le hb' gU.size) (O1 b (Nat.lt_of_lt_of_le hb' hsV) ho)
    generalize wkSet W G M.1 p2 q2 M.2 = T at kT rT gT ⊢
    clear hc2 z0 z1 v0 v1 rU kU gU i2 o2 hb
    have y1 := blk1 rT
    have f1 := rT.frozen
    have yy := blk1 (rT.set 0 (.int .i64 (Pn.alTake D X h).2.1))
    go_wp2_with fail
    refine bodyPost_ret (v := .int .i64 (Pn.alTake D X h).2.1) (by simp [results, Tryz.results109, go_sem, yy]) rfl ?_
    refine ⟨rfl, grown_new gT (by omega) 0 _, p2, q2, ?_, by rw [Hs.out]; exact O2⟩
    rw [Hs.out]
    exact kT.other hRG oDR oT _
  · have Hs := hid (Hno.out he)
    clear Hok Hno
    go_wp2_with fail
    go_at_call 106
    refine (pt_try_no _ G (.slice p1.a (Pn.alTake D X h).1.targets.length p1.c) (.slice q1.a (Pn.alTake D X h).1.data.length q1.c) (.int .i64 g) (.int .i64 h) (.string (bs D.data)) (.slice dp.a D.cache.length dp.c) (.int .i64 D.fuse) (.bool D.off) (.slice dq.a D.bad.length dq.c) _ he U kU.box).mono ?_
    rintro e W2 ⟨rfl, rfl⟩
    clear he z0 z1
    have y1 := blk1 rU
    have f1 := rU.frozen
    have yy := blk1 (rU.set 0 (.int .i64 (Pn.alTake D X h).2.1))
    go_wp2_with fail
    refine bodyPost_ret (v := .int .i64 (Pn.alTake D X h).2.1) (by simp [results, Tryz.results109, go_sem, yy]) rfl ?_
    refine ⟨rfl, grown_new gU (by omega) 0 _, p1, q1, ?_, fun b hb' ho => ?_⟩
    · rw [Hs.out]
      exact kU.other hRG oDR (O1 _ bl2 oPR) _
    · rw [Hs.out]
      exact O1 b (Nat.lt_of_lt_of_le hb' hsV) ho
end Go.Proofs.YtplgmlcoeehnfaaGreat
