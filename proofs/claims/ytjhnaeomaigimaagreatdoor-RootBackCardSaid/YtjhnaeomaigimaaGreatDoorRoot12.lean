/- Dirty bitmaps in memory: a block of 66 cells, read and written whole. -/
import Derived.Test.YtjhnaeomaigimaaGreatDoorRoot11
import Derived.Deep.MidRow
set_option linter.unusedVariables false
namespace Go.Proofs.YtjhnaeomaigimaaGreatDoor
open Go.RowKit Go.Shelf
attribute [local go_sem] bs_mk bs_append bs_extract bs_size bs_toList bs_get
theorem setCells_size (g : Nat) : ∀ (vs : List Value) (o : Nat) (w : World), (w.setCells g o vs).heap.size = w.heap.size
  | [], _, _ => rfl
  | v :: r, o, w => by rw [World.setCells, setCells_size g r, World.size_setCell]
theorem Blk.range {w : World} {g : Nat} {t : TypeId} {cs : List Value} (h : Blk w g t cs.toArray) : w.rangeAt g 0 cs := fun j v hv => by rw [h.cell, Nat.zero_add]; simpa using hv
theorem Blk.there {w : World} {g : Nat} {t : TypeId} {cs : List Value} (h : Blk w g t cs.toArray) : w.there g 0 cs.length := fun j hj => ⟨by rw [h.cell, Nat.zero_add]; simp [hj], h.frozen _⟩
theorem setCells_whole {g : Nat} {t : TypeId} : ∀ (new old : List Value) (pre : List Value) {w : World}, new.length = old.length → Blk w g t (pre ++ old).toArray → Blk (w.setCells g pre.length new) g t (pre ++ new).toArray
  | [], [], _, _, _, h => by simpa [World.setCells] using h
  | v :: r, o :: q, pre, w, hl, h => by
    have h1 := h.set pre.length v
    have e : (pre ++ o :: q).toArray.setIfInBounds pre.length v = (pre ++ [v] ++ q).toArray := by simp
    rw [e] at h1
    have h2 := setCells_whole r q (pre ++ [v]) (by simpa using hl) h1
    rw [List.length_append, List.length_singleton, List.append_assoc, List.singleton_append] at h2
    exact h2
theorem blk_setD {w : World} {g : Nat} {t : TypeId} {a : Dm} (h : Blk w g t (dmCells a).toArray) (b : Dm) (ha : a.bits.length = 64) (hb : b.bits.length = 64) : Blk (w.setCells g 0 (dmCells b)) g t (dmCells b).toArray :=
  setCells_whole (dmCells b) (dmCells a) [] (by rw [dmCells_length ha, dmCells_length hb]) h
theorem blk_offD {w : World} {g k : Nat} {t : TypeId} {cs : Array Value} (h : Blk w k t cs) (hk : k ≠ g) (b : Dm) : Blk (w.setCells g 0 (dmCells b)) k t cs := (setCells_other hk (dmCells b) 0 w).trans h
theorem below_setD {B : Nat} {w0 w : World} {g : Nat} (h : Below B w0 w) (hg : B ≤ g) (b : Dm) : Below B w0 (w.setCells g 0 (dmCells b)) := below_setCells' hg (dmCells b) 0 h
theorem IsPn.offCells {L : Pn} {p q : Pl} {g : Nat} (ho : PnOff g L p q) : ∀ (vs : List Value) (o : Nat) {w : World}, IsPn w L p q → IsPn (w.setCells g o vs) L p q
  | [], _, _, h => h
  | v :: r, o, _, h => IsPn.offCells ho r (o + 1) (h.off (a := ⟨g, o, none⟩) ho v)
theorem IsPn.offD {w : World} {L : Pn} {p q : Pl} (h : IsPn w L p q) {g : Nat} (ho : PnOff g L p q) (b : Dm) : IsPn (w.setCells g 0 (dmCells b)) L p q := IsPn.offCells ho (dmCells b) 0 h
theorem IsDk.offCells {L : Dk} {p q : Pl} {g : Nat} (ho : DkOff g L p q) : ∀ (vs : List Value) (o : Nat) {w : World}, IsDk w L p q → IsDk (w.setCells g o vs) L p q
  | [], _, _, h => h
  | v :: r, o, _, h => IsDk.offCells ho r (o + 1) (h.off (a := ⟨g, o, none⟩) ho v)
theorem IsDk.offD {w : World} {L : Dk} {p q : Pl} (h : IsDk w L p q) {g : Nat} (ho : DkOff g L p q) (b : Dm) : IsDk (w.setCells g 0 (dmCells b)) L p q := IsDk.offCells ho (dmCells b) 0 h
/-- How many cells: a word that the walk does not open. -/
def dmN : Nat := 66
theorem dm_len {m : Dm} (h : m.bits.length = 64) : (dmCells m).length = dmN := dmCells_length h
theorem dmCells_bit (m : Dm) (k : Nat) (h : k < m.bits.length) : (dmCells m)[2 + k]? = some (.bool m.bits[k]) := by
  rw [show 2 + k = k + 1 + 1 by omega]
  simp [dmCells, h]
theorem Blk.bit {w : World} {g : Nat} {t : TypeId} {m : Dm} (h : Blk w g t (dmCells m).toArray) (k : Nat) (hk : k < m.bits.length) : w.cell? ⟨g, 2 + k, none⟩ = some (.bool m.bits[k]) := by
  rw [h.cell]; simpa using dmCells_bit m k hk
theorem blk_bit {w : World} {g : Nat} {t : TypeId} {n : List UInt8} {u : Bool} {l : List Bool} (h : Blk w g t (dmCells ⟨n, u, l⟩).toArray) (k : Nat) (b : Bool) : Blk (w.setCell ⟨g, 2 + k, none⟩ (.bool b)) g t (dmCells ⟨n, u, l.set k b⟩).toArray := by
  have := h.set (2 + k) (.bool b)
  rw [show 2 + k = k + 1 + 1 by omega] at this ⊢
  simpa [dmCells, List.map_set] using this
theorem blk_dname {w : World} {g : Nat} {t : TypeId} {m : Dm} (h : Blk w g t (dmCells m).toArray) (n : List UInt8) : Blk (w.setCell ⟨g, 0, none⟩ (.string (bs n))) g t (dmCells { m with name := n }).toArray := by
  simpa [dmCells] using h.set 0 (.string (bs n))
theorem blk_duse {w : World} {g : Nat} {t : TypeId} {m : Dm} (h : Blk w g t (dmCells m).toArray) (b : Bool) : Blk (w.setCell ⟨g, 1, none⟩ (.bool b)) g t (dmCells { m with use := b }).toArray := by
  simpa [dmCells] using h.set 1 (.bool b)
theorem Tryz.dm_size : (Tryz.prog.info? 36).map (·.size) = some 66 := by kernel_rfl
theorem Tryz.dm_agg (W : World) : (isAgg 36).run Tryz.prog W = .ok true W := by
  unfold isAgg
  rw [Sem.run_bind, run_underlying Tryz.underlying36 W]
  rfl
theorem Tryz.dm_siz (W : World) : (sizeOf 36).run Tryz.prog W = .ok dmN W := by
  unfold dmN
  obtain ⟨i, hi, h⟩ := Option.map_eq_some_iff.1 Tryz.dm_size
  simp [sizeOf, typeInfo, hi, h]
theorem Tryz.dm_load {w : World} {b o : Nat} (m : Dm) (hm : m.bits.length = 64) (h : w.rangeAt b o (dmCells m)) : (loadCellsFrom ⟨b, o, none⟩ 0 dmN #[]).run Tryz.prog w = .ok (dmCells m).toArray w := by
  have := run_loadCells_list (P := Tryz.prog) w ⟨b, o, none⟩ (dmCells m) (fun j v hv => by rw [Addr.add_mid]; exact h j v hv)
  rw [dmCells_length hm] at this
  exact this
theorem Tryz.dm_store {w : World} {b o : Nat} (m : Dm) (hm : m.bits.length = 64) (h : w.there b o 66) : (storeCells ⟨b, o, none⟩ (dmCells m) 0).run Tryz.prog w = .ok () (w.setCells b o (dmCells m)) := by
  have hl := dmCells_length hm
  have := run_storeCells_cells (P := Tryz.prog) b o (dmCells m) 0 w (fun j hj => by simpa using (h j (by omega)).1) (fun j hj => by simpa using (h j (by omega)).2) (one_dm m)
  simpa using this
theorem Tryz.dm_all {w : World} {g : Nat} (m : Dm) (hm : m.bits.length = 64) (h : Blk w g 36 (dmCells m).toArray) :
    (loadCellsFrom ⟨g, 0, none⟩ 0 dmN #[]).run Tryz.prog w = .ok (dmCells m).toArray w ∧ w.cell? ⟨g, 0, none⟩ = some (.string (bs m.name)) ∧ w.cell? ⟨g, 1, none⟩ = some (.bool m.use) :=
  ⟨Tryz.dm_load m hm h.range, h.cell 0, h.cell 1⟩
theorem Tryz.dm_put {w : World} {g : Nat} {a : Dm} (m : Dm) (hm : m.bits.length = 64) (ha : a.bits.length = 64) (h : Blk w g 36 (dmCells a).toArray) : (storeCells ⟨g, 0, none⟩ (dmCells m) 0).run Tryz.prog w = .ok () (w.setCells g 0 (dmCells m)) :=
  Tryz.dm_store m hm (by have := h.there; rwa [dmCells_length ha] at this)
theorem Tryz.dm_zeros : Tryz.zeroCells36 = (dmCells Dm.zero).toArray := by kernel_rfl
theorem Tryz.infoDmap : (Tryz.prog.info? 36).map (fun i => (i.zero, i.size)) = some (some (dmval Dm.zero), 66) := by kernel_rfl
section
variable {P : Program}
theorem wpList_run {ops : Array Oper} {rest : List Oper} {o : Oper} {a : Act} {w : World} {Q : Exit → Act → World → Prop} (hgd : o.guard = none) (v : Value) (hr : (execOp a.eval o).run P w = .ok (.value v) w)
    (h : wpList P ops Q rest (a.put o.dst v) w) : wpList P ops Q (o :: rest) a w := wpList_plain hgd fun K hK => by unfold Oper.wp; rw [hr]; exact hK _ _ h
theorem quiet_run {o : Oper} {a : Act} {C : World → Prop} {K : Act → Prop} (v : Value) (hr : ∀ w, (execOp a.eval o).run P w = .ok (.value v) w) (hk : K (a.put o.dst v)) : o.quiet P a C K :=
  ⟨v, fun w _ => by unfold Oper.quietAt; rw [hr w]; exact ⟨rfl, rfl⟩, hk⟩
end
theorem Tryz.run_dm {ρ : Operand → Value} {o : Oper} (x y : Operand) (t' : TypeId) (ho : o.op = .binOp .eql 36 x y t') (m n : Dm) (hx : ρ x = dmval m) (hy : ρ y = dmval n)
    (hm : m.name.length ≤ maxLen) (hm2 : m.bits.length = 64) (hn : n.name.length ≤ maxLen) (hn2 : n.bits.length = 64) (b : Bool) (hb : decide (m = n) = b) (w : World) : (execOp ρ o).run Tryz.prog w = .ok (.value (.bool b)) w := by
  have he := dm_equal m n hm hm2 hn hn2 w
  rw [hb] at he
  have hg : (eqGuard .eql 36 x y (dmval m) (dmval n)).run Tryz.prog w = .ok () w := by
    have hp : (Sem.program Sem.pure).run Tryz.prog w = .ok Tryz.prog w := rfl
    simp [eqGuard, Sem.run_bind, program, hp]
  unfold execOp
  simp only [ho, hx, hy, Sem.run_bind, hg, Result.andThen_ok, binOp, he, Sem.run_pure]
theorem Tryz.run_dmn {ρ : Operand → Value} {o : Oper} (x y : Operand) (t' : TypeId) (ho : o.op = .binOp .neq 36 x y t') (m n : Dm) (hx : ρ x = dmval m) (hy : ρ y = dmval n)
    (hm : m.name.length ≤ maxLen) (hm2 : m.bits.length = 64) (hn : n.name.length ≤ maxLen) (hn2 : n.bits.length = 64) (b : Bool) (hb : decide (m = n) = b) (w : World) : (execOp ρ o).run Tryz.prog w = .ok (.value (.bool (!b))) w := by
  have he := dm_equal m n hm hm2 hn hn2 w
  rw [hb] at he
  have hg : (eqGuard .neq 36 x y (dmval m) (dmval n)).run Tryz.prog w = .ok () w := by
    have hp : (Sem.program Sem.pure).run Tryz.prog w = .ok Tryz.prog w := rfl
    simp [eqGuard, Sem.run_bind, program, hp]
  unfold execOp
  simp only [ho, hx, hy, Sem.run_bind, hg, Result.andThen_ok, binOp, he, Sem.run_pure]
theorem Tryz.build_dm (w : World) : (Instr.build 36 #[]).run Tryz.prog w = .ok (dmval Dm.zero) w := by kernel_rfl
theorem Tryz.run_dmz {ρ : Operand → Value} {o : Oper} (ho : o.op = .build 36 #[]) (w : World) : (execOp ρ o).run Tryz.prog w = .ok (.value (dmval Dm.zero)) w := by
  have h0 : (#[] : Array (Nat × Operand)).map (fun p => (p.1, ρ p.2)) = #[] := by simp
  unfold execOp
  simp only [ho, h0, Sem.run_bind, Tryz.build_dm, Result.andThen_ok, Sem.run_pure]
theorem Cells.dm {w : World} {A : Option Addr} {l : List Dm} (hl : ∀ m ∈ l, m.bits.length = 64) (h : Cells w A (dmRows l)) {i : Nat} (hi : i < l.length) :
    ∃ b off, A = some ⟨b, off, none⟩ ∧ b < w.heap.size ∧ ∀ j (hj : j < l.length), w.rangeAt b (off + j * dmN) (dmCells l[j]) := by
  have key : ∀ (l : List Dm), (∀ m ∈ l, m.bits.length = 64) → ∀ j (hj : j < l.length) k v, (dmCells l[j])[k]? = some v → (dmRows l)[j * 66 + k]? = some v := fun l => by
    induction l with
    | nil => intro _ j hj; simp at hj
    | cons x l ih =>
      intro hl j hj k v hv
      have hx := dmCells_length (hl x (by simp))
      show (dmCells x ++ dmRows l)[j * 66 + k]? = some v
      cases j with
      | zero =>
        have hk : k < (dmCells x).length := (List.getElem?_eq_some_iff.1 hv).1
        rw [Nat.zero_mul, Nat.zero_add, List.getElem?_append_left hk]; exact hv
      | succ j =>
        rw [List.getElem?_append_right (by omega), hx, show (j + 1) * 66 + k - 66 = j * 66 + k by omega]
        exact ih (fun m hm => hl m (by simp [hm])) j (by simpa using hj) k v hv
  rcases h with h | ⟨b, off, rfl, h⟩
  · have := congrArg List.length h; rw [dmRows_length hl] at this; simp at this; omega
  · refine ⟨b, off, rfl, ?_, fun j hj k v hv => ?_⟩
    · have h66 := dmCells_length (hl _ (List.getElem_mem hi))
      obtain ⟨v, hv⟩ : ∃ v, (dmCells l[i])[0]? = some v := ⟨_, rfl⟩
      exact lt_of_cell (h _ v (key l hl i hi 0 v hv))
    · rw [Nat.add_assoc, dmN]; exact h _ _ (key l hl j hj k v hv)
theorem rangeAt_below {w w' : World} {b o : Nat} {cs : List Value} (h : w.rangeAt b o cs) (hb : Below w.heap.size w w') : w'.rangeAt b o cs := fun j v hv => cell_below hb (h j v hv)
set_option maxRecDepth 100000 in
theorem r10_mapRow (l : List Dm) (hl64 : ∀ m ∈ l, m.bits.length = 64) (hnm : ∀ m ∈ l, m.name.length ≤ maxLen) (A B : Option Addr) (c d : Nat) (w : World) (hA : Cells w A (dmRows l)) (hB : Cells w B (dmRows l)) (hl : l.length ≤ 1000000) :
    Calls Tryz.prog 22 #[.slice A l.length c, .slice B l.length d] w fun e w' => e = .returned (.bool true) ∧ Below w.heap.size w w' := by
  cases l with
  | nil =>
    go_enter Tryz.func22, Tryz.ntmps22
    go_wp2_with fail
    go_loopw [5] (fun x W => x = .int .i64 0 ∧ Below w.heap.size w W) (fun x _ => 0)
    case atStart => exact ⟨rfl, Below.refl _ _⟩
    case round =>
      obtain ⟨rfl, hb⟩ := hrel
      go_wp2_with fail
      go_ret
      exact ⟨rfl, hb⟩
  | cons v l =>
  obtain ⟨pa, oa, rfl, _, ha⟩ := hA.dm hl64 (i := 0) (by simp)
  obtain ⟨pb, ob, rfl, _, hb⟩ := hB.dm hl64 (i := 0) (by simp)
  generalize hm : v :: l = m at *
  have HA := hid (fun (W : World) (h : Below w.heap.size w W) (j : Nat) (hj : j < m.length) => And.intro (Tryz.dm_load m[j] (hl64 _ (List.getElem_mem hj)) (rangeAt_below (ha j hj) h)) (Tryz.dm_load m[j] (hl64 _ (List.getElem_mem hj)) (rangeAt_below (hb j hj) h)))
  have a36 := Tryz.dm_agg
  have z36 := Tryz.dm_siz
  clear hA hB ha hb hm
  go_enter Tryz.func22, Tryz.ntmps22
  go_wp2_with fail
  go_loopw [5] (fun x W => ∃ i : Nat, i ≤ m.length ∧ x = .int .i64 i ∧ Below w.heap.size w W) (fun x _ => m.length - (intOf x).toNat)
  case atStart => exact ⟨0, Nat.zero_le _, rfl, Below.refl _ _⟩
  case round =>
    obtain ⟨i, hi, rfl, hb⟩ := hrel
    by_cases hlt : i < m.length
    · have k0 := HA.out _ hb i hlt
      have k1 := fun n => HA.out _ (below_drewN hb n) i hlt
      have k3 := And.intro (hnm _ (List.getElem_mem hlt)) (hl64 _ (List.getElem_mem hlt))
      generalize m[i] = e at k0 k1 k3
      go_wp2_with fail
      refine wp_region_quiet_lit (by kernel_rfl) (by kernel_rfl) ?_
      repeat (go_big_quiet_step (fail))
      go_big_quiet_want
      refine quiet_run (.bool false) (fun W => Tryz.run_dmn _ _ _ rfl e e rfl rfl k3.1 k3.2 k3.1 k3.2 true (decide_eq_true rfl) W) ?_
      go_big_quiet_on
      refine wpQuiet_nil ?_
      intro _ hw'
      obtain ⟨nq, hw''⟩ := hw'
      subst hw''
      go_wp2_with fail
      go_roundw
      case rel => exact ⟨i + 1, by omega, by go_num, below_drewN hb _⟩
      case measure => simp [intOf]; omega
    · obtain rfl : i = m.length := by omega
      go_wp2_with fail
      go_ret
      exact ⟨rfl, hb⟩
end Go.Proofs.YtjhnaeomaigimaaGreatDoor
