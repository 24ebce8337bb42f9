/- Package jour: what stands in a journal: founds in memory, and the iterator's value. Package cofferdamref07: is a plan within a device? Package cofferdamref07: what stands in a journal. -/
import Derived.Test.YtplgmlcoeehnfaaGreatJcJour3
import Derived.Test.YtplgmlcoeehnfaaGreatJcRanges
import Derived.Test.YtplgmlcoeehnfaaGreatJcRef01b
import Derived.Test.YtplgmlcoeehnfaaGreatJcTxn8
import Derived.Test.YtplgmlcoeehnfaaGreatJcJour4
set_option linter.unusedVariables false
namespace Go.Proofs.YtplgmlcoeehnfaaGreat
open Go.RowKit Go.Shelf
attribute [local go_sem] bs_mk bs_append bs_extract bs_size bs_toList bs_get
/-- A transaction that was found, and where its slices lie. -/
structure Fd where
  pos : Nat
  tx : Tx
  p : Pl
  q : Pl
def Fd.it (x : Fd) : Nat × Tx := (x.pos, x.tx)
def Fd.cells (x : Fd) : List Value := [.int .i64 x.pos, .int .u64 x.tx.seq, .slice x.p.a x.tx.plan.targets.length x.p.c, .slice x.q.a x.tx.plan.data.length x.q.c]
def fdCells (l : List Fd) : List Value := l.flatMap Fd.cells
theorem fdCells_length (l : List Fd) : (fdCells l).length = l.length * 4 := by
  induction l with
  | nil => rfl
  | cons x l ih => simp only [fdCells, List.flatMap_cons, List.length_append, List.length_cons] at ih ⊢; rw [ih]; simp only [Fd.cells, List.length_cons, List.length_nil]; omega
theorem fdCells_snoc (l : List Fd) (x : Fd) : fdCells l ++ x.cells = fdCells (l ++ [x]) := by simp [fdCells]
def IsFds (w : World) (l : List Fd) : Prop := ∀ x ∈ l, IsPn w x.tx.plan x.p x.q
theorem IsFds.below {w w' : World} {l : List Fd} (h : IsFds w l) (hb : Below w.heap.size w w') : IsFds w' l := fun x hx => (h x hx).below hb
theorem j_records (n : Nat) (A : Option Addr) (m c : Nat) (k : Int) (w : World) : CallsIn Fence.wide (n + 1) Tryz.prog 87 #[.slice A m c, .int .i64 k] w fun e w' => e = .returned (.func (.func 154) #[] #[.pointer (some ⟨w.heap.size, 0, none⟩), .pointer (some ⟨w.heap.size + 1, 0, none⟩)]) ∧ w' = (w.alloc (.cells #[.slice A m c] 26)).alloc (.cells #[.int .i64 k] 3) := by
  refine callsIn_wide.2 ?_
  go_enter Tryz.func87, Tryz.ntmps87
  go_wp2_with fail
  go_ret
  exact ⟨rfl, rfl⟩
end Go.Proofs.YtplgmlcoeehnfaaGreat
set_option linter.unusedVariables false
namespace Go.Proofs.YtplgmlcoeehnfaaGreat
open Go.RowKit Go.Shelf
attribute [local go_sem] bs_mk bs_append bs_extract bs_size bs_toList bs_get
set_option maxRecDepth 100000 in
set_option maxHeartbeats 1000000 in
theorem r7_within (D : Dk) (L : Pn) (p q p' q' : Pl) (w : World) (hD : IsDk w D p q) (hL : IsPn w L p' q') (hl : L.targets.length ≤ 1000000) :
    Calls Tryz.prog 93 #[dval D p q, pval L p' q'] w fun e w' => (∃ b, e = .returned (.bool b) ∧ (b = true ↔ ∀ k ∈ L.targets, k < (D.sz : Int))) ∧ Below w.heap.size w w' := by
  have hsz := fun W => r1_size D p q hD.data W
  have HAt := hid (fun (W : World) (hb : Below w.heap.size w W) => hL.targets.below hb)
  clear hD hL
  obtain ⟨A1, a1⟩ := p
  obtain ⟨A2, a2⟩ := q
  obtain ⟨B1, b1⟩ := p'
  obtain ⟨B2, b2⟩ := q'
  generalize D.sz = n at *
  have hB := Below.refl w.heap.size w
  have x := Blk.new w 25 #[.string (bs D.data), .slice A1 D.cache.length a1, .int .i64 D.fuse, .bool D.off, .slice A2 D.bad.length a2]
  have xk := blk5 x
  have hB_1 := hB.alloc hB.size (.cells #[.string (bs D.data), .slice A1 D.cache.length a1, .int .i64 D.fuse, .bool D.off, .slice A2 D.bad.length a2] 25)
  have z := Blk.new (w.alloc (.cells #[.string (bs D.data), .slice A1 D.cache.length a1, .int .i64 D.fuse, .bool D.off, .slice A2 D.bad.length a2] 25)) 28 #[.slice B1 L.targets.length b1, .slice B2 L.data.length b2]
  simp only [World.size_alloc] at z
  have zk := blk2 z
  have hB_2 := hB_1.alloc hB_1.size (.cells #[.slice B1 L.targets.length b1, .slice B2 L.data.length b2] 28)
  have x_3 := x.alloc (.cells #[.slice B1 L.targets.length b1, .slice B2 L.data.length b2] 28)
  have xk_3 := blk5 x_3
  go_enter Tryz.func93, Tryz.ntmps93
  go_wp2_with fail
  go_loopw [5] (fun u W => ∃ i : Nat, i ≤ L.targets.length ∧ u = .int .i64 i ∧ Hid (∀ j (hj : j < L.targets.length), j < i → L.targets[j] < (n : Int)) ∧ Blk W w.heap.size 25 #[.string (bs D.data), .slice A1 D.cache.length a1, .int .i64 D.fuse, .bool D.off, .slice A2 D.bad.length a2] ∧ Blk W (w.heap.size + 1) 28 #[.slice B1 L.targets.length b1, .slice B2 L.data.length b2] ∧ Below w.heap.size w W) (fun u _ => L.targets.length - (intOf u).toNat)
  case atStart => exact ⟨0, Nat.zero_le _, rfl, hid (fun j hj h0 => by omega), x_3, z, hB_2⟩
  case round =>
    obtain ⟨i, hi, rfl, hok, hx, hz, hb⟩ := hrel
    have kz := blk2 hz
    by_cases hlt : i < L.targets.length
    · obtain ⟨cb, co, e1, ct⟩ := (HAt.out _ hb).int hlt
      have e1' : B1 = some ⟨cb, co, none⟩ := e1
      subst e1'
      replace ct := ct i hlt
      have Hmem := hid (List.getElem_mem hlt)
      obtain ⟨t, ht⟩ : ∃ t, L.targets[i] = t := ⟨_, rfl⟩
      have Ht := hid ht
      rw [ht] at ct
      clear ht e1
      have D1 := fun e : Ext wr => hsz e.world
      have X0 := ext5 hx
      have Z0 := ext2 hz
      have T0 := fun e : Ext wr => e.cell ct
      clear ct kz
      have kz := blk2 hz
      by_cases hk : t < (n : Int)
      · have g1 : decide ((n : Int) ≤ t) = false := decide_eq_false (by omega)
        have Hok := hid (show ∀ j (hj : j < L.targets.length), j < i + 1 → L.targets[j] < (n : Int) from fun j hj hji => by
          rcases Nat.lt_or_ge j i with h' | h'
          · exact hok.out j hj h'
          · obtain rfl : j = i := by omega
            rw [Ht.out]; exact hk)
        go_wp2_with fail
        refine wp_region_ext mixed (by kernel_rfl) ?_
        repeat (go_big_quiet_step (((go_at_call 52; with_reducible exact ext_of (D1 _)))))
        refine wpQuiet_nil ?_
        rintro W ⟨pq_, hpq_⟩
        have hW := pq_.below
        rw [← hpq_] at hW
        clear hpq_ pq_
        go_wp2_with fail
        go_roundw
        case rel => exact ⟨i + 1, by omega, by go_num, Hok, hx.below hW hx.lt, hz.below hW hz.lt, bt hb hW⟩
        case measure => simp [intOf]; omega
      · have g1 : decide ((n : Int) ≤ t) = true := decide_eq_true (by omega)
        have Hno := hid (show ¬ ∀ k ∈ L.targets, k < (n : Int) from fun h => hk (by have := h _ Hmem.out; rwa [Ht.out] at this))
        go_wp2_with fail
        refine wp_region_ext mixed (by kernel_rfl) ?_
        repeat (go_big_quiet_step (((go_at_call 52; with_reducible exact ext_of (D1 _)))))
        refine wpQuiet_nil ?_
        rintro W ⟨pq_, hpq_⟩
        have hW := pq_.below
        rw [← hpq_] at hW
        clear hpq_ pq_
        go_wp2_with fail
        go_ret
        exact ⟨⟨false, rfl, ⟨fun h => (nomatch h), fun h => absurd h Hno.out⟩⟩, bt hb hW⟩
    · obtain rfl : i = L.targets.length := by omega
      have Hyes := hid (show ∀ k ∈ L.targets, k < (n : Int) from fun k hk => by
        obtain ⟨j, hj, rfl⟩ := List.getElem_of_mem hk
        exact hok.out j hj hj)
      go_wp2_with fail
      go_ret
      exact ⟨⟨true, rfl, ⟨fun _ => Hyes.out, fun _ => rfl⟩⟩, hb⟩
end Go.Proofs.YtplgmlcoeehnfaaGreat
set_option linter.unusedVariables false
namespace Go.Proofs.YtplgmlcoeehnfaaGreat
open Go.RowKit Go.Shelf
attribute [local go_sem] bs_mk bs_append bs_extract bs_size bs_toList bs_get
theorem Tryz.infoFound' : (Tryz.prog.info? 94).map (fun i => (i.zero, i.size, i.bytes)) = some (some (.agg #[.int .i64 0, .int .u64 0, .slice none 0 0, .slice none 0 0]), 4, 64) := by kernel_rfl
/-- A found one in memory: its slices lie in rows of their own. -/
structure FdAt (w : World) (x : Fd) : Prop where
  pn : IsPn w x.tx.plan x.p x.q
  rows : Rows2 0 x.tx.plan x.p x.q w
def FdsOk (w : World) (l : List Fd) : Prop := ∀ x ∈ l, FdAt w x
theorem FdAt.below {w w' : World} {x : Fd} (h : FdAt w x) (hb : Below w.heap.size w w') : FdAt w' x := ⟨h.pn.below hb, h.rows.below hb⟩
theorem FdAt.kept {w w' : World} {x : Fd} (h : FdAt w x) {b : Nat} {e : TypeId} {s n : Nat} {v : Value} {xs : List Value} (hv : w.ownsRow b e s v n xs) (hg : w.grownBy w' v.ownBlock) (h1 : 3 ≠ e) (h2 : 9 ≠ e) : FdAt w' x := by
  have r1 := h.rows.1.kept hg (own_apart h.rows.1 hv h1)
  have r2 := h.rows.2.kept hg (own_apart h.rows.2 hv h2)
  exact ⟨{ h.pn with targets := Cells.of_own r1, data := Cells.of_own r2 }, r1, r2⟩
theorem Rows2.base {B B' : Nat} {L : Pn} {p q : Pl} {w : World} (h : Rows2 B L p q w) (hb : B' ≤ B) : Rows2 B' L p q w := ⟨own_base h.1 hb, own_base h.2 hb⟩
theorem FdsOk.below {w w' : World} {l : List Fd} (h : FdsOk w l) (hb : Below w.heap.size w w') : FdsOk w' l := fun x hx => (h x hx).below hb
theorem FdsOk.kept {w w' : World} {l : List Fd} (h : FdsOk w l) {b : Nat} {e : TypeId} {s n : Nat} {v : Value} {xs : List Value} (hv : w.ownsRow b e s v n xs) (hg : w.grownBy w' v.ownBlock) (h1 : 3 ≠ e) (h2 : 9 ≠ e) : FdsOk w' l := fun x hx => (h x hx).kept hv hg h1 h2
theorem FdsOk.snoc {w : World} {l : List Fd} {x : Fd} (h : FdsOk w l) (hx : FdAt w x) : FdsOk w (l ++ [x]) := fun y hy => by
  rcases List.mem_append.1 hy with h' | h'
  · exact h y h'
  · obtain rfl := List.mem_singleton.1 h'; exact hx
/-- The call hands back what was found, and a number. -/
def RetFds (B : Nat) (X : List (Nat × Tx) × Int) (e : Ending) (w : World) : Prop :=
  ∃ (l : List Fd) (v : Value), l.map Fd.it = X.1 ∧ e = .returned (.tuple #[v, .int .i64 X.2]) ∧ w.ownsRow B 94 4 v l.length (fdCells l) ∧ FdsOk w l
/-! ### What is found, place by place -/
noncomputable def jrUpto (l : List (List UInt8)) (n : Int) (m : Nat) : List (Nat × Tx) := (List.range m).filterMap (jrIn l n)
theorem jrUpto_no {l : List (List UInt8)} {n : Int} {m : Nat} (h : jrIn l n m = .none) : jrUpto l n (m + 1) = jrUpto l n m := by
  unfold jrUpto; rw [List.range_succ, List.filterMap_append]; simp [h]
theorem jrUpto_yes {l : List (List UInt8)} {n : Int} {m : Nat} {x : Nat × Tx} (h : jrIn l n m = some x) : jrUpto l n (m + 1) = jrUpto l n m ++ [x] := by
  unfold jrUpto; rw [List.range_succ, List.filterMap_append]; simp [h]
theorem jrIn_no {l : List (List UInt8)} {n : Int} {m : Nat} (h : (txRead (l.drop m)).2 ≠ 0) : jrIn l n m = .none := by
  unfold jrIn; rw [if_neg (fun hh => h hh.1)]
theorem jrIn_out {l : List (List UInt8)} {n : Int} {m : Nat} (h : ¬ ∀ k ∈ (txRead (l.drop m)).1.plan.targets, k < n) : jrIn l n m = .none := by
  unfold jrIn; rw [if_neg (fun hh => h hh.2)]
theorem jrIn_yes {l : List (List UInt8)} {n : Int} {m : Nat} (h : (txRead (l.drop m)).2 = 0) (h2 : ∀ k ∈ (txRead (l.drop m)).1.plan.targets, k < n) : jrIn l n m = some (m, (txRead (l.drop m)).1) := by
  unfold jrIn; rw [if_pos ⟨h, h2⟩]
theorem drop_head {l : List (List UInt8)} {m : Nat} (h : m < l.length) : (l.drop m).headD [] = l[m] := by
  rw [List.drop_eq_getElem_cons h, List.headD_cons]
theorem read_not {l : List (List UInt8)} {m : Nat} (h : m < l.length) (hh : hcount l[m] = 0 ∨ l.length < m + txSize (hcount l[m])) : (txRead (l.drop m)).2 ≠ 0 := fun h0 => by
  obtain ⟨_, h1, h2, _⟩ := read_ok h0
  rw [drop_head h] at h1 h2
  rw [List.length_drop] at h2
  rcases hh with hh | hh
  · exact h1 hh
  · omega
set_option maxRecDepth 100000 in
theorem jrScan_len (D : Dk) : (jrScan D).1.length ≤ 81 := by
  unfold jrScan
  split
  · exact Nat.zero_le _
  · unfold jrFound
    refine Nat.le_trans (List.length_filterMap_le _ _) ?_
    simp
theorem strCells_drop {W : World} {b off : Nat} {l : List (List UInt8)} (h : Cells W (some ⟨b, off, none⟩) (strCells l)) (m : Nat) : Cells W (some ⟨b, off + m, none⟩) (strCells (l.drop m)) := by
  rcases h with h | ⟨b', off', e, hc⟩
  · left
    have : l = [] := by have := congrArg List.length h; rw [strCells_length] at this; exact List.length_eq_zero_iff.1 this
    rw [this, List.drop_nil]; rfl
  · injection e with e
    injection e with e1 e2
    subst e1; subst e2
    refine .inr ⟨b, off + m, rfl, fun j u hu => ?_⟩
    have := hc (m + j) u (by rw [← hu]; simp [strCells, List.getElem?_drop])
    rwa [← Nat.add_assoc] at this
set_option maxRecDepth 100000 in
set_option maxHeartbeats 2000000 in
theorem r7_scan (D : Dk) (p q : Pl) (w : World) (hD : IsDk w D p q) (hf : D.fit = true) :
    Calls Tryz.prog 41 #[dval D p q] w fun e w' => RetFds w.heap.size (jrScan D) e w' ∧ Below w.heap.size w w' := by
  have hl : D.data.length = D.sz * 64 := (Dk.fit_parts hf).2.2.1
  have hrd := fun (W : World) (hb : Below w.heap.size w W) (k : Int) => r1_read D p q W (hD.below hb) k hl
  have hwi := fun (L : Pn) (p' q' : Pl) (W : World) (hb : Below w.heap.size w W) (hL : IsPn W L p' q') (hl : L.targets.length ≤ 24) => r7_within D L p q p' q' W (hD.below hb) hL (by omega)
  have Hread64 := hid (fun (k : Int) (h : (D.read k).2 = 0) => Dk.read_full hf h)
  obtain ⟨i0, hi0, hz0, hz1, hz2⟩ := info_parts Tryz.infoStrP
  obtain ⟨i1, hi1, hy0, hy1, hy2⟩ := info_parts Tryz.infoFound'
  clear hD
  obtain ⟨A1, a1⟩ := p
  obtain ⟨A2, a2⟩ := q
  go_enter Tryz.func41, Tryz.ntmps41
  go_wp2_with fail
  have hB := Below.refl w.heap.size w
  have x := Blk.new w 25 #[.string (bs D.data), .slice A1 D.cache.length a1, .int .i64 D.fuse, .bool D.off, .slice A2 D.bad.length a2]
  have xk := blk5 x
  have hB_1 := hB.alloc hB.size (.cells #[.string (bs D.data), .slice A1 D.cache.length a1, .int .i64 D.fuse, .bool D.off, .slice A2 D.bad.length a2] 25)
  generalize (w.alloc (.cells #[.string (bs D.data), .slice A1 D.cache.length a1, .int .i64 D.fuse, .bool D.off, .slice A2 D.bad.length a2] 25)) = V at hB_1 x xk ⊢
  clear hB
  have hB := hB_1
  clear hB_1
  have vl : w.heap.size < V.heap.size := x.lt
  go_loopw [4, 5] (fun l i W => ∃ m : Nat, m ≤ 81 ∧ i = .int .i64 m ∧ Hid (∀ j : Nat, j < m → (D.read (6 + (j : Int))).2 = 0) ∧ W.ownsRow V.heap.size 9 1 l m (strCells ((List.range m).map fun j : Nat => (D.read (6 + (j : Int))).1)) ∧ Below V.heap.size V W) (fun _ i _ => 81 - (intOf i).toNat)
  case atStart => exact ⟨0, Nat.zero_le _, rfl, hid (fun i hi => by omega), World.ownsRow_nil _ _ _ _, Below.refl _ _⟩
  case round =>
    obtain ⟨m, hm, rfl, hok, hown, hb⟩ := hrel
    have hbw := hB.trans (hb.mono hB.size)
    have xk := blk5 (x.below hb x.lt)
    by_cases hlt : m < 81
    · have X0 := ext5 (x.below hb x.lt)
      have D1 := fun e : Ext wr => r7_first e.world
      have D2 := fun e : Ext wr => hrd e.world (bt hbw e.below) (6 + (m : Int))
      obtain ⟨⟨s, er⟩, hx⟩ : ∃ y, D.read (6 + (m : Int)) = y := ⟨_, rfl⟩
      have Hmap := hid (show strCells ((List.range m).map fun j : Nat => (D.read (6 + (j : Int))).1) ++ [Value.string (bs s)] = strCells ((List.range (m + 1)).map fun j : Nat => (D.read (6 + (j : Int))).1) by simp [strCells, hx, List.range_succ])
      have Hst := hid (fun (he : er ≠ 0) => show jrScan D = ([], er) by
        have : jrAll D = ([], er) := by
          unfold jrAll
          rw [allN_stop (f := fun j : Nat => D.read (6 + (j : Int))) (n := m) (allN_all (fun i hi => hok.out i hi)) (by rw [hx]; exact he) 81 hlt, hx]
        unfold jrScan; rw [this, if_pos he])
      have Hok := hid (fun (he : er = 0) (i : Nat) (hi : i < m + 1) => show (D.read (6 + (i : Int))).2 = 0 by
        rcases Nat.lt_or_eq_of_le (Nat.le_of_lt_succ hi) with h | h
        · exact hok.out i h
        · rw [h, hx]; exact he)
      rw [hx] at D2
      have w6 := i64w (x := 6 + (m : Int)) ⟨by omega, by omega⟩
      clear hx hok hrd hwi
      by_cases he : er = 0
      · subst he
        go_wp2_with fail
        refine wp_region_ext mixed (by kernel_rfl) ?_
        repeat (go_big_quiet_step (((first | (go_at_call 84; with_reducible exact ext_of (D1 _)) | (go_at_call 89; with_reducible exact ext_of (D2 _))))))
        refine wpQuiet_nil ?_
        rintro W ⟨pq_, hpq_⟩
        have hW := pq_.below
        rw [← hpq_] at hW
        clear hpq_ pq_
        have o2 := own_below hown hW
        have b2 := hb.trans (hW.mono hb.size)
        have l2 := b2.size
        go_wp2_with (at_builtin; refine wpList_append_own _ rfl _ _ 26 rfl V.heap.size 9 i0 (.string ⟨#[]⟩) 1 16 Tryz.underlying26 hi0 hz0 hz1 hz2 rfl (by decide) _ _ _ rfl (o2.alloc _) ⟨W.heap.size, 0, none⟩ 1 1 [.string (bs s)] rfl rfl (World.news_of_block (Blk.new W 9 #[.string (bs s)])) (by simp [Value.oneCell']) (by unfold maxLen; omega) (by omega) (by simp; omega) ?_; intro v5 w5 h5 gr5 _)
        have b5 := (b2.alloc l2 (.cells #[.string (bs s)] 9)).trans (grown_below (o2.alloc (.cells #[.string (bs s)] 9)) gr5 (by simp; omega))
        go_roundw
        case rel => exact ⟨m + 1, by omega, by go_num, hid (by first | exact Hok.out rfl | exact Hok.out trivial), by rw [← Hmap.out]; exact h5, b5⟩
        case measure => simp [intOf]; omega
      · have n1 : (er != 0) = true := by simpa using he
        have Hst2 := hid (Hst.out he)
        clear he
        go_wp2_with fail
        refine wp_region_ext mixed (by kernel_rfl) ?_
        repeat (go_big_quiet_step (((first | (go_at_call 84; with_reducible exact ext_of (D1 _)) | (go_at_call 89; with_reducible exact ext_of (D2 _))))))
        refine wpQuiet_nil ?_
        rintro W ⟨pq_, hpq_⟩
        have hW := pq_.below
        rw [← hpq_] at hW
        clear hpq_ pq_
        go_wp2_with fail
        go_ret2
        rw [Hst2.out]
        exact ⟨⟨[], _, rfl, rfl, World.ownsRow_nil _ _ _ _, fun x hx => by cases hx⟩, bt hbw hW⟩
    · obtain rfl : m = 81 := by omega
      have hall : jrAll D = ((List.range 81).map fun j : Nat => (D.read (6 + (j : Int))).1, 0) := allN_list hok.out
      obtain ⟨R, hR⟩ : ∃ R, ((List.range 81).map fun j : Nat => (D.read (6 + (j : Int))).1) = R := ⟨_, rfl⟩
      have hRl : R.length = 81 := by rw [← hR]; simp
      have hR64 : ∀ s ∈ R, s.length = 64 := fun s hs => by
        rw [← hR] at hs
        obtain ⟨j, hj, rfl⟩ := List.mem_map.1 hs
        exact Hread64.out _ (hok.out j (List.mem_range.1 hj))
      rw [hR] at hown hall
      have Hscan := hid (show jrScan D = (jrUpto R D.sz 81, 0) by unfold jrScan; rw [hall, if_neg (by simp)]; rfl)
      clear hok hall hR Hread64 hrd
      obtain ⟨AR, cR, rfl, r1, r2, r3⟩ := own_slice hown
      obtain ⟨rb, ro, eR, hcell⟩ := (Cells.of_own hown).str (i := 0) (by omega)
      have eR' : AR = some ⟨rb, ro, none⟩ := eR
      subst eR'
      clear eR
      have Hcell := hid (fun (W : World) (hW : Below wr.heap.size wr W) (j : Nat) (hj : j < R.length) => cell_below hW (hcell j hj))
      have Hdrop := hid (fun (W : World) (hW : Below wr.heap.size wr W) (m : Nat) => strCells_drop ((Cells.of_own hown).below hW) m)
      clear hcell hown
      have HR64 := hid hR64
      clear hR64 xk
      go_wp2_with fail
      generalize wr = V1 at *
      simp only [show ((81 : Nat) : Int) = 81 from rfl]
      go_loopw [8, 9] (fun l i W => ∃ m : Nat, m ≤ 81 ∧ i = .int .i64 m ∧ ∃ L : List Fd, Hid (L.map Fd.it = jrUpto R D.sz m) ∧ Hid (L.length ≤ m) ∧ W.ownsRow V1.heap.size 94 4 l L.length (fdCells L) ∧ Hid (FdsOk W L) ∧ Below V1.heap.size V1 W) (fun _ i _ => 81 - (intOf i).toNat)
      case atStart => exact ⟨0, Nat.zero_le _, rfl, [], hid rfl, hid (Nat.zero_le _), World.ownsRow_nil _ _ _ _, hid (fun x hx => by cases hx), Below.refl _ _⟩
      case round =>
        obtain ⟨m, hm, rfl, L, hLm, hLl, hown2, hLok, hb2⟩ := hrel
        have bw := hbw.trans (hb2.mono hbw.size)
        have x2 := x.below (hb.trans (hb2.mono hb.size)) x.lt
        have xk := blk5 x2
        by_cases hlt : m < 81
        · have hmR : m < R.length := by omega
          have cc := Hcell.out wr hb2 m hmR
          have h64 := HR64.out _ (List.getElem_mem hmR)
          have hct := fun W => r6_count R[m] (by unfold maxLen; omega) W
          have hn24 := hcount_le R[m]
          have Hno := hid (fun (h : hcount R[m] = 0 ∨ 81 < m + txSize (hcount R[m])) => (jrUpto_no (jrIn_no (n := D.sz) (read_not hmR (by rw [hRl]; exact h)))).symm)
          generalize hcount R[m] = n at *
          generalize R[m] = s at *
          have hts : txSize n ≤ 27 := by unfold txSize; split <;> omega
          have hsz := fun W => r6_size (n : Int) ⟨by omega, by omega⟩ W
          simp only [txSizeI_nat] at hsz
          have wS := i64w (x := (m : Int) + (txSize n : Int)) ⟨by omega, by omega⟩
          by_cases h1 : n = 0
          · have Hno2 := hid (hLm.out.trans (Hno.out (.inl h1)))
            subst h1
            clear Hno hsz wS
            go_wp2_with fail
            go_at_call 90
            refine (hct _).mono ?_
            rintro e W2 ⟨rfl, hb3⟩
            go_wp2_with fail
            go_roundw
            case rel => exact ⟨m + 1, by omega, by go_num, L, Hno2, hid (Nat.le_succ_of_le hLl.out), own_below hown2 hb3, hid (hLok.out.below hb3), hb2.trans (hb3.mono hb2.size)⟩
            case measure => simp [intOf]; omega
          · have n0 : ((n : Int) == 0) = false := by rw [beq_eq_false_iff_ne]; omega
            by_cases h2 : 81 < m + txSize n
            · have Hno2 := hid (hLm.out.trans (Hno.out (.inr h2)))
              have g2 : decide ((81 : Int) < (m : Int) + (txSize n : Int)) = true := decide_eq_true (by omega)
              clear Hno
              go_wp2_with fail
              go_at_call 90
              refine (hct _).mono ?_
              rintro e W2 ⟨rfl, hb3⟩
              go_wp2_with fail
              go_at_call 91
              refine (hsz _).mono ?_
              rintro e W3 ⟨rfl, hb4⟩
              go_wp2_with fail
              have hb5 := bt hb3 hb4
              go_roundw
              case rel => exact ⟨m + 1, by omega, by go_num, L, Hno2, hid (Nat.le_succ_of_le hLl.out), own_below hown2 hb5, hid (hLok.out.below hb5), hb2.trans (hb5.mono hb2.size)⟩
              case measure => simp [intOf]; omega
            · have g2 : decide ((81 : Int) < (m : Int) + (txSize n : Int)) = false := decide_eq_false (by omega)
              have hrl : (R.drop m).length = 81 - m := by rw [List.length_drop, hRl]
              have hr := fun (W : World) (hW : Below V1.heap.size V1 W) => r6_read_n (R.drop m) (some ⟨rb, ro + m, none⟩) (cR - m) W (Hdrop.out W hW m) (by rw [hrl]; omega) (fun s hs => by have := HR64.out s (List.mem_of_mem_drop hs); unfold maxLen; omega)
              obtain ⟨⟨t, er⟩, hX⟩ : ∃ X, txRead (R.drop m) = X := ⟨_, rfl⟩
              have hlen := (read_len (R.drop m)).1
              have hlen2 := (read_len (R.drop m)).2
              have hseq := read_seq (R.drop m)
              have Hne := hid (fun (h : er ≠ 0) => (jrUpto_no (jrIn_no (n := D.sz) (by rw [hX]; exact h))).symm)
              have Hout := hid (fun (h : ¬ ∀ k ∈ t.plan.targets, k < (D.sz : Int)) => (jrUpto_no (jrIn_out (by rw [hX]; exact h))).symm)
              have Hyes := hid (fun (h0 : er = 0) (h : ∀ k ∈ t.plan.targets, k < (D.sz : Int)) => (jrUpto_yes (jrIn_yes (by rw [hX]; exact h0) (by rw [hX]; exact h))).symm)
              rw [hX] at hlen hlen2 hseq hr Hyes
              simp only [hrl] at hr hlen hlen2 hseq Hyes
              clear hX Hno hrl
              have c1 : ¬ cR = m := by omega
              have c2 : ¬ cR - m = 0 := by omega
              have c3 : ¬ cR ≤ m := by omega
              have c4 : m ≤ 81 := hm
              go_wp2_with fail
              go_at_call 90
              refine (hct _).mono ?_
              rintro e W2 ⟨rfl, hb3⟩
              go_wp2_with fail
              go_at_call 91
              refine (hsz _).mono ?_
              rintro e W3 ⟨rfl, hb4⟩
              have hb5 := bt hb3 hb4
              go_wp2_with fail
              go_at_call 92
              refine (hr _ (hb2.trans (hb5.mono hb2.size))).mono ?_
              rintro e W4 ⟨⟨p2, q2, rfl, hpn, hrows⟩, hb6⟩
              have hb7 := bt hb5 hb6
              obtain ⟨C1, c1'⟩ := p2
              obtain ⟨C2, c2'⟩ := q2
              have xk4 := blk5 ((x2.below hb7 x2.lt).alloc (.cells #[.int .u64 t.seq, .slice C1 t.plan.targets.length c1', .slice C2 t.plan.data.length c2'] 92))
              have yk4 := blk3 (Blk.new W4 92 #[.int .u64 t.seq, .slice C1 t.plan.targets.length c1', .slice C2 t.plan.data.length c2'])
              have hb8 := hb7.alloc hb7.size (.cells #[.int .u64 t.seq, .slice C1 t.plan.targets.length c1', .slice C2 t.plan.data.length c2'] 92)
              have hb9 := (Below.refl W4.heap.size W4).alloc (Nat.le_refl _) (.cells #[.int .u64 t.seq, .slice C1 t.plan.targets.length c1', .slice C2 t.plan.data.length c2'] 92)
              by_cases he : er = 0
              · subst he
                go_wp2_with fail
                go_at_call 93
                refine (hwi t.plan ⟨C1, c1'⟩ ⟨C2, c2'⟩ _ (bt bw hb8) (hpn.below hb9) (by simpa using hlen)).mono ?_
                rintro e W5 ⟨⟨b, rfl, hbi⟩, hb10⟩
                have hb11 := bt hb8 hb10
                have yk5 := blk3 ((Blk.new W4 92 #[.int .u64 t.seq, .slice C1 t.plan.targets.length c1', .slice C2 t.plan.data.length c2']).below hb10 (by simp))
                cases b with
                | true =>
                  have Hy := hid ((congrArg (· ++ [(m, t)]) hLm.out).trans (Hyes.out (by first | rfl | trivial) (hbi.1 rfl)))
                  have o5 := own_below hown2 hb11
                  have hfd : FdAt W5 ⟨m, t, ⟨C1, c1'⟩, ⟨C2, c2'⟩⟩ := ⟨(hpn.below hb9).below hb10, ((hrows.base (Nat.zero_le _)).below hb9).below hb10⟩
                  have hok5 := hid ((hLok.out.below hb11).snoc hfd)
                  have l5 := hb11.size
                  have l6 := hb2.size
                  have hLl' := hLl.out
                  clear Hne Hout Hyes hbi hfd
                  go_wp2_with (at_builtin; refine wpList_append_own _ rfl _ _ 80 rfl V1.heap.size 94 i1 (.agg #[.int .i64 0, .int .u64 0, .slice none 0 0, .slice none 0 0]) 4 64 Tryz.underlying80 hi1 hy0 hy1 hy2 rfl (by decide) _ _ _ rfl (o5.alloc _) ⟨W5.heap.size, 0, none⟩ 1 1 [.int .i64 m, .int .u64 t.seq, .slice C1 t.plan.targets.length c1', .slice C2 t.plan.data.length c2'] rfl rfl (World.news_of_block (Blk.new W5 94 #[.int .i64 m, .int .u64 t.seq, .slice C1 t.plan.targets.length c1', .slice C2 t.plan.data.length c2'])) (by simp [Value.oneCell']) (by unfold maxLen; omega) (by omega) (by simp; omega) ?_; intro v6 w6 h6 gr6 _)
                  have o6 := o5.alloc (.cells #[.int .i64 m, .int .u64 t.seq, .slice C1 t.plan.targets.length c1', .slice C2 t.plan.data.length c2'] 94)
                  have k6 := hid ((hok5.out.below ((Below.refl W5.heap.size W5).alloc (Nat.le_refl _) (.cells #[.int .i64 m, .int .u64 t.seq, .slice C1 t.plan.targets.length c1', .slice C2 t.plan.data.length c2'] 94))).kept o6 gr6 (by decide) (by decide))
                  have b6 := ((hb2.trans (hb11.mono hb2.size)).alloc (by omega) (.cells #[.int .i64 m, .int .u64 t.seq, .slice C1 t.plan.targets.length c1', .slice C2 t.plan.data.length c2'] 94)).trans (grown_below o6 gr6 (by simp; omega))
                  go_roundw
                  case rel => exact ⟨m + 1, by omega, by go_num, L ++ [⟨m, t, ⟨C1, c1'⟩, ⟨C2, c2'⟩⟩], hid (by rw [List.map_append]; exact Hy.out), hid (by rw [List.length_append, List.length_singleton]; omega), by rw [List.length_append, ← fdCells_snoc]; exact h6, k6, b6⟩
                  case measure => simp [intOf]; omega
                | false =>
                  have Hn := hid (hLm.out.trans (Hout.out (fun h => by have := hbi.2 h; cases this)))
                  clear Hne Hout Hyes hbi
                  go_wp2_with fail
                  go_roundw
                  case rel => exact ⟨m + 1, by omega, by go_num, L, Hn, hid (Nat.le_succ_of_le hLl.out), own_below hown2 hb11, hid (hLok.out.below hb11), hb2.trans (hb11.mono hb2.size)⟩
                  case measure => simp [intOf]; omega
              · have n1 : (er == 0) = false := by rw [beq_eq_false_iff_ne]; exact he
                have Hn := hid (hLm.out.trans (Hne.out he))
                clear Hne Hout Hyes he
                go_wp2_with fail
                go_roundw
                case rel => exact ⟨m + 1, by omega, by go_num, L, Hn, hid (Nat.le_succ_of_le hLl.out), own_below hown2 hb8, hid (hLok.out.below hb8), hb2.trans (hb8.mono hb2.size)⟩
                case measure => simp [intOf]; omega
        · obtain rfl : m = 81 := by omega
          have l6 := hbw.size
          go_wp2_with fail
          go_ret2
          rw [Hscan.out]
          exact ⟨⟨L, _, hLm.out, rfl, own_base hown2 l6, hLok.out⟩, bw⟩
end Go.Proofs.YtplgmlcoeehnfaaGreat
