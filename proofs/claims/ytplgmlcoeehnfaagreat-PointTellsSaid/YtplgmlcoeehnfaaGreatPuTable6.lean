/- The document's ref11: all that a first table has; rows of entries held against each other. -/
import Derived.Test.YtplgmlcoeehnfaaGreatPuTable5
import Derived.Test.YtplgmlcoeehnfaaGreatPuRefcs
set_option linter.unusedVariables false
namespace Go.Proofs.YtplgmlcoeehnfaaGreat
open Go.RowKit Go.Shelf
attribute [local go_sem] bs_mk bs_append bs_extract bs_size bs_toList bs_get
def entCells (l : List (Int × Int)) : List Value := l.flatMap fun e => [.int .i64 e.1, .int .i64 e.2]
theorem entCells_length (l : List (Int × Int)) : (entCells l).length = l.length * 2 := by
  induction l with
  | nil => rfl
  | cons x l ih => simp only [entCells, List.flatMap_cons, List.length_append, List.length_cons, List.length_nil] at ih ⊢; omega
theorem entCells_snoc (l : List (Int × Int)) (K A : Int) : entCells l ++ [.int .i64 K, .int .i64 A] = entCells (l ++ [(K, A)]) := by simp [entCells]
theorem entCells_get (l : List (Int × Int)) (i : Nat) (h : i < l.length) : (entCells l)[i * 2]? = some (.int .i64 l[i].1) ∧ (entCells l)[i * 2 + 1]? = some (.int .i64 l[i].2) := by
  induction l generalizing i with
  | nil => simp at h
  | cons x l ih =>
    have e : entCells (x :: l) = .int .i64 x.1 :: .int .i64 x.2 :: entCells l := rfl
    cases i with
    | zero => rw [e]; exact ⟨rfl, rfl⟩
    | succ i =>
      have := ih i (by simpa using h)
      rw [e, show (i + 1) * 2 = i * 2 + 1 + 1 by omega]
      simpa using this
theorem Cells.ent {w : World} {A : Option Addr} {l : List (Int × Int)} (h : Cells w A (entCells l)) {i : Nat} (hi : i < l.length) :
    ∃ b off, A = some ⟨b, off, none⟩ ∧ ∀ j (hj : j < l.length), w.cell? ⟨b, off + j * 2, none⟩ = some (.int .i64 l[j].1) ∧ w.cell? ⟨b, off + j * 2 + 1, none⟩ = some (.int .i64 l[j].2) := by
  rcases h with h | ⟨b, off, rfl, h⟩
  · have := congrArg List.length h; rw [entCells_length] at this; simp at this; omega
  · refine ⟨b, off, rfl, fun j hj => ?_⟩
    obtain ⟨e1, e2⟩ := entCells_get l j hj
    exact ⟨h _ _ e1, by rw [Nat.add_assoc]; exact h _ _ e2⟩
theorem Tryz.infoEnt : (Tryz.prog.info? 32).map (fun i => (i.zero, i.size, i.bytes)) = some (some (.agg #[.int .i64 0, .int .i64 0]), 2, 16) := by kernel_rfl
set_option maxRecDepth 100000 in
set_option maxHeartbeats 1000000 in
theorem t11_all (D : Dk) (L : Pn) (p q p' q' : Pl) (w : World) (hD : IsDk w D p q) (hL : IsPn w L p' q') (hf : D.fit = true) (hfl : L.Fit) (t : Int) :
    Calls Tryz.prog 16 #[dval D p q, pval L p' q', .int .i64 t] w fun e w' => (∃ v, e = .returned (.tuple #[v, .int .i64 (Pn.tabAll D L t).2]) ∧ w'.ownsRow w.heap.size 32 2 v (Pn.tabAll D L t).1.length (entCells (Pn.tabAll D L t).1)) ∧ Below w.heap.size w w' := by
  have Hall := hid (show Pn.tabAll D L t = allN (fun i : Nat => Pn.tabFind D L t i) 64 from rfl)
  have hg := fun (W : World) (hb : Below w.heap.size w W) (k : Nat) => t11_find D L p q p' q' W (hD.below hb) (hL.below hb) hf hfl t k
  obtain ⟨i0, hi, hz0, hz1, hz2⟩ := info_parts Tryz.infoEnt
  clear hD hL
  obtain ⟨A1, a1⟩ := p
  obtain ⟨A2, a2⟩ := q
  obtain ⟨B1, b1⟩ := p'
  obtain ⟨B2, b2⟩ := q'
  go_enter Tryz.func16, Tryz.ntmps16
  go_wp2_with fail
  have hB := Below.refl w.heap.size w
  have x := Blk.new w 25 #[.string (bs D.data), .slice A1 D.cache.length a1, .int .i64 D.fuse, .bool D.off, .slice A2 D.bad.length a2]
  have xk := blk5 x
  have hB_1 := hB.alloc hB.size (.cells #[.string (bs D.data), .slice A1 D.cache.length a1, .int .i64 D.fuse, .bool D.off, .slice A2 D.bad.length a2] 25)
  have z := Blk.new (w.alloc (.cells #[.string (bs D.data), .slice A1 D.cache.length a1, .int .i64 D.fuse, .bool D.off, .slice A2 D.bad.length a2] 25)) 28 #[.slice B1 L.targets.length b1, .slice B2 L.data.length b2]
  simp only [World.size_alloc] at z
  have zk := blk2 z
  have hB_2 := hB_1.alloc hB_1.size (.cells #[.slice B1 L.targets.length b1, .slice B2 L.data.length b2] 28)
  have x_3 := x.alloc (.cells #[.slice B1 L.targets.length b1, .slice B2 L.data.length b2] 28)
  have xk_3 := blk5 x_3
  generalize ((w.alloc (.cells #[.string (bs D.data), .slice A1 D.cache.length a1, .int .i64 D.fuse, .bool D.off, .slice A2 D.bad.length a2] 25)).alloc (.cells #[.slice B1 L.targets.length b1, .slice B2 L.data.length b2] 28)) = V at hB_2 x_3 xk_3 z zk ⊢
  clear hB_1 hB x xk
  have hB := hB_2
  have x := x_3
  have xk := xk_3
  clear hB_2 x_3 xk_3
  have vl : w.heap.size + 1 < V.heap.size := z.lt
  go_loopw [8, 9] (fun l x W => ∃ m : Nat, m ≤ 64 ∧ x = .int .i64 m ∧ Hid (∀ i, i < m → (Pn.tabFind D L t (i : Nat)).2 = 0) ∧ W.ownsRow V.heap.size 32 2 l m (entCells ((List.range m).map fun i : Nat => (Pn.tabFind D L t i).1)) ∧ Below V.heap.size V W) (fun _ x _ => 64 - (intOf x).toNat)
  case atStart => exact ⟨0, Nat.zero_le _, rfl, hid (fun i hi => by omega), World.ownsRow_nil _ _ _ _, Below.refl _ _⟩
  case round =>
    obtain ⟨m, hm, rfl, hok, hown, hb⟩ := hrel
    have hbw := hB.trans (hb.mono hB.size)
    by_cases hlt : m < 64
    · have hgm := hg wr hbw m
      have xk := blk5 (x.below hb x.lt)
      have zk := blk2 (z.below hb z.lt)
      obtain ⟨⟨⟨K, A⟩, er⟩, hx⟩ : ∃ x, Pn.tabFind D L t (m : Nat) = x := ⟨_, rfl⟩
      rw [hx] at hgm
      have Hmap := hid (show entCells ((List.range m).map fun i : Nat => (Pn.tabFind D L t i).1) ++ [Value.int .i64 K, Value.int .i64 A] = entCells ((List.range (m + 1)).map fun i : Nat => (Pn.tabFind D L t i).1) by rw [entCells_snoc, List.range_succ, List.map_append]; simp [hx])
      have Hst := hid (fun (he : er ≠ 0) => show Pn.tabAll D L t = ([], er) by
        rw [Hall.out, allN_stop (f := fun i : Nat => Pn.tabFind D L t i) (n := m) (allN_all (fun i hi => hok.out i hi)) (by rw [hx]; exact he) 64 hlt, hx])
      have Hok := hid (fun (he : er = 0) (i : Nat) (hi : i < m + 1) => show (Pn.tabFind D L t (i : Nat)).2 = 0 by
        rcases Nat.lt_or_eq_of_le (Nat.le_of_lt_succ hi) with h | h
        · exact hok.out i h
        · rw [h, hx]; exact he)
      clear hx hok hg
      by_cases he : er = 0
      · subst he
        go_wp2_with (first | (go_at_call 56; refine hgm.mono ?_; rintro e w2 ⟨rfl, hb2⟩; have o2 := (own_below hown hb2).alloc (.cells #[.int .i64 K, .int .i64 A] 32); have b2 := (hb.trans (hb2.mono hb.size)); have b3 := b2.alloc b2.size (.cells #[.int .i64 K, .int .i64 A] 32); have l2 := b2.size) | (at_builtin; refine wpList_append_own _ rfl _ _ 40 rfl V.heap.size 32 i0 (.agg #[.int .i64 0, .int .i64 0]) 2 16 Tryz.underlying40 hi hz0 hz1 hz2 rfl (by decide) _ _ _ rfl (o2.alloc _) ⟨w2.heap.size + 1, 0, none⟩ 1 1 [.int .i64 K, .int .i64 A] rfl rfl (by have := World.news_of_block (Blk.new (w2.alloc (.cells #[.int .i64 K, .int .i64 A] 32)) 32 #[.int .i64 K, .int .i64 A]); rwa [World.size_alloc] at this) (by simp [Value.oneCell']) (by unfold maxLen; omega) (by omega) (by simp; omega) ?_; intro v5 w5 h5 gr5 _))
        have b5 := (b3.alloc b3.size (.cells #[.int .i64 K, .int .i64 A] 32)).trans (grown_below (o2.alloc (.cells #[.int .i64 K, .int .i64 A] 32)) gr5 (by simp; omega))
        go_roundw
        case rel => exact ⟨m + 1, by omega, by go_num, hid (by first | exact Hok.out rfl | exact Hok.out trivial), by rw [← Hmap.out]; exact h5, b5⟩
        case measure => simp [intOf]; omega
      · have n1 : (er != 0) = true := by simpa using he
        have Hst2 := hid (Hst.out he)
        clear he
        go_wp2_with (go_at_call 56; refine hgm.mono ?_; rintro e w2 ⟨rfl, hb2⟩)
        go_ret2
        rw [Hst2.out]
        have bb := bt hbw hb2
        exact ⟨⟨_, rfl, World.ownsRow_nil _ _ _ _⟩, bb.alloc bb.size _⟩
    · obtain rfl : m = 64 := by omega
      have Hr := hid (allN_list hok.out)
      clear hok
      go_wp2_with fail
      go_ret2
      rw [Hall.out, Hr.out]
      refine ⟨⟨_, rfl, ?_⟩, hbw⟩
      simp only [List.length_map, List.length_range]
      exact own_base hown hB.size
set_option maxRecDepth 100000 in
theorem t11_row (l : List (Int × Int)) (A B : Option Addr) (c d : Nat) (w : World) (hA : Cells w A (entCells l)) (hB : Cells w B (entCells l)) (hl : l.length ≤ 1000000) :
    Calls Tryz.prog 21 #[.slice A l.length c, .slice B l.length d] w fun e w' => e = .returned (.bool true) ∧ Below w.heap.size w w' := by
  cases l with
  | nil =>
    go_enter Tryz.func21, Tryz.ntmps21
    go_wp2_with fail
    go_loopw [5] (fun x W => x = .int .i64 0 ∧ Below w.heap.size w W) (fun x _ => 0)
    case atStart => exact ⟨rfl, Below.refl _ _⟩
    case round =>
      obtain ⟨rfl, hb⟩ := hrel
      go_wp2_with fail
      go_ret
      exact ⟨rfl, hb⟩
  | cons v l =>
  obtain ⟨pa, oa, rfl, ha⟩ := hA.ent (i := 0) (by simp)
  obtain ⟨pb, ob, rfl, hb⟩ := hB.ent (i := 0) (by simp)
  generalize hm : v :: l = m at *
  have HA := hid (fun (W : World) (hb : Below w.heap.size w W) (j : Nat) (hj : j < m.length) => And.intro (cell_below hb (ha j hj).1) (cell_below hb (ha j hj).2))
  have HB := hid (fun (W : World) (hbl : Below w.heap.size w W) (j : Nat) (hj : j < m.length) => And.intro (cell_below hbl (hb j hj).1) (cell_below hbl (hb j hj).2))
  clear hA hB ha hb hm
  go_enter Tryz.func21, Tryz.ntmps21
  go_wp2_with fail
  go_loopw [5] (fun x W => ∃ i : Nat, i ≤ m.length ∧ x = .int .i64 i ∧ Below w.heap.size w W) (fun x _ => m.length - (intOf x).toNat)
  case atStart => exact ⟨0, Nat.zero_le _, rfl, Below.refl _ _⟩
  case round =>
    obtain ⟨i, hi, rfl, hb⟩ := hrel
    by_cases hlt : i < m.length
    · have k0 := HA.out _ hb i hlt
      have k1 := HB.out _ hb i hlt
      generalize m[i] = e at k0 k1
      go_wp2_with fail
      go_quiet (fail)
      go_wp2_with fail
      go_roundw
      case rel => exact ⟨i + 1, by omega, by go_num, below_drewN hb _⟩
      case measure => simp [intOf]; omega
    · obtain rfl : i = m.length := by omega
      go_wp2_with fail
      go_ret
      exact ⟨rfl, hb⟩
end Go.Proofs.YtplgmlcoeehnfaaGreat
