/- Package jour: the newest ones. -/
import Derived.Test.YtplgmlcoeehnfaaGreatJcJourC
set_option linter.unusedVariables false
namespace Go.Proofs.YtplgmlcoeehnfaaGreat
open Go.RowKit Go.Shelf
attribute [local go_sem] bs_mk bs_append bs_extract bs_size bs_toList bs_get
abbrev fdVal (x : Fd) : Value := .agg #[.int .i64 x.pos, .int .u64 x.tx.seq, .slice x.p.a x.tx.plan.targets.length x.p.c, .slice x.q.a x.tx.plan.data.length x.q.c]
theorem fdCells_get (l : List Fd) (i : Nat) (h : i < l.length) : (fdCells l)[i * 4]? = some (.int .i64 l[i].pos) ∧ (fdCells l)[i * 4 + 1]? = some (.int .u64 l[i].tx.seq) ∧
    (fdCells l)[i * 4 + 2]? = some (.slice l[i].p.a l[i].tx.plan.targets.length l[i].p.c) ∧ (fdCells l)[i * 4 + 3]? = some (.slice l[i].q.a l[i].tx.plan.data.length l[i].q.c) := by
  induction l generalizing i with
  | nil => simp at h
  | cons x l ih =>
    cases i with
    | zero => simp [fdCells, Fd.cells]
    | succ i =>
      have := ih i (by simpa using h)
      have e : (i + 1) * 4 = i * 4 + 1 + 1 + 1 + 1 := by omega
      rw [e]
      simpa [fdCells, Fd.cells] using this
theorem Cells.fd {w : World} {A : Option Addr} {l : List Fd} (h : Cells w A (fdCells l)) {i : Nat} (hi : i < l.length) :
    ∃ b off, A = some ⟨b, off, none⟩ ∧ ∀ j (hj : j < l.length), w.cell? ⟨b, off + j * 4, none⟩ = some (.int .i64 l[j].pos) ∧ w.cell? ⟨b, off + j * 4 + 1, none⟩ = some (.int .u64 l[j].tx.seq) ∧
      w.cell? ⟨b, off + j * 4 + 2, none⟩ = some (.slice l[j].p.a l[j].tx.plan.targets.length l[j].p.c) ∧ w.cell? ⟨b, off + j * 4 + 3, none⟩ = some (.slice l[j].q.a l[j].tx.plan.data.length l[j].q.c) := by
  rcases h with h | ⟨b, off, e, hc⟩
  · have := congrArg List.length h; rw [fdCells_length] at this; simp only [List.length_nil] at this; omega
  · refine ⟨b, off, e, fun j hj => ?_⟩
    obtain ⟨a1, a2, a3, a4⟩ := fdCells_get l j hj
    exact ⟨hc _ _ a1, by have := hc _ _ a2; rwa [← Nat.add_assoc] at this, by have := hc _ _ a3; rwa [← Nat.add_assoc] at this, by have := hc _ _ a4; rwa [← Nat.add_assoc] at this⟩
theorem blk4 {w : World} {g : Nat} {t : TypeId} {a b c d : Value} (h : Blk w g t #[a, b, c, d]) : w.cell? ⟨g, 0, none⟩ = some a ∧ w.cell? ⟨g, 1, none⟩ = some b ∧ w.cell? ⟨g, 2, none⟩ = some c ∧ w.cell? ⟨g, 3, none⟩ = some d :=
  ⟨h.cell 0, h.cell 1, h.cell 2, h.cell 3⟩
theorem blk_set4 {w : World} {g : Nat} {t : TypeId} {a b c d : Value} (h : Blk w g t #[a, b, c, d]) (v0 v1 v2 v3 : Value) :
    Blk ((((w.setCell ⟨g, 0, none⟩ v0).setCell ⟨g, 1, none⟩ v1).setCell ⟨g, 2, none⟩ v2).setCell ⟨g, 3, none⟩ v3) g t #[v0, v1, v2, v3] := by
  have := (((h.set 0 v0).set 1 v1).set 2 v2).set 3 v3
  simpa using this
theorem below_set4 {B : Nat} {w0 w : World} {g : Nat} (h : Below B w0 w) (hg : B ≤ g) (v0 v1 v2 v3 : Value) : Below B w0 ((((w.setCell ⟨g, 0, none⟩ v0).setCell ⟨g, 1, none⟩ v1).setCell ⟨g, 2, none⟩ v2).setCell ⟨g, 3, none⟩ v3) :=
  (((h.setCell (p := ⟨g, 0, none⟩) hg v0).setCell (p := ⟨g, 1, none⟩) hg v1).setCell (p := ⟨g, 2, none⟩) hg v2).setCell (p := ⟨g, 3, none⟩) hg v3
theorem own_set4 {w : World} {base : Nat} {e : TypeId} {size n : Nat} {v : Value} {xs : List Value} (h : w.ownsRow base e size v n xs) {g : Nat} {t : TypeId} {cs : Array Value} (hb : Blk w g t cs) (hg : g < base) (v0 v1 v2 v3 : Value) :
    World.ownsRow ((((w.setCell ⟨g, 0, none⟩ v0).setCell ⟨g, 1, none⟩ v1).setCell ⟨g, 2, none⟩ v2).setCell ⟨g, 3, none⟩ v3) base e size v n xs :=
  ownsRow_setCell_below (ownsRow_setCell_below (ownsRow_setCell_below (ownsRow_setCell_below h (a := ⟨g, 0, none⟩) hg v0) (a := ⟨g, 1, none⟩) hg v1) (a := ⟨g, 2, none⟩) hg v2) (a := ⟨g, 3, none⟩) hg v3
/-- What stands in the box of the newest one. -/
def lastCells : Option Fd → Array Value
  | .none => #[.int .i64 0, .int .u64 0, .slice none 0 0, .slice none 0 0]
  | .some x => #[.int .i64 x.pos, .int .u64 x.tx.seq, .slice x.p.a x.tx.plan.targets.length x.p.c, .slice x.q.a x.tx.plan.data.length x.q.c]
theorem find_snoc_it (l : List (Nat × Tx)) (x : Nat × Tx) (n : Nat) : jrBefore (l ++ [x]) n = match jrBefore l n with
    | some y => some y
    | .none => if x.2.seq + 1 = n then some x else .none := by
  unfold jrBefore
  rw [List.find?_append]
  cases l.find? (fun x => decide (x.2.seq + 1 = n)) with
  | some y => rfl
  | none =>
    by_cases h : x.2.seq + 1 = n
    · simp [h]
    · simp [h]
set_option maxRecDepth 100000 in
set_option maxHeartbeats 2000000 in
theorem j_newest (l : List Fd) (A : Option Addr) (c : Nat) (w : World) (hA : Cells w A (fdCells l)) (h0 : l ≠ []) (hl : l.length ≤ 1000) (hok : ∀ x ∈ l, 0 < x.tx.plan.targets.length ∧ x.tx.seq < 18446744073709551616) :
    Calls Tryz.prog 94 #[.slice A l.length c] w fun e w' => (∃ (y : Fd) (b : List Fd) (v : Value), e = .returned (.tuple #[fdVal y, v]) ∧ y ∈ l ∧ jrLast (l.map Fd.it) = some y.it ∧ (∀ x ∈ b, x ∈ l) ∧ (b.map Fd.it = (jrBefore (l.map Fd.it) y.tx.seq).toList) ∧
      w'.ownsRow w.heap.size 94 4 v b.length (fdCells b)) ∧ Below w.heap.size w w' := by
  obtain ⟨i1, hi1, hy0, hy1, hy2⟩ := info_parts Tryz.infoFound'
  have hlen := List.length_pos_iff.2 h0
  obtain ⟨fb, fo, e1, hcell⟩ := hA.fd hlen
  have e1' : A = some ⟨fb, fo, none⟩ := e1
  subst e1'
  have Hcell := hid (fun (W : World) (hW : Below w.heap.size w W) (j : Nat) (hj : j < l.length) => (⟨cell_below hW (hcell j hj).1, cell_below hW (hcell j hj).2.1, cell_below hW (hcell j hj).2.2.1, cell_below hW (hcell j hj).2.2.2⟩ : _ ∧ _ ∧ _ ∧ _))
  have Hok := hid hok
  have Hne := hid h0
  clear hA hcell e1 hok h0
  go_enter Tryz.func94, Tryz.ntmps94
  have hB0 := (Below.refl w.heap.size w).alloc (Nat.le_refl _) (.cells #[.int .i64 0, .int .u64 0, .slice none 0 0, .slice none 0 0] 94)
  have r0 := Blk.new w 94 #[.int .i64 0, .int .u64 0, .slice none 0 0, .slice none 0 0]
  go_wp2_with fail
  generalize w.alloc (.cells #[.int .i64 0, .int .u64 0, .slice none 0 0, .slice none 0 0] 94) = w0 at *
  have hr0 := r0.lt
  go_loopw [10] (fun x W => ∃ i : Nat, i ≤ l.length ∧ x = .int .i64 i ∧ ∃ o : Option Fd, Hid (o.map Fd.it = jrLast ((l.take i).map Fd.it)) ∧ Hid (∀ y, o = some y → y ∈ l) ∧ Blk W w.heap.size 94 (lastCells o) ∧ Below w.heap.size w W) (fun x _ => l.length - (intOf x).toNat)
  case atStart => exact ⟨0, Nat.zero_le _, rfl, .none, hid rfl, hid (fun y h => by cases h), r0, hB0⟩
  case round =>
    obtain ⟨i, hi, rfl, o, ho, hm, hb, hbl⟩ := hrel
    by_cases hlt : i < l.length
    · obtain ⟨k1, k2, k3, k4⟩ := Hcell.out wr hbl i hlt
      have hxm := Hok.out l[i] (List.getElem_mem hlt)
      have Hmem := hid (List.getElem_mem hlt)
      have Hnext := hid (show jrLast ((l.take (i + 1)).map Fd.it) = match jrLast ((l.take i).map Fd.it) with
          | .none => some l[i].it
          | some y => if y.2.seq < l[i].it.2.seq then some l[i].it else some y by
        rw [List.take_succ_eq_append_getElem hlt, List.map_append]; exact jrLast_snoc _ _)
      generalize l[i] = x at *
      have hx0 := hxm.1
      have hx1 := hxm.2
      have nb := (Below.refl wr.heap.size wr).alloc (Nat.le_refl _) (.cells #[.int .i64 x.pos, .int .u64 x.tx.seq, .slice x.p.a x.tx.plan.targets.length x.p.c, .slice x.q.a x.tx.plan.data.length x.q.c] 94)
      have nx := Blk.new wr 94 #[.int .i64 x.pos, .int .u64 x.tx.seq, .slice x.p.a x.tx.plan.targets.length x.p.c, .slice x.q.a x.tx.plan.data.length x.q.c]
      have kx := blk4 nx
      have hba := hb.alloc (.cells #[.int .i64 x.pos, .int .u64 x.tx.seq, .slice x.p.a x.tx.plan.targets.length x.p.c, .slice x.q.a x.tx.plan.data.length x.q.c] 94)
      have hbb := bt hbl nb
      have hfr := hba.frozen
      cases o with
      | none =>
        simp only [lastCells] at hb hba hfr
        have kb := blk4 hba
        have Hn := hid (show (some x).map Fd.it = jrLast ((l.take (i + 1)).map Fd.it) by rw [Hnext.out, ← ho.out]; rfl)
        clear Hnext ho
        go_wp2_with fail
        go_roundw
        case rel => exact ⟨i + 1, by omega, by go_num, some x, Hn, hid (fun y h => by injection h with h; rw [← h]; exact Hmem.out), blk_set4 hba _ _ _ _, below_set4 hbb (Nat.le_refl _) _ _ _ _⟩
        case measure => simp [intOf]; omega
      | some y =>
        simp only [lastCells] at hb hba hfr
        have kb := blk4 hba
        have hym := Hok.out y (hm.out y rfl)
        have g0 : ((y.tx.plan.targets.length : Int) == 0) = false := by rw [beq_eq_false_iff_ne]; omega
        by_cases hs : y.tx.seq < x.tx.seq
        · have g1 : decide ((y.tx.seq : Int) < (x.tx.seq : Int)) = true := decide_eq_true (by omega)
          have Hn := hid (show (some x).map Fd.it = jrLast ((l.take (i + 1)).map Fd.it) by rw [Hnext.out, ← ho.out]; exact (if_pos hs).symm)
          clear Hnext ho
          go_wp2_with fail
          go_roundw
          case rel => exact ⟨i + 1, by omega, by go_num, some x, Hn, hid (fun y h => by injection h with h; rw [← h]; exact Hmem.out), blk_set4 hba _ _ _ _, below_set4 hbb (Nat.le_refl _) _ _ _ _⟩
          case measure => simp [intOf]; omega
        · have g1 : decide ((y.tx.seq : Int) < (x.tx.seq : Int)) = false := decide_eq_false (by omega)
          have Hn := hid (show (some y).map Fd.it = jrLast ((l.take (i + 1)).map Fd.it) by rw [Hnext.out, ← ho.out]; exact (if_neg hs).symm)
          clear Hnext ho
          go_wp2_with fail
          go_roundw
          case rel => exact ⟨i + 1, by omega, by go_num, some y, Hn, hm, hba, hbb⟩
          case measure => simp [intOf]; omega
    · obtain rfl : i = l.length := by omega
      have ho1 := ho.out
      rw [List.take_length] at ho1
      cases o with
      | none => exact absurd (List.map_eq_nil_iff.1 (jrLast_none ho1.symm)) Hne.out
      | some y =>
        have Hy := hid ho1
        have Hym := hid (hm.out y rfl)
        have hys := (Hok.out y (hm.out y rfl)).2
        simp only [lastCells] at hb
        clear ho ho1 hm hr0
        go_wp2_with fail
        generalize wr = w1 at *
        have hr1 := hb.lt
        have hr2 := hbl.size
        go_loopw [3, 33] (fun v x W => ∃ i : Nat, i ≤ l.length ∧ x = .int .i64 i ∧ ∃ b : List Fd, Hid (b.map Fd.it = (jrBefore ((l.take i).map Fd.it) y.tx.seq).toList) ∧ Hid (∀ z ∈ b, z ∈ l) ∧ W.ownsRow w1.heap.size 94 4 v b.length (fdCells b) ∧ Blk W w.heap.size 94 #[.int .i64 y.pos, .int .u64 y.tx.seq, .slice y.p.a y.tx.plan.targets.length y.p.c, .slice y.q.a y.tx.plan.data.length y.q.c] ∧ Below w.heap.size w W ∧ Hid (w1.heap.size ≤ W.heap.size)) (fun _ x _ => l.length - (intOf x).toNat)
        case atStart => exact ⟨0, Nat.zero_le _, rfl, [], hid rfl, hid (fun z h => by cases h), World.ownsRow_nil _ _ _ _, hb, hbl, hid (Nat.le_refl _)⟩
        case round =>
          obtain ⟨i, hi, rfl, b, hbm, hbl2, hown, hb2, hbl3, hs2⟩ := hrel
          have kb := blk4 hb2
          have hb1l : b.length ≤ 1 := by
            have := congrArg List.length hbm.out
            rw [List.length_map] at this
            cases hj : jrBefore ((l.take i).map Fd.it) y.tx.seq with
            | none => rw [hj] at this; simp only [Option.toList_none, List.length_nil] at this; omega
            | some z => rw [hj] at this; simp only [Option.toList_some, List.length_cons, List.length_nil] at this; omega
          obtain ⟨B, cB, rfl, z1, z2, z3⟩ := own_slice hown
          by_cases hlt : i < l.length
          · obtain ⟨k1, k2, k3, k4⟩ := Hcell.out wr hbl3 i hlt
            have hx1 := (Hok.out l[i] (List.getElem_mem hlt)).2
            have Hmem := hid (List.getElem_mem hlt)
            have Hnext := hid (show jrBefore ((l.take (i + 1)).map Fd.it) y.tx.seq = match jrBefore ((l.take i).map Fd.it) y.tx.seq with
                | some z => some z
                | .none => if l[i].it.2.seq + 1 = y.tx.seq then some l[i].it else .none by
              rw [List.take_succ_eq_append_getElem hlt, List.map_append]; exact find_snoc_it _ _ _)
            generalize l[i] = x at *
            have nb := (Below.refl wr.heap.size wr).alloc (Nat.le_refl _) (.cells #[.int .i64 x.pos, .int .u64 x.tx.seq, .slice x.p.a x.tx.plan.targets.length x.p.c, .slice x.q.a x.tx.plan.data.length x.q.c] 94)
            have nx := Blk.new wr 94 #[.int .i64 x.pos, .int .u64 x.tx.seq, .slice x.p.a x.tx.plan.targets.length x.p.c, .slice x.q.a x.tx.plan.data.length x.q.c]
            have kx := blk4 nx
            have hba := hb2.alloc (.cells #[.int .i64 x.pos, .int .u64 x.tx.seq, .slice x.p.a x.tx.plan.targets.length x.p.c, .slice x.q.a x.tx.plan.data.length x.q.c] 94)
            have kba := blk4 hba
            have hbb := bt hbl3 nb
            have howa := hown.alloc (.cells #[.int .i64 x.pos, .int .u64 x.tx.seq, .slice x.p.a x.tx.plan.targets.length x.p.c, .slice x.q.a x.tx.plan.data.length x.q.c] 94)
            have nsz := nb.size
            have Hnbs := hid (Nat.le_trans hs2.out nsz)
            obtain ⟨s', hs'⟩ : ∃ s' : Int, IntKind.u64.wrap ((x.tx.seq : Int) + 1) = s' := ⟨_, rfl⟩
            have hs9 : (x.tx.seq + 1 < 18446744073709551616 ∧ s' = x.tx.seq + 1) ∨ (x.tx.seq + 1 = 18446744073709551616 ∧ s' = 0) := by
              rcases Nat.lt_or_ge (x.tx.seq + 1) 18446744073709551616 with h | h
              · left; refine ⟨h, ?_⟩; rw [← hs', u64w ⟨by omega, by omega⟩]
              · right
                have e : x.tx.seq + 1 = 18446744073709551616 := by omega
                refine ⟨e, ?_⟩
                rw [← hs', show ((x.tx.seq : Int) + 1) = 18446744073709551616 by omega]
                decide
            clear kb
            by_cases hq : x.tx.seq + 1 = y.tx.seq
            · have f1 : (s' == (y.tx.seq : Int)) = true := by rw [beq_iff_eq]; omega
              have f2 : decide (0 < y.tx.seq) = true := decide_eq_true (by omega)
              have f4 : 0 < y.tx.seq := by omega
              by_cases hb0 : b.length = 0
              · have f3 : ((b.length : Int) == 0) = true := by rw [beq_iff_eq]; omega
                have hbn : b = [] := List.length_eq_zero_iff.1 hb0
                have Hn := hid (show [x].map Fd.it = (jrBefore ((l.take (i + 1)).map Fd.it) y.tx.seq).toList by
                  have : jrBefore ((l.take i).map Fd.it) y.tx.seq = .none := by
                    have h := hbm.out
                    rw [hbn] at h
                    cases hj : jrBefore ((l.take i).map Fd.it) y.tx.seq with
                    | none => rfl
                    | some z => rw [hj] at h; cases h
                  rw [Hnext.out, this]
                  show _ = Option.toList (if x.tx.seq + 1 = y.tx.seq then some x.it else .none)
                  rw [if_pos hq]; rfl)
                subst hbn
                have l6 := hs2.out
                clear Hnext hbm hb0 f3 hs9 hq
                go_wp2_with (at_builtin; refine wpList_append_own _ rfl _ _ 80 rfl w1.heap.size 94 i1 (.agg #[.int .i64 0, .int .u64 0, .slice none 0 0, .slice none 0 0]) 4 64 Tryz.underlying80 hi1 hy0 hy1 hy2 rfl (by decide) _ 0 [] rfl (howa.alloc _) ⟨wr.heap.size + 1, 0, none⟩ 1 1 [.int .i64 x.pos, .int .u64 x.tx.seq, .slice x.p.a x.tx.plan.targets.length x.p.c, .slice x.q.a x.tx.plan.data.length x.q.c] rfl rfl (World.news_of_block (blk_second wr _ 94 #[.int .i64 x.pos, .int .u64 x.tx.seq, .slice x.p.a x.tx.plan.targets.length x.p.c, .slice x.q.a x.tx.plan.data.length x.q.c])) (by simp [Value.oneCell']) (by unfold maxLen; omega) (by omega) (by simp; omega) ?_; intro v6 w6 h6 gr6 _)
                have howa2 := howa.alloc (.cells #[.int .i64 x.pos, .int .u64 x.tx.seq, .slice x.p.a x.tx.plan.targets.length x.p.c, .slice x.q.a x.tx.plan.data.length x.q.c] 94)
                have nb2 := (Below.refl (wr.alloc (.cells #[.int .i64 x.pos, .int .u64 x.tx.seq, .slice x.p.a x.tx.plan.targets.length x.p.c, .slice x.q.a x.tx.plan.data.length x.q.c] 94)).heap.size _).alloc (Nat.le_refl _) (.cells #[.int .i64 x.pos, .int .u64 x.tx.seq, .slice x.p.a x.tx.plan.targets.length x.p.c, .slice x.q.a x.tx.plan.data.length x.q.c] 94)
                have hba2 := (hba.alloc (.cells #[.int .i64 x.pos, .int .u64 x.tx.seq, .slice x.p.a x.tx.plan.targets.length x.p.c, .slice x.q.a x.tx.plan.data.length x.q.c] 94)).kept gr6 (fun e => by have := (howa2.lt _ e.symm).1; omega)
                have hb6 := (bt hbb nb2).trans (grown_below howa2 gr6 (by simp; omega) |>.mono (by omega))
                have l7 := gr6.size
                simp only [World.size_alloc] at l7
                go_roundw
                case rel => exact ⟨i + 1, by omega, by go_num, [x], Hn, hid (fun z hz => by obtain rfl := List.mem_singleton.1 hz; exact Hmem.out), by simpa [fdCells, Fd.cells] using h6, hba2, hb6, hid (by omega)⟩
                case measure => simp [intOf]; omega
              · have f3 : ((b.length : Int) == 0) = false := by rw [beq_eq_false_iff_ne]; omega
                have Hn := hid (show b.map Fd.it = (jrBefore ((l.take (i + 1)).map Fd.it) y.tx.seq).toList by
                  have h := hbm.out
                  rw [Hnext.out, h]
                  cases hj : jrBefore ((l.take i).map Fd.it) y.tx.seq with
                  | none => rw [hj] at h; exact absurd (by have := congrArg List.length h; simpa using this) hb0
                  | some z => rfl)
                clear Hnext hbm hb0 hs9 hq
                go_wp2_with fail
                go_roundw
                case rel => exact ⟨i + 1, by omega, by go_num, b, Hn, hbl2, howa, hba, hbb, Hnbs⟩
                case measure => simp [intOf]; omega
            · have Hn := hid (show b.map Fd.it = (jrBefore ((l.take (i + 1)).map Fd.it) y.tx.seq).toList by
                have h := hbm.out
                rw [Hnext.out, h]
                cases hj : jrBefore ((l.take i).map Fd.it) y.tx.seq with
                | none =>
                  show _ = Option.toList (if x.tx.seq + 1 = y.tx.seq then some x.it else .none)
                  rw [if_neg hq]
                | some z => rfl)
              by_cases hz : s' = (y.tx.seq : Int)
              · have f1 : (s' == (y.tx.seq : Int)) = true := by rw [beq_iff_eq]; exact hz
                have f2 : decide (0 < y.tx.seq) = false := decide_eq_false (by omega)
                have f4 : ¬ 0 < y.tx.seq := by omega
                clear Hnext hbm hs9 hq hz
                go_wp2_with fail
                go_roundw
                case rel => exact ⟨i + 1, by omega, by go_num, b, Hn, hbl2, howa, hba, hbb, Hnbs⟩
                case measure => simp [intOf]; omega
              · have f1 : (s' == (y.tx.seq : Int)) = false := by rw [beq_eq_false_iff_ne]; exact hz
                clear Hnext hbm hs9 hq hz
                go_wp2_with fail
                go_roundw
                case rel => exact ⟨i + 1, by omega, by go_num, b, Hn, hbl2, howa, hba, hbb, Hnbs⟩
                case measure => simp [intOf]; omega
          · obtain rfl : i = l.length := by omega
            have hbm1 := hbm.out
            rw [List.take_length] at hbm1
            have Hbm := hid hbm1
            clear hbm hbm1
            have hf2 := hb2.frozen
            go_wp2_with fail
            have b9 := blk_set4 hb2 (.int .i64 y.pos) (.int .u64 y.tx.seq) (.slice y.p.a y.tx.plan.targets.length y.p.c) (.slice y.q.a y.tx.plan.data.length y.q.c)
            have k9 := blk4 b9
            refine bodyPost_ret (v := .tuple #[fdVal y, .slice B b.length cB]) (by simp [results, Tryz.results94, go_sem, k9]) rfl ?_
            exact ⟨⟨y, b, _, rfl, Hym.out, Hy.out.symm, hbl2.out, Hbm.out, own_base (own_set4 hown hb2 (by omega) _ _ _ _) hr2⟩, below_set4 hbl3 (Nat.le_refl _) _ _ _ _⟩
end Go.Proofs.YtplgmlcoeehnfaaGreat
