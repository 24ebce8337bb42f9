/- Package dev: what is read. Package dev: new devices, what is written, flushed, crashed. -/
import Derived.Test.YtjhnaeomaigimaaGreatDoorDev1
import Derived.WalkMore
set_option linter.unusedVariables false
namespace Go.Proofs.YtjhnaeomaigimaaGreatDoor
open Go.RowKit Go.Shelf
attribute [local go_sem] bs_mk bs_append bs_extract bs_size bs_toList bs_get Oper.semAt_some

/-- 'slices.Contains' at a slice of ints, wherever it stands. -/
theorem contains_any (A : Option Addr) (l : List Int) (c : Nat) (x : Int) (w : World) (hA : Cells w A (intCells l)) (hl : l.length ≤ 17592186044416) :
    Calls Tryz.prog 153 #[.slice A l.length c, .int .i64 x] w fun e w' => e = .returned (.bool (decide (x ∈ l))) ∧ w' = w := by
  cases l with
  | nil =>
    refine (Tryz.slices_Contains_int_empty A c x w).mono ?_
    rintro e w' ⟨rfl, rfl⟩
    exact ⟨by simp, rfl⟩
  | cons a l =>
    obtain ⟨b, off, rfl, hc⟩ := hA.int (i := 0) (by simp)
    refine (Tryz.slices_Contains_int b off (a :: l).length c (a :: l) x w (Nat.le_refl _) (by omega) (fun j hj => by rw [hc j hj, List.getD_eq_getElem?_getD, List.getElem?_eq_getElem hj]; rfl)).mono ?_
    rintro e w' ⟨rfl, rfl⟩
    refine ⟨?_, rfl⟩
    rw [List.take_of_length_le (Nat.le_refl _)]
    simp [List.contains_eq_mem]
theorem puts_in (F : Fence) (n : Nat) (h63 : F.fn 154) (hro : F.round = none) (D : Dk) (p q : Pl) (w : World) :
    CallsIn F n Tryz.prog 154 #[dval D p q] w fun e w' => e = .returned (.func (.func 181) #[] #[.pointer (some ⟨w.heap.size, 0, none⟩)]) ∧ w' = w.alloc (.cells #[.string (bs D.data), .slice p.a D.cache.length p.c, .int .i64 D.fuse, .bool D.off, .slice q.a D.bad.length q.c] 25) := by
  refine callsIn_of_wp Tryz.func154 rfl h63 ?_ hro
  simp only [Tryz.ntmps154, List.size_toArray, List.length_cons, List.length_nil, Nat.reduceAdd, Nat.reduceSub, Array.replicate_succ, Array.replicate_zero, List.push_toArray, List.append_toArray, List.nil_append, List.cons_append]
  gi_wp2
  go_ret
  exact ⟨rfl, rfl⟩
theorem stop_order {n : Nat} {pre' : List (Fin n)} {y : Fin n} (h : (pre' ++ [y]).map (fun y => y.val) = ((List.range n).reverse).take (pre' ++ [y]).length) (P : Fin n → Prop) (hP : ∀ y ∈ pre', P y) :
    ∀ j (hj : j < n), y.val < j → P ⟨j, hj⟩ := by
  intro j hj hy
  have hlen : pre'.length + 1 ≤ n := by
    have := congrArg List.length h; simp at this; omega
  have hg : ∀ i (hi : i < pre'.length + 1), ((pre' ++ [y])[i]'(by simpa using hi)).val = n - 1 - i := by
    intro i hi
    have e : ((pre' ++ [y]).map (fun y => y.val))[i]? = some ((pre' ++ [y])[i]'(by simpa using hi)).val := by
      rw [List.getElem?_map, List.getElem?_eq_getElem (by simpa using hi)]; rfl
    rw [h, List.getElem?_take_of_lt (by simpa using hi), List.getElem?_reverse (by simp; omega)] at e
    simp only [List.length_range] at e
    rw [List.getElem?_range (by omega)] at e
    exact (Option.some.inj e).symm
  have hl := hg pre'.length (by omega)
  simp at hl
  have hi := hg (n - 1 - j) (by omega)
  rw [List.getElem_append_left (by omega)] at hi
  have : (pre'[n - 1 - j]'(by omega)) = ⟨j, hj⟩ := Fin.ext (by rw [hi]; simp; omega)
  rw [← this]
  exact hP _ (List.getElem_mem _)
set_option maxRecDepth 100000 in
set_option maxHeartbeats 2000000 in
theorem d_read_ok (D : Dk) (p q : Pl) (k : Nat) (w : World) (hD : IsDk w D p q) (hl : D.data.length = D.sz * 64) (h1 : D.off = false) (h2 : D.there k = true) (h3 : ¬ (k : Int) ∈ D.bad) :
    Calls Tryz.prog 109 #[dval D p q, .int .i64 k] w fun e w' => e = .returned (.tuple #[.string (bs (D.sees k)), .int .i64 0]) ∧ Below w.heap.size w w' := by
  obtain ⟨A1, c1⟩ := p
  obtain ⟨A2, c2⟩ := q
  have hk' : 0 ≤ (k : Int) ∧ (k : Int) < D.sz := by simpa [Dk.there] using h2
  have hks : k * 64 + 64 ≤ D.data.length := by rw [hl]; omega
  have hdl := hD.data
  have hcl := hD.cl
  have Hl := hid hl
  have Hk := hid hk'
  have hcon2 := fun (W : World) (hW : Below w.heap.size w W) => contains_any A2 D.bad c2 k W (hD.below hW).bad hD.bl
  rw [decide_eq_false h3] at hcon2
  have hout2 := d_out D ⟨A1, c1⟩ ⟨A2, c2⟩ hD.data k
  rw [h2] at hout2
  have m1 : (0 : Int) ≤ (k : Int) * 64 := by omega
  have m2 : (k : Int) * 64 ≤ D.data.length := by omega
  clear hl hk' h2 h3
  have hb0 := (below_two w (.cells #[.string (bs D.data), .slice A1 D.cache.length c1, .int .i64 D.fuse, .bool D.off, .slice A2 D.bad.length c2] 25) (.cells #[.int .i64 k] 3))
  have x0 := Blk.new w 25 #[.string (bs D.data), .slice A1 D.cache.length c1, .int .i64 D.fuse, .bool D.off, .slice A2 D.bad.length c2]
  obtain ⟨data, cache, fuse, off, bad⟩ := D
  simp only at h1 hks hdl hcl m2
  subst h1
  refine (callsIn_wide (n := 6)).1 (callsIn_of_wp_marks Tryz.func109 rfl trivial (wpIn_wide.2 ?_) rfl)
  simp only [Tryz.ntmps109, List.size_toArray, List.length_cons, List.length_nil, Nat.reduceAdd, Nat.reduceSub, Array.replicate_succ, Array.replicate_zero, List.push_toArray, List.append_toArray, List.nil_append, List.cons_append]
  go_wp2_with fail
  go_step3
  go_wp2_with first | (go_at_call 152; refine (hout2 _).mono ?_; rintro e w1 ⟨rfl, hb1⟩; have b1 := bt hb0 hb1; obtain ⟨x1, x2⟩ := blk_two hb1; have y1 := blk5 x1; have y2 := blk1 x2) | (go_at_call 153; refine (hcon2 _ b1).mono ?_; rintro e w2 ⟨rfl, rfl⟩)
  go_step3
  have x3 := Blk.new w2 9 #[.string (bs (List.take 64 (List.drop (k * 64) data)))]
  have y3 := blk5 (x1.alloc (.cells #[.string (bs (List.take 64 (List.drop (k * 64) data)))] 9))
  go_wp2_with (go_at_call 154; refine (callsIn_wide.1 (puts_in Fence.wide 5 trivial rfl ⟨data, cache, fuse, false, bad⟩ ⟨A1, c1⟩ ⟨A2, c2⟩ _)).mono ?_; rintro e w3 ⟨rfl, rfl⟩)
  have n1 : 1 ≤ 6 := by omega
  obtain ⟨g, off, hp, hg⟩ : ∃ g off, (cache ≠ [] → A1 = some ⟨g, off, none⟩) ∧ g < w.heap.size + 1 ∧ PutsIn g off cache w2 := by
    cases hcs : cache with
    | nil => exact ⟨w.heap.size, 0, fun h => absurd rfl h, by omega, fun j hj => by simp at hj⟩
    | cons a l =>
      obtain ⟨b, o, e, hc⟩ := (hD.below b1).cache.put (i := 0) (by simp [hcs])
      have e' : A1 = some ⟨b, o, none⟩ := e
      subst e'
      have h0 := hD.cache.put (i := 0) (by simp [hcs])
      obtain ⟨b', o', e', hc'⟩ := h0
      cases e'
      have hlt := lt_of_cell (hc' 0 (by simp [hcs])).1
      simp only at hlt
      exact ⟨b, o, fun _ => rfl, by omega, by rw [← hcs]; exact hc⟩
  have w2l := hb1.size
  simp only [World.size_alloc] at w2l
  have hDl : IsDk ((w2.alloc (.cells #[.string (bs (List.take 64 (List.drop (k * 64) data)))] 9)).alloc (.cells #[.string (bs data), .slice A1 cache.length c1, .int .i64 fuse, .bool false, .slice A2 bad.length c2] 25)) ⟨data, cache, fuse, false, bad⟩ ⟨A1, c1⟩ ⟨A2, c2⟩ := (hD.below b1).below (below_two _ _ _)
  have x4 := Blk.new (w2.alloc (.cells #[.string (bs (List.take 64 (List.drop (k * 64) data)))] 9)) 25 #[.string (bs data), .slice A1 cache.length c1, .int .i64 fuse, .bool false, .slice A2 bad.length c2]
  rw [World.size_alloc] at x4
  refine (wpIn_wide (n := 6)).1 ?_
  refine range_own rfl n1 (gf := 181) (lb := #[.pointer (some ⟨w2.heap.size + 1, 0, none⟩)]) rfl trivial (enters_of Tryz.func181 (by kernel_rfl) rfl)
    (puts_stops Fence.wide 5 trivial trivial trivial rfl room_wide (by omega) ⟨data, cache, fuse, false, bad⟩ g off ⟨A1, c1⟩ ⟨A2, c2⟩ hp (w2.heap.size + 1) _ hDl (by simp) (by simp; omega) 25 x4 ?hby)
    (fun h k => Eq.trans k h) (fun W l o o' q1 q2 q3 q4 => World.putObj_heap_other (by simp at q1; omega)) (Below.refl _ _) (fun _ => rfl)
    (fun pre V => (Blk V w2.heap.size 9 #[.string (bs (List.take 64 (List.drop (k * 64) data)))] ∧ Blk V (w.heap.size + 1) 3 #[.int .i64 k]) ∧ Below w.heap.size w V ∧ Hid (∀ y ∈ pre, cache[y.val].1 ≠ k))
    (fun c pre V => (∃ pre' y, pre = pre' ++ [y] ∧ Hid (cache[y.val].1 = (k : Int) ∧ ∀ y ∈ pre', cache[y.val].1 ≠ (k : Int)) ∧ Blk V w2.heap.size 9 #[.string (bs cache[y.val].2)]) ∧ Below w.heap.size w V ∧ c = .exit 1)
    ?hI ?hIx ?h0
    (fun y a' V => ∃ B, a' = { tmps := #[dval ⟨data, cache, fuse, false, bad⟩ ⟨A1, c1⟩ ⟨A2, c2⟩, .int .i64 k, .pointer (some ⟨w.heap.size, 0, none⟩), .pointer (some ⟨w.heap.size + 1, 0, none⟩), .string (bs []), .int .i64 0, .pointer (some ⟨w2.heap.size, 0, none⟩), .pointer (some ⟨B, 0, none⟩), .bool false, .pointer (some ⟨w.heap.size, 3, none⟩), .bool false, .bool false,
        .agg #[.string (bs data), .slice A1 cache.length c1, .int .i64 fuse, .bool false, .slice A2 bad.length c2], .int .i64 k, .bool false, .bool false, .pointer (some ⟨w.heap.size, 4, none⟩), .slice A2 bad.length c2, .int .i64 k, .bool false, .pointer (some ⟨w.heap.size, 0, none⟩), .string (bs data), .int .i64 k, .int .i64 (k * 64), .string (bs (List.drop (k * 64) data)), .string (bs (List.take 64 (List.drop (k * 64) data))),
        .agg #[.string (bs data), .slice A1 cache.length c1, .int .i64 fuse, .bool false, .slice A2 bad.length c2], .func (.func 181) #[] #[.pointer (some ⟨w2.heap.size + 1, 0, none⟩)], .agg #[.int .i64 cache[y.val].1, .string (bs cache[y.val].2)], undef, undef, undef, undef, undef, undef, undef], defers := [] } ∧ Blk V B 140 #[.int .i64 cache[y.val].1, .string (bs cache[y.val].2)])
    ?hAx ?assign ?body ?done ?stop
  case hby => exact putsIn_kept hg.2 ((Below.heap_alloc _ _ _ (by simp; omega)).trans (Below.heap_alloc _ _ _ (by omega)))
  case hI => exact OwnFrom.and (Own.from (Own.and (blk_own _ _ _) (blk_own _ _ _)) _) (OwnFrom.and (ownFrom_below (Nat.le_refl _) (by simp; omega)) (fun _ _ _ _ hs _ _ => hs))
  case hIx =>
    rintro c s X Y row ⟨⟨pre', y, e, h, hb⟩, hB, hc⟩ hy hr
    refine ⟨⟨pre', y, e, h, ?_⟩, ownFrom_below (β := Unit) (Nat.le_refl _) (by simp; omega) () X Y row hB hy hr, hc⟩
    exact (Own.from (blk_own _ _ (fun _ : Unit => _)) _) () X Y row hb hy hr
  case h0 => exact ⟨⟨x3.alloc _, (x2.alloc _).alloc _⟩, bt b1 (below_two _ _ _), hid (fun y hy => by cases hy)⟩
  case hAx =>
    intro y a' s X Y row ⟨B, e, hs⟩ hy hr
    exact ⟨B, e, (Own.from (blk_own B _ (fun _ : Unit => _)) _) () X Y row hs hy hr⟩
  case assign =>
    rintro l pre y V K ⟨⟨hb1, hb2⟩, hB, hh⟩ hK
    dsimp only [oneEnc]
    gi_wp2
    refine hK _ _ (KeepsFrom.of_grownBy (World.grownBy_alloc V _ none) (fun j e => by cases e)) (Stays.grown (World.grownBy_alloc V _ none) (fun j e => by cases e)) (Below.heap_alloc _ _ _ (by have := (Array.getElem?_eq_some_iff.1 hb2).1; omega)) ⟨⟨hb1.alloc _, hb2.alloc _⟩, hB.alloc (by have := (Array.getElem?_eq_some_iff.1 hb2).1; omega) _, hh⟩ ⟨V.heap.size, rfl, Blk.new _ _ _⟩
  case body =>
    rintro l pre y a' V ⟨⟨hb1, hb2⟩, hB, hh⟩ ⟨B, rfl, hbp⟩ hpl
    have z1 := blk1 hb1
    have z2 := blk1 hb2
    have z3 := blk2 hbp
    have f1 := hb1.frozen 0
    by_cases he : cache[y.val].1 = k
    · have He := hid he
      have he' : (cache[y.val].1 == (k : Int)) = true := by simpa using he
      clear he
      gi_wp2
      exact ⟨(KeepsOthers.setCell _ _ _).from _, ⟨pre, y, rfl, hid ⟨He.out, hh.out⟩, hb1.set 0 _⟩, hB.setCell (p := ⟨w2.heap.size, 0, none⟩) (by simp; omega) _, rfl⟩
    · have He := hid he
      have he' : (cache[y.val].1 == (k : Int)) = false := by simpa using he
      clear he
      gi_wp2
      exact ⟨KeepsFrom.refl _ _, ⟨Stays.refl _ _, rfl⟩, ⟨hb1, hb2⟩, hB, hid (fun y' hy' => by
        rcases List.mem_append.1 hy' with h | h
        · exact hh.out y' h
        · rw [List.mem_singleton.1 h]; exact He.out)⟩
  case done =>
    rintro Dd ys V hDd hys ⟨⟨hb1, hb2⟩, hB, hh⟩ hK
    have z1 := blk1 hb1
    go_wp2_with fail
    refine ⟨by simp, .inl ⟨_, _, rfl, run_takeDeferred hK, ?_⟩⟩
    refine ⟨.tuple #[.string (bs (List.take 64 (List.drop (k * 64) data))), .int .i64 0], by simp [results, Tryz.results109, go_sem], ?_, ?_⟩
    · rw [Dk.sees, Dk.seesIn_none (fun j hj => by
        have : j ∈ ys.map (fun y => y.val) := by rw [hys]; simpa using hj
        obtain ⟨y, hy, rfl⟩ := List.mem_map.1 this
        exact hh.out y hy)]
      simp only [Option.getD_none, Dk.sector, Int.toNat_natCast, List.drop_take]
      rw [show (k + 1) * 64 - k * 64 = 64 by omega]
    · exact hB.trans (belowK_b (w := w) (Nat.le_refl _) V Dd _ _ (by simp at hDd; omega) hK rfl rfl)
  case stop =>
    rintro Dd c pre V hDd hpre ⟨⟨pre', y, rfl, hh, hb1⟩, hB, rfl⟩ hK
    have z1 := blk1 hb1
    refine wpIn_wide.2 ?_
    go_wp2_with fail
    refine ⟨by simp, .inl ⟨_, _, rfl, run_takeDeferred hK, ?_⟩⟩
    refine ⟨.tuple #[.string (bs cache[y.val].2), .int .i64 0], by simp [results, Tryz.results109, go_sem], ?_, ?_⟩
    · rw [Dk.sees, Dk.seesIn_some (i := y.val) y.isLt hh.out.1 (stop_order hpre (fun y => cache[y.val].1 ≠ (k : Int)) hh.out.2)]
      rfl
    · exact hB.trans (belowK_b (w := w) (Nat.le_refl _) V Dd _ _ (by simp at hDd; omega) hK rfl rfl)
set_option maxRecDepth 100000 in
theorem d_read_off (D : Dk) (p q : Pl) (w : World) (hD : IsDk w D p q) (k : Int) (h1 : D.off = true) :
    Calls Tryz.prog 109 #[dval D p q, .int .i64 k] w fun e w' => e = .returned (.tuple #[.string (bs (D.read k).1), .int .i64 (D.read k).2]) ∧ Below w.heap.size w w' := by
  have Hw := hid (show D.read k = ([], 12) by simp [Dk.read, *])
  obtain ⟨A1, c1⟩ := p
  obtain ⟨A2, c2⟩ := q
  go_enter Tryz.func109, Tryz.ntmps109
  go_wp2_with fail
  go_step3
  go_wp2_with fail
  try rw [Exit.noGoto_ret]
  go_ret2
  exact ⟨by rw [Hw.out]; rfl, below_two _ _ _⟩
set_option maxRecDepth 100000 in
theorem d_read_out (D : Dk) (p q : Pl) (w : World) (hD : IsDk w D p q) (k : Int) (h1 : D.off = false) (h2 : D.there k = false) :
    Calls Tryz.prog 109 #[dval D p q, .int .i64 k] w fun e w' => e = .returned (.tuple #[.string (bs (D.read k).1), .int .i64 (D.read k).2]) ∧ Below w.heap.size w w' := by
  have Hw := hid (show D.read k = ([], 10) by simp [Dk.read, *])
  obtain ⟨A1, c1⟩ := p
  obtain ⟨A2, c2⟩ := q
  have hout2 := d_out D ⟨A1, c1⟩ ⟨A2, c2⟩ hD.data k
  rw [h2] at hout2
  clear h2
  obtain ⟨data, cache, fuse, off, bad⟩ := D
  simp only at h1
  subst h1
  go_enter Tryz.func109, Tryz.ntmps109
  go_wp2_with fail
  go_step3
  go_wp2_with (go_at_call 152; refine (hout2 _).mono ?_; rintro e w1 ⟨rfl, hb1⟩)
  try rw [Exit.noGoto_ret]
  go_ret2
  exact ⟨by rw [Hw.out]; rfl, bt (below_two _ _ _) hb1⟩
set_option maxRecDepth 100000 in
theorem d_read_bad (D : Dk) (p q : Pl) (w : World) (hD : IsDk w D p q) (k : Int) (h1 : D.off = false) (h2 : D.there k = true) (h3 : k ∈ D.bad) :
    Calls Tryz.prog 109 #[dval D p q, .int .i64 k] w fun e w' => e = .returned (.tuple #[.string (bs (D.read k).1), .int .i64 (D.read k).2]) ∧ Below w.heap.size w w' := by
  have Hw := hid (show D.read k = ([], 13) by simp [Dk.read, *])
  obtain ⟨A1, c1⟩ := p
  obtain ⟨A2, c2⟩ := q
  have hcon2 := fun (W : World) (hW : Below w.heap.size w W) => contains_any A2 D.bad c2 k W (hD.below hW).bad hD.bl
  rw [decide_eq_true h3] at hcon2
  have hout2 := d_out D ⟨A1, c1⟩ ⟨A2, c2⟩ hD.data k
  rw [h2] at hout2
  clear h2 h3
  have hb0 := (below_two w (.cells #[.string (bs D.data), .slice A1 D.cache.length c1, .int .i64 D.fuse, .bool D.off, .slice A2 D.bad.length c2] 25) (.cells #[.int .i64 k] 3))
  obtain ⟨data, cache, fuse, off, bad⟩ := D
  simp only at h1
  subst h1
  go_enter Tryz.func109, Tryz.ntmps109
  go_wp2_with fail
  go_step3
  go_wp2_with first | (go_at_call 152; refine (hout2 _).mono ?_; rintro e w1 ⟨rfl, hb1⟩; have b1 := bt hb0 hb1; obtain ⟨x1, x2⟩ := blk_two hb1; have y1 := blk5 x1; have y2 := blk1 x2) | (go_at_call 153; refine (hcon2 _ b1).mono ?_; rintro e w2 ⟨rfl, rfl⟩)
  try rw [Exit.noGoto_ret]
  go_ret2
  exact ⟨by rw [Hw.out]; rfl, b1⟩
theorem d_read (D : Dk) (p q : Pl) (w : World) (hD : IsDk w D p q) (k : Int) (hl : D.data.length = D.sz * 64) :
    Calls Tryz.prog 109 #[dval D p q, .int .i64 k] w fun e w' => e = .returned (.tuple #[.string (bs (D.read k).1), .int .i64 (D.read k).2]) ∧ Below w.heap.size w w' := by
  cases h1 : D.off with
  | true => exact d_read_off D p q w hD k h1
  | false =>
    cases h2 : D.there k with
    | false => exact d_read_out D p q w hD k h1 h2
    | true =>
      by_cases h3 : k ∈ D.bad
      · exact d_read_bad D p q w hD k h1 h2 h3
      · obtain ⟨k, rfl⟩ := Int.eq_ofNat_of_zero_le (show 0 ≤ k by simp [Dk.there] at h2; exact h2.1)
        rw [show D.read k = (D.sees k, 0) by simp [Dk.read, *]]
        exact d_read_ok D p q k w hD hl h1 h2 h3
end Go.Proofs.YtjhnaeomaigimaaGreatDoor
set_option linter.unusedVariables false
namespace Go.Proofs.YtjhnaeomaigimaaGreatDoor
open Go.RowKit Go.Shelf
attribute [local go_sem] bs_mk bs_append bs_extract bs_size bs_toList bs_get

theorem repeat_one (x : UInt8) (n : Nat) : (⟨(Lib.repeatL (bs [x]).data.toList n).toArray⟩ : ByteArray) = bs (List.replicate n x) := by
  have : ∀ n, Lib.repeatL [x] n = List.replicate n x := by
    intro n
    induction n with
    | zero => rfl
    | succ n ih => simp [Lib.repeatL, ih, List.replicate_succ]
  show bs _ = _
  congr 1
  exact this n
theorem d_new_bad (n : Int) (h : n < 1 ∨ 1024 < n) (w : World) :
    Calls Tryz.prog 42 #[.int .i64 n] w fun e w' => RetDk (Dk.fresh n) e w' ∧ Below w.heap.size w w' := by
  have Hw := hid (show Dk.fresh n = (⟨[], [], 0, false, []⟩, 11) by simp [Dk.fresh, h])
  by_cases h0 : n < 1
  · clear h
    go_enter Tryz.func42, Tryz.ntmps42
    go_wp2_with fail
    rw [Hw.out]
    refine bodyPost_ret (v := .tuple #[dval ⟨[], [], 0, false, []⟩ ⟨none, 0⟩ ⟨none, 0⟩, .int .i64 11]) (by simp [results, Tryz.results42, go_sem]) rfl ?_
    exact ⟨⟨_, _, rfl, isDk_zero _⟩, (Below.refl _ _).alloc (Nat.le_refl _) _⟩
  · have h1 : 1024 < n := by omega
    clear h
    go_enter Tryz.func42, Tryz.ntmps42
    go_wp2_with fail
    rw [Hw.out]
    refine bodyPost_ret (v := .tuple #[dval ⟨[], [], 0, false, []⟩ ⟨none, 0⟩ ⟨none, 0⟩, .int .i64 11]) (by simp [results, Tryz.results42, go_sem]) rfl ?_
    exact ⟨⟨_, _, rfl, isDk_zero _⟩, (Below.refl _ _).alloc (Nat.le_refl _) _⟩
theorem d_new_ok (n : Nat) (h0 : 1 ≤ n) (h1 : n ≤ 1024) (w : World) :
    Calls Tryz.prog 42 #[.int .i64 n] w fun e w' => RetDk (Dk.fresh n) e w' ∧ Below w.heap.size w w' := by
  have Hw := hid (show Dk.fresh n = (⟨List.replicate (64 * n) 0, [], -1, false, []⟩, 0) by rw [Dk.fresh, if_neg (by omega)]; simp)
  have hrep := fun (W : World) => Tryz.strings_Repeat (bs [0]) (64 * n) W (by omega) (by simp [bs_size]; omega)
  simp only [repeat_one, show (((64 * n : Nat)) : Int) = 64 * (n : Int) by omega] at hrep
  go_enter Tryz.func42, Tryz.ntmps42
  go_wp2_with (go_at_call 93; refine (hrep _).mono ?_; rintro e w1 ⟨rfl, hb1⟩; have x1 := blk_new _ _ hb1; have y1 := blk5 x1; have f1 := x1.frozen)
  rw [Hw.out]
  have z1 := blk_set5 x1 (.string (bs (List.replicate (64 * n) 0))) (.slice none 0 0) (.int .i64 (-1)) (.bool false) (.slice none 0 0)
  have hb := below_set5 (bt ((Below.refl _ _).alloc (Nat.le_refl _) _) hb1) (g := w.heap.size) (Nat.le_refl _) (.string (bs (List.replicate (64 * n) 0))) (.slice none 0 0) (.int .i64 (-1)) (.bool false) (.slice none 0 0)
  have z2 := blk5 z1
  refine bodyPost_ret (v := .tuple #[dval ⟨List.replicate (64 * n) 0, [], -1, false, []⟩ ⟨none, 0⟩ ⟨none, 0⟩, .int .i64 0]) (by simp [results, Tryz.results42, go_sem, z2]) rfl ?_
  exact ⟨⟨_, _, rfl, isDk_new _ _ (by simp; omega)⟩, hb⟩
theorem d_new (n : Int) (w : World) :
    Calls Tryz.prog 42 #[.int .i64 n] w fun e w' => RetDk (Dk.fresh n) e w' ∧ Below w.heap.size w w' := by
  by_cases h : n < 1 ∨ 1024 < n
  · exact d_new_bad n h w
  · obtain ⟨k, rfl⟩ := Int.eq_ofNat_of_zero_le (show 0 ≤ n by omega)
    exact d_new_ok k (by omega) (by omega) w
/-- The call hands back a device and whether the power is still there. -/
def RetDb (D : Dk) (b : Bool) (p q : Pl) (e : Ending) (w : World) : Prop := e = .returned (.tuple #[dval D p q, .bool b])
set_option maxRecDepth 100000 in
theorem d_burn0 (D : Dk) (p q : Pl) (w : World) (h : D.fuse = 0) :
    Calls Tryz.prog 137 #[dval D p q] w fun e w' => e = .returned (.tuple #[dval { D with off := true } p q, .bool false]) ∧ Below w.heap.size w w' := by
  obtain ⟨A1, c1⟩ := p
  obtain ⟨A2, c2⟩ := q
  obtain ⟨data, cache, fuse, off, bad⟩ := D
  simp only at h
  subst h
  go_enter Tryz.func137, Tryz.ntmps137
  go_wp2_with fail
  refine bodyPost_ret (v := .tuple #[dval ⟨data, cache, 0, true, bad⟩ ⟨A1, c1⟩ ⟨A2, c2⟩, .bool false]) (by simp [results, Tryz.results137, go_sem]) rfl ?_
  exact ⟨rfl, below_two _ _ _⟩
theorem d_burn1 (D : Dk) (p q : Pl) (w : World) (h : 0 < D.fuse) (hf : D.fuse ≤ 9223372036854775807) :
    Calls Tryz.prog 137 #[dval D p q] w fun e w' => e = .returned (.tuple #[dval D.burnt p q, .bool true]) ∧ Below w.heap.size w w' := by
  have Hb := hid (show D.burnt = { D with fuse := D.fuse - 1 } by simp [Dk.burnt, h])
  obtain ⟨A1, c1⟩ := p
  obtain ⟨A2, c2⟩ := q
  obtain ⟨data, cache, fuse, off, bad⟩ := D
  simp only at h hf
  have h' : ((fuse : Int) == 0) = false := by simp; omega
  go_enter Tryz.func137, Tryz.ntmps137
  go_wp2_with fail
  refine bodyPost_ret (v := .tuple #[dval ⟨data, cache, fuse - 1, off, bad⟩ ⟨A1, c1⟩ ⟨A2, c2⟩, .bool true]) (by simp [results, Tryz.results137, go_sem]) rfl ?_
  exact ⟨by rw [Hb.out], below_two _ _ _⟩
theorem d_burn2 (D : Dk) (p q : Pl) (w : World) (h : D.fuse < 0)  :
    Calls Tryz.prog 137 #[dval D p q] w fun e w' => e = .returned (.tuple #[dval D.burnt p q, .bool true]) ∧ Below w.heap.size w w' := by
  have Hb := hid (show D.burnt = D by have h0 : ¬ 0 < D.fuse := by omega
                                      simp [Dk.burnt, h0])
  obtain ⟨A1, c1⟩ := p
  obtain ⟨A2, c2⟩ := q
  obtain ⟨data, cache, fuse, off, bad⟩ := D
  simp only at h 
  have h' : ((fuse : Int) == 0) = false := by simp; omega
  go_enter Tryz.func137, Tryz.ntmps137
  go_wp2_with fail
  refine bodyPost_ret (v := .tuple #[dval ⟨data, cache, fuse, off, bad⟩ ⟨A1, c1⟩ ⟨A2, c2⟩, .bool true]) (by simp [results, Tryz.results137, go_sem]) rfl ?_
  exact ⟨by rw [Hb.out], below_two _ _ _⟩
theorem d_burn (D : Dk) (p q : Pl) (w : World) (h0 : D.fuse ≠ 0) (hf : D.fuse ≤ 9223372036854775807) :
    Calls Tryz.prog 137 #[dval D p q] w fun e w' => e = .returned (.tuple #[dval D.burnt p q, .bool true]) ∧ Below w.heap.size w w' := by
  by_cases h : 0 < D.fuse
  · exact d_burn1 D p q w h hf
  · exact d_burn2 D p q w (by omega)
end Go.Proofs.YtjhnaeomaigimaaGreatDoor
