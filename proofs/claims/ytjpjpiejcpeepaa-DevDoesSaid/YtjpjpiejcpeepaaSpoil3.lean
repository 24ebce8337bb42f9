/- Package cofferdamref01: a device that refuses a sector, or does so no more. -/
import Derived.Test.YtjpjpiejcpeepaaSpoil2
import Derived.Test.YtjpjpiejcpeepaaRef01
import Derived.BigQuiet
set_option linter.unusedVariables false
namespace Go.Proofs.Ytjpjpiejcpeepaa
open Go.RowKit Go.Shelf
attribute [local go_sem] bs_mk bs_append bs_extract bs_size bs_toList bs_get
/-! ### The plain part -/
def spStep (k : Int) (s : List Int × Bool) (x : Int) : List Int × Bool :=
  let s1 := if s.2 = false ∧ k < x then (s.1 ++ [k], true) else s
  if x ≠ k then (s1.1 ++ [x], s1.2) else s1
def spSt (k : Int) (is : Bool) (l : List Int) : List Int × Bool := l.foldl (spStep k) ([], !is)
theorem spSt_snoc (k : Int) (is : Bool) (l : List Int) (x : Int) : spSt k is (l ++ [x]) = spStep k (spSt k is l) x := by simp [spSt]
theorem spSt_len (k : Int) (is : Bool) (l : List Int) : (spSt k is l).1.length ≤ 2 * l.length := by
  have hstep : ∀ (s : List Int × Bool) (x : Int), (spStep k s x).1.length ≤ s.1.length + 2 := fun s x => by
    simp only [spStep]
    repeat' split
    all_goals simp
  suffices h : ∀ (l : List Int) (s : List Int × Bool), (l.foldl (spStep k) s).1.length ≤ s.1.length + 2 * l.length from by
    have := h l ([], !is); simpa [spSt] using this
  intro l
  induction l with
  | nil => intro s; simp
  | cons a l ih => intro s; have := ih (spStep k s a); have := hstep s a; simp only [List.foldl_cons, List.length_cons]; omega
def spEnd (k : Int) (s : List Int × Bool) : List Int := if s.2 = false then s.1 ++ [k] else s.1
theorem any_snoc (l : List Int) (x : Int) (p : Int → Bool) : (l ++ [x]).any p = (l.any p || p x) := by simp
theorem spSt_eq (k : Int) (is : Bool) : ∀ (n : Nat) (l : List Int), l.length = n → l.Pairwise (· < ·) →
    spSt k is l = (if is then (if l.any (fun x => decide (k < x)) then l.filter (fun x => decide (x < k)) ++ k :: l.filter (fun x => decide (k < x)) else l.filter (fun x => decide (x < k))) else l.filter (fun x => decide (x ≠ k)), !is || l.any (fun x => decide (k < x))) := by
  intro n
  induction n with
  | zero =>
    intro l hl _
    have : l = [] := List.eq_nil_of_length_eq_zero hl
    subst this
    cases is <;> rfl
  | succ n ih =>
    intro l hl hs
    obtain ⟨l', x, rfl⟩ : ∃ l' x, l = l' ++ [x] := ⟨l.dropLast, l.getLast (by intro h; simp [h] at hl), (List.dropLast_concat_getLast _).symm⟩
    have hl' : l'.length = n := by simpa using hl
    rw [List.pairwise_append] at hs
    obtain ⟨h1, _, h3⟩ := hs
    rw [spSt_snoc, ih l' hl' h1, any_snoc]
    cases is with
    | false =>
      simp only [spStep, Bool.not_false, Bool.true_or, Bool.false_eq_true, if_false, List.filter_append]
      by_cases hx : x = k
      · simp [hx]
      · simp [hx]
    | true =>
      cases ha : l'.any (fun x => decide (k < x)) with
      | true =>
        obtain ⟨y, hy, hky⟩ := List.any_eq_true.1 ha
        have := h3 y hy x (by simp)
        have hky : k < y := by simpa using hky
        have e1 : ¬ x < k := by omega
        have e2 : k < x := by omega
        have e3 : x ≠ k := by omega
        simp [spStep, List.filter_append, e1, e2, e3]
      | false =>
        have hno : ∀ y ∈ l', ¬ k < y := fun y hy hky => by
          have := List.any_eq_false.1 ha y hy
          simp at this
          omega
        have hf : l'.filter (fun x => decide (k < x)) = [] := List.filter_eq_nil_iff.2 fun y hy => by have := hno y hy; simp; omega
        by_cases hx : k < x
        · have e1 : ¬ x < k := by omega
          have e3 : x ≠ k := by omega
          simp [spStep, List.filter_append, hx, e1, e3, hf]
        · by_cases hx2 : x = k
          · subst hx2
            simp [spStep, List.filter_append]
          · have e1 : x < k := by omega
            simp [spStep, List.filter_append, hx, hx2, e1]
theorem spEnd_eq {l : List Int} (hs : l.Pairwise (· < ·)) (k : Int) (is : Bool) : spEnd k (spSt k is l) = Dk.spoilt l k is := by
  rw [spSt_eq k is l.length l rfl hs, spEnd, Dk.spoilt]
  cases is with
  | false => simp
  | true =>
    have hin : k ∈ l → l = l.filter (fun x => decide (x < k)) ++ k :: l.filter (fun x => decide (k < x)) := fun hk => by
      obtain ⟨a, b⟩ := sorted_split k l hs
      have hcov : l.filter (fun x => !decide (x < k)) = k :: l.filter (fun x => decide (k < x)) := by
        clear a b
        induction l with
        | nil => cases hk
        | cons c l ih =>
          obtain ⟨h1, h2⟩ := List.pairwise_cons.1 hs
          rcases List.mem_cons.1 hk with rfl | hk
          · have q1 : l.filter (fun x => !decide (x < k)) = l := List.filter_eq_self.2 fun y hy => by have := h1 y hy; simp; omega
            have q2 : l.filter (fun x => decide (k < x)) = l := List.filter_eq_self.2 fun y hy => by have := h1 y hy; simp; omega
            simp [q1, q2]
          · have := h1 k hk
            have e1 : c < k := this
            have e2 : ¬ k < c := by omega
            simp only [List.filter_cons, e1, e2, decide_true, decide_false, Bool.not_true, Bool.false_eq_true, if_false]
            exact ih h2 hk
      rw [← hcov, a, b, List.take_append_drop]
    have hno : l.any (fun x => decide (k < x)) = false → l.filter (fun x => decide (k < x)) = [] := fun h => List.filter_eq_nil_iff.2 fun y hy => by have := List.any_eq_false.1 h y hy; simpa using this
    cases ha : l.any (fun x => decide (k < x)) with
    | true =>
      by_cases hk : k ∈ l
      · simp [hk, ← hin hk]
      · simp [hk]
    | false =>
      by_cases hk : k ∈ l
      · have e := hin hk
        rw [hno ha] at e
        simp [hk, ← e]
      · simp [hk, hno ha]
set_option maxRecDepth 100000 in
theorem r1_spoil_out (D : Dk) (p q : Pl) (w : World) (hD : IsDk w D p q) (k : Int) (is : Bool) (h : D.there k = false) :
    Calls Try.prog 45 #[dval D p q, .int .i64 k, .bool is] w fun e w' => RetDkN w.heap.size D p q (D.spoil k is) e w' ∧ Below w.heap.size w w' := by
  have Hs := hid (show D.spoil k is = (D, 10) by rw [Dk.spoil, if_pos h])
  have hout := r1_there D p q hD.data k
  rw [h] at hout
  have Hi := hid (fun (W : World) (hb : Below w.heap.size w W) => hD.below hb)
  have Hap := hid (fun g (hg : w.heap.size ≤ g) => hD.apart hg)
  clear h hD
  obtain ⟨A1, a1⟩ := p
  obtain ⟨A2, a2⟩ := q
  have hB := Below.refl w.heap.size w
  have x := Blk.new w 25 #[.string (bs D.data), .slice A1 D.cache.length a1, .int .i64 D.fuse, .bool D.off, .slice A2 D.bad.length a2]
  have xk := blk5 x
  have hB_1 := hB.alloc hB.size (.cells #[.string (bs D.data), .slice A1 D.cache.length a1, .int .i64 D.fuse, .bool D.off, .slice A2 D.bad.length a2] 25)
  have r := Blk.new (w.alloc (.cells #[.string (bs D.data), .slice A1 D.cache.length a1, .int .i64 D.fuse, .bool D.off, .slice A2 D.bad.length a2] 25)) 25 #[.string (bs []), .slice none 0 0, .int .i64 0, .bool false, .slice none 0 0]
  simp only [World.size_alloc] at r
  have rk := blk5 r
  have rkf := r.frozen
  have hB_2 := hB_1.alloc hB_1.size (.cells #[.string (bs []), .slice none 0 0, .int .i64 0, .bool false, .slice none 0 0] 25)
  have x_3 := x.alloc (.cells #[.string (bs []), .slice none 0 0, .int .i64 0, .bool false, .slice none 0 0] 25)
  have xk_3 := blk5 x_3
  go_enter Try.func45, Try.ntmps45
  go_wp2_with fail
  go_at_call 56
  refine ((hout _)).mono ?_
  rintro e w1 ⟨rfl, hb1⟩
  replace hB := bt hB_2 hb1
  replace x := x_3.below hb1 x_3.lt
  replace xk := blk5 x
  replace r := r.below hb1 r.lt
  replace rk := blk5 r
  replace rkf := r.frozen
  clear hB_1 hB_2 xk_3 x_3
  go_wp2_with fail
  have y5 := blk_set5 r (.string (bs D.data)) (.slice A1 D.cache.length a1) (.int .i64 D.fuse) (.bool D.off) (.slice A2 D.bad.length a2)
  have yy := blk5 y5
  refine bodyPost_ret (v := .tuple #[dval D ⟨A1, a1⟩ ⟨A2, a2⟩, .int .i64 10]) (by simp [results, Try.results45, go_sem, yy]) rfl ?_
  rw [Hs.out]
  exact ⟨⟨_, _, rfl, (Hi.out _ hB).off5 (Hap.out _ (by omega)) _ _ _ _ _, fun _ _ h => h⟩, below_set5 hB (by omega) _ _ _ _ _⟩
set_option maxRecDepth 100000 in
set_option maxHeartbeats 2000000 in
theorem r1_spoil_there (D : Dk) (p q : Pl) (w : World) (hD : IsDk w D p q) (hs : incr D.bad = true) (hl : D.bad.length ≤ 100000) (k : Int) (hk : -9223372036854775808 ≤ k ∧ k ≤ 9223372036854775807) (is : Bool) (h : D.there k = true) :
    Calls Try.prog 45 #[dval D p q, .int .i64 k, .bool is] w fun e w' => RetDkN w.heap.size D p q (D.spoil k is) e w' ∧ Below w.heap.size w w' := by
  have Hs := hid (show D.spoil k is = ({ D with bad := Dk.spoilt D.bad k is }, 0) by rw [Dk.spoil, if_neg (by rw [h]; simp)])
  have hpw := incr_pairwise _ hs
  have hout := r1_there D p q hD.data k
  rw [h] at hout
  have Hi := hid (fun (W : World) (hb : Below w.heap.size w W) (l : List Int) (A : Option Addr) (c base : Nat) (t : TypeId) (hown : W.ownsRow base t 1 (.slice A l.length c) l.length (intCells l)) (e : l = Dk.spoilt D.bad k is) =>
    isDk_bad hD hb hown (by rw [e]; have := spoilt_len D.bad k is; omega) (by rw [e]; exact spoilt_bounds hD.bads hk))
  have Hap := hid (fun g (hg : w.heap.size ≤ g) => hD.apart hg)
  have Hend := hid (spEnd_eq hpw k is)
  have Hlen := hid (fun i => Nat.le_trans (spSt_len k is (D.bad.take i)) (show 2 * (D.bad.take i).length ≤ 200000 by rw [List.length_take]; omega))
  have Hcells := hid (fun (W : World) (hb : Below w.heap.size w W) => hD.bad.below hb)
  obtain ⟨i0, hi, hz0, hz1, hz2⟩ := info_parts Try.infoIntP
  clear h hD hs hpw
  obtain ⟨A1, a1⟩ := p
  obtain ⟨A2, a2⟩ := q
  have hB := Below.refl w.heap.size w
  have x := Blk.new w 25 #[.string (bs D.data), .slice A1 D.cache.length a1, .int .i64 D.fuse, .bool D.off, .slice A2 D.bad.length a2]
  have xk := blk5 x
  have xkf := x.frozen
  have hB_1 := hB.alloc hB.size (.cells #[.string (bs D.data), .slice A1 D.cache.length a1, .int .i64 D.fuse, .bool D.off, .slice A2 D.bad.length a2] 25)
  have r := Blk.new (w.alloc (.cells #[.string (bs D.data), .slice A1 D.cache.length a1, .int .i64 D.fuse, .bool D.off, .slice A2 D.bad.length a2] 25)) 25 #[.string (bs []), .slice none 0 0, .int .i64 0, .bool false, .slice none 0 0]
  simp only [World.size_alloc] at r
  have rk := blk5 r
  have rkf := r.frozen
  have hB_2 := hB_1.alloc hB_1.size (.cells #[.string (bs []), .slice none 0 0, .int .i64 0, .bool false, .slice none 0 0] 25)
  have x_3 := x.alloc (.cells #[.string (bs []), .slice none 0 0, .int .i64 0, .bool false, .slice none 0 0] 25)
  have xk_3 := blk5 x_3
  have xkf_3 := x_3.frozen
  go_enter Try.func45, Try.ntmps45
  go_wp2_with fail
  go_at_call 56
  refine ((hout _)).mono ?_
  rintro e V ⟨rfl, hb1⟩
  replace hB := bt hB_2 hb1
  replace x := x_3.below hb1 x_3.lt
  replace xk := blk5 x
  replace xkf := x.frozen
  replace r := r.below hb1 r.lt
  replace rk := blk5 r
  replace rkf := r.frozen
  clear hB_1 hB_2 xk_3 xkf_3 x_3
  have hV : w.heap.size + 1 < V.heap.size := r.lt
  have Hx := hid x
  have Hr := hid r
  have HB := hid hB
  clear x xk xkf r rk rkf hB hb1 hout
  go_wp2_with fail
  go_loopw [8, 9, 10] (fun v b u W => ∃ i : Nat, i ≤ D.bad.length ∧ u = .int .i64 i ∧ b = .bool (spSt k is (D.bad.take i)).2 ∧ W.ownsRow V.heap.size 3 1 v (spSt k is (D.bad.take i)).1.length (intCells (spSt k is (D.bad.take i)).1) ∧ Below V.heap.size V W) (fun v b u _ => D.bad.length - (intOf u).toNat)
  case atStart => exact ⟨0, Nat.zero_le _, rfl, rfl, World.ownsRow_nil _ _ _ _, Below.refl _ _⟩
  case round =>
    obtain ⟨i, hi', rfl, rfl, hown, hW⟩ := hrel
    have hVW : V.heap.size ≤ wr.heap.size := hW.size
    have x := Hx.out.below hW Hx.out.lt
    have r := Hr.out.below hW Hr.out.lt
    have hB := HB.out.trans (hW.mono HB.out.size)
    have xk := blk5 x
    have hsl := Hlen.out i
    by_cases hlt : i < D.bad.length
    · obtain ⟨b0, o0, eA, hc⟩ := (Hcells.out _ hB).int hlt
      have eA' : A2 = some ⟨b0, o0, none⟩ := eA
      subst eA'
      have c0 := hc i hlt
      have hb0 : b0 < w.heap.size := by
        obtain ⟨b1, o1, e1, hc1⟩ := (Hcells.out w (Below.refl _ _)).int hlt
        have e2 : (some ⟨b0, o0, none⟩ : Option Addr) = some ⟨b1, o1, none⟩ := e1
        injection e2 with e2
        injection e2 with e3 e4
        subst e3
        exact lt_of_cell (hc1 i hlt)
      have Hn := hid (show spSt k is (D.bad.take (i + 1)) = spStep k (spSt k is (D.bad.take i)) D.bad[i] by rw [List.take_succ_eq_append_getElem hlt, spSt_snoc])
      clear hc eA
      generalize D.bad[i] = y at c0 Hn
      obtain ⟨⟨st, pt⟩, hst⟩ : ∃ s, spSt k is (D.bad.take i) = s := ⟨_, rfl⟩
      rw [hst] at hown Hn hsl ⊢
      simp only at hown hsl ⊢
      clear hst
      cases pt with
      | true =>
        by_cases hy : y = k
        · subst hy
          have n1 : (y != y) = false := by simp
          go_wp2_with fail
          go_roundw
          case rel => exact ⟨i + 1, by omega, by go_num, by rw [Hn.out]; simp [spStep], by rw [Hn.out]; simpa [spStep, intCells] using hown, hW⟩
          case measure => simp [intOf]; omega
        · have n1 : (y != k) = true := by simpa using hy
          have Hy := hid hy
          clear hy
          go_wp2_with (at_builtin; go_must (refine wpList_app rfl _ _ 23 rfl V.heap.size 3 i0 (.int .i64 0) 1 8 Try.underlying23 hi hz0 hz1 hz2 rfl (by decide) _ _ _ rfl (hown.alloc _) (some ⟨wr.heap.size, 0, none⟩) 1 1 [.int .i64 y] rfl (cells_new wr [.int .i64 y] 3) rfl (fun h => by cases h) (by simp [Value.oneCell']) (by unfold maxLen; omega) (by omega) (by simp; omega) ?_); intro v5 w5 h5 b5)
          have hy := Hy.out
          go_roundw
          case rel => exact ⟨i + 1, by omega, by go_num, by rw [Hn.out]; simp [spStep, hy], by rw [Hn.out]; simpa [spStep, intCells, hy] using h5, (hW.trans ((Below.refl V.heap.size wr).alloc (by omega) (.cells #[.int .i64 y] 3))).trans b5⟩
          case measure => simp [intOf]; omega
      | false =>
        by_cases hky : k < y
        · have hd : decide (k < y) = true := by simpa using hky
          have n1 : (y != k) = true := by simp; omega
          have Hy := hid (show y ≠ k by omega)
          have Hk := hid hky
          clear hky
          go_wp2_with (first | (at_builtin; (refine wpList_app rfl _ _ 23 rfl V.heap.size 3 i0 (.int .i64 0) 1 8 Try.underlying23 hi hz0 hz1 hz2 rfl (by decide) _ _ _ rfl (hown.alloc _) (some ⟨wr.heap.size, 0, none⟩) 1 1 [.int .i64 k] rfl (cells_new wr [.int .i64 k] 3) rfl (fun h => by cases h) (by simp [Value.oneCell']) (by unfold maxLen; omega) (by omega) (by simp; omega) ?_); intro v5 w5 h5 b5; have x5 := (x.alloc (.cells #[.int .i64 k] 3)).below b5 (by omega); have x5k := blk5 x5; have hw5 : V.heap.size ≤ w5.heap.size := (by have := b5.size; simp at this; omega); have c5 := (b5.cell (p := ⟨b0, o0 + i, none⟩) (by simp only; omega)).trans (cell_below ((Below.refl wr.heap.size wr).alloc (Nat.le_refl _) (.cells #[.int .i64 k] 3)) c0)) | (at_builtin; go_must (refine wpList_app rfl _ _ 23 rfl V.heap.size 3 i0 (.int .i64 0) 1 8 Try.underlying23 hi hz0 hz1 hz2 rfl (by decide) _ _ _ rfl (h5.alloc _) (some ⟨w5.heap.size, 0, none⟩) 1 1 [.int .i64 y] rfl (cells_new w5 [.int .i64 y] 3) rfl (fun h => by cases h) (by simp [Value.oneCell']) (by unfold maxLen; omega) (by omega) (by simp; omega) ?_); intro v6 w6 h6 b6))
          have hy := Hy.out
          have hky := Hk.out
          go_roundw
          case rel => exact ⟨i + 1, by omega, by go_num, by rw [Hn.out]; simp [spStep, hy, hky], by rw [Hn.out]; simpa [spStep, intCells, hy, hky] using h6, (((hW.trans ((Below.refl V.heap.size wr).alloc (by omega) (.cells #[.int .i64 k] 3))).trans b5).trans ((Below.refl V.heap.size w5).alloc (by omega) (.cells #[.int .i64 y] 3))).trans b6⟩
          case measure => simp [intOf]; omega
        · have hd : decide (k < y) = false := by simpa using hky
          have Hk := hid hky
          clear hky
          by_cases hy : y = k
          · subst hy
            have n1 : (y != y) = false := by simp
            go_wp2_with fail
            go_roundw
            case rel => exact ⟨i + 1, by omega, by go_num, by rw [Hn.out]; simp [spStep], by rw [Hn.out]; simpa [spStep, intCells] using hown, hW⟩
            case measure => simp [intOf]; omega
          · have n1 : (y != k) = true := by simpa using hy
            have Hy := hid hy
            clear hy
            go_wp2_with (at_builtin; go_must (refine wpList_app rfl _ _ 23 rfl V.heap.size 3 i0 (.int .i64 0) 1 8 Try.underlying23 hi hz0 hz1 hz2 rfl (by decide) _ _ _ rfl (hown.alloc _) (some ⟨wr.heap.size, 0, none⟩) 1 1 [.int .i64 y] rfl (cells_new wr [.int .i64 y] 3) rfl (fun h => by cases h) (by simp [Value.oneCell']) (by unfold maxLen; omega) (by omega) (by simp; omega) ?_); intro v5 w5 h5 b5)
            have hy := Hy.out
            have hky := Hk.out
            go_roundw
            case rel => exact ⟨i + 1, by omega, by go_num, by rw [Hn.out]; simp [spStep, hy, hky], by rw [Hn.out]; simpa [spStep, intCells, hy, hky] using h5, (hW.trans ((Below.refl V.heap.size wr).alloc (by omega) (.cells #[.int .i64 y] 3))).trans b5⟩
            case measure => simp [intOf]; omega
    · obtain rfl : i = D.bad.length := by omega
      have He := Hend.out
      rw [List.take_length] at hown hsl ⊢
      obtain ⟨⟨st, pt⟩, hst⟩ : ∃ s, spSt k is D.bad = s := ⟨_, rfl⟩
      rw [hst] at hown hsl He ⊢
      simp only [spEnd] at hown hsl He ⊢
      have He := hid He
      clear hst
      cases pt with
      | true =>
        have He2 := hid (show st = Dk.spoilt D.bad k is by have := He.out; simpa using this)
        obtain ⟨A', c', rfl, _⟩ := own_slice hown
        have x6 : Blk (wr.setCell ⟨w.heap.size, 4, none⟩ (.slice A' st.length c')) w.heap.size 25 #[.string (bs D.data), .slice A1 D.cache.length a1, .int .i64 D.fuse, .bool D.off, .slice A' st.length c'] := by
          have := x.set 4 (.slice A' st.length c')
          simpa using this
        have x6k := blk5 x6
        have xf := x.frozen
        have r6 := r.other (a := ⟨w.heap.size, 4, none⟩) (by simp) (.slice A' st.length c')
        have r6k := blk5 r6
        have r6f := r6.frozen
        have b6 := hB.setCell (p := ⟨w.heap.size, 4, none⟩) (Nat.le_refl _) (.slice A' st.length c')
        have own6 := ownsRow_setCell_below hown (a := ⟨w.heap.size, 4, none⟩) (by simp; omega) (.slice A' st.length c')
        go_wp2_with fail
        generalize (wr.setCell ⟨w.heap.size, 4, none⟩ (.slice A' st.length c')) = W9 at *
        have y5 := blk_set5 r6 (.string (bs D.data)) (.slice A1 D.cache.length a1) (.int .i64 D.fuse) (.bool D.off) (.slice A' st.length c')
        have yy := blk5 y5
        refine bodyPost_ret (v := .tuple #[.agg #[.string (bs D.data), .slice A1 D.cache.length a1, .int .i64 D.fuse, .bool D.off, .slice A' st.length c'], .int .i64 0]) (by simp [results, Try.results45, go_sem, yy]) rfl ?_
        rw [Hs.out]
        have e : st.length = (Dk.spoilt D.bad k is).length := by rw [He2.out]
        have own9 := own6
        rw [show intCells st = intCells (Dk.spoilt D.bad k is) from by rw [He2.out], e] at own9
        have iD := Hi.out _ b6 _ _ _ _ _ own9 rfl
        have oo : DkOff (w.heap.size + 1) { D with bad := Dk.spoilt D.bad k is } ⟨A1, a1⟩ ⟨A', c'⟩ := ⟨(Hap.out _ (by omega)).1, off_own own9 (by omega)⟩
        rw [e]
        exact ⟨⟨⟨A1, a1⟩, ⟨A', c'⟩, rfl, iD.off5 oo _ _ _ _ _, fun g g1 g2 => ⟨g2.1, off_own own9 (by omega)⟩⟩, below_set5 b6 (by omega) _ _ _ _ _⟩
      | false =>
        have He2 := hid (show st ++ [k] = Dk.spoilt D.bad k is by have := He.out; simpa using this)
        go_wp2_with (at_builtin; go_must (refine wpList_app rfl _ _ 23 rfl V.heap.size 3 i0 (.int .i64 0) 1 8 Try.underlying23 hi hz0 hz1 hz2 rfl (by decide) _ _ _ rfl (hown.alloc _) (some ⟨wr.heap.size, 0, none⟩) 1 1 [.int .i64 k] rfl (cells_new wr [.int .i64 k] 3) rfl (fun h => by cases h) (by simp [Value.oneCell']) (by unfold maxLen; omega) (by omega) (by simp; omega) ?_); intro v5 w5 h5 b5; have x5 := (x.alloc (.cells #[.int .i64 k] 3)).below b5 (by omega); have r5 := (r.alloc (.cells #[.int .i64 k] 3)).below b5 (by omega); have hw5 : V.heap.size ≤ w5.heap.size := (by have := b5.size; simp at this; omega); obtain ⟨A', c', rfl, _⟩ := own_slice h5; have x5k := blk5 x5; have x5f := x5.frozen; have r5k := blk5 r5; have r5f := r5.frozen; have x6k := blk5 (show Blk (w5.setCell ⟨w.heap.size, 4, none⟩ (.slice A' (st.length + 1) c')) w.heap.size 25 #[.string (bs D.data), .slice A1 D.cache.length a1, .int .i64 D.fuse, .bool D.off, .slice A' (st.length + 1) c'] from (by have := x5.set 4 (.slice A' (st.length + 1) c'); simpa using this)); have r6f := (r5.other (a := ⟨w.heap.size, 4, none⟩) (by simp) (.slice A' (st.length + 1) c')).frozen; have r6k := blk5 (r5.other (a := ⟨w.heap.size, 4, none⟩) (by simp) (.slice A' (st.length + 1) c')))
        have hB5 := (HB.out.trans (hW.mono HB.out.size)).trans ((((Below.refl wr.heap.size wr).alloc (Nat.le_refl _) (.cells #[.int .i64 k] 3)).mono (by omega)).trans (b5.mono (by omega)))
        have x6 : Blk (w5.setCell ⟨w.heap.size, 4, none⟩ (.slice A' (st.length + 1) c')) w.heap.size 25 #[.string (bs D.data), .slice A1 D.cache.length a1, .int .i64 D.fuse, .bool D.off, .slice A' (st.length + 1) c'] := by
          have := x5.set 4 (.slice A' (st.length + 1) c')
          simpa using this
        have x6k := blk5 x6
        have xf := x5.frozen
        have r6 := r5.other (a := ⟨w.heap.size, 4, none⟩) (by simp) (.slice A' (st.length + 1) c')
        have r6k := blk5 r6
        have r6f := r6.frozen
        have b6 := hB5.setCell (p := ⟨w.heap.size, 4, none⟩) (Nat.le_refl _) (.slice A' (st.length + 1) c')
        have own6 := ownsRow_setCell_below h5 (a := ⟨w.heap.size, 4, none⟩) (by simp; omega) (.slice A' (st.length + 1) c')
        generalize (w5.setCell ⟨w.heap.size, 4, none⟩ (.slice A' (st.length + 1) c')) = W9 at *
        have y5 := blk_set5 r6 (.string (bs D.data)) (.slice A1 D.cache.length a1) (.int .i64 D.fuse) (.bool D.off) (.slice A' (st.length + 1) c')
        have yy := blk5 y5
        refine bodyPost_ret (v := .tuple #[.agg #[.string (bs D.data), .slice A1 D.cache.length a1, .int .i64 D.fuse, .bool D.off, .slice A' (st.length + 1) c'], .int .i64 0]) (by simp [results, Try.results45, go_sem, yy]) rfl ?_
        rw [Hs.out]
        have e : (st.length + 1) = (Dk.spoilt D.bad k is).length := by rw [← He2.out]; simp
        have own9 := own6
        rw [show intCells st ++ [Value.int .i64 k] = intCells (Dk.spoilt D.bad k is) from by rw [← He2.out]; simp [intCells], e] at own9
        have iD := Hi.out _ b6 _ _ _ _ _ own9 rfl
        have oo : DkOff (w.heap.size + 1) { D with bad := Dk.spoilt D.bad k is } ⟨A1, a1⟩ ⟨A', c'⟩ := ⟨(Hap.out _ (by omega)).1, off_own own9 (by omega)⟩
        rw [e]
        exact ⟨⟨⟨A1, a1⟩, ⟨A', c'⟩, rfl, iD.off5 oo _ _ _ _ _, fun g g1 g2 => ⟨g2.1, off_own own9 (by omega)⟩⟩, below_set5 b6 (by omega) _ _ _ _ _⟩
theorem r1_spoil (D : Dk) (p q : Pl) (w : World) (hD : IsDk w D p q) (hs : incr D.bad = true) (hl : D.bad.length ≤ 100000) (k : Int) (hk : -9223372036854775808 ≤ k ∧ k ≤ 9223372036854775807) (is : Bool) :
    Calls Try.prog 45 #[dval D p q, .int .i64 k, .bool is] w fun e w' => RetDkN w.heap.size D p q (D.spoil k is) e w' ∧ Below w.heap.size w w' := by
  cases h : D.there k with
  | false => exact r1_spoil_out D p q w hD k is h
  | true => exact r1_spoil_there D p q w hD hs hl k hk is h
end Go.Proofs.Ytjpjpiejcpeepaa
