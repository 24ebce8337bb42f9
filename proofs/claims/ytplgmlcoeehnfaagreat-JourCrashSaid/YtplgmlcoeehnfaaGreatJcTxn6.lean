/- Package txn: reading sectors as a transaction: its parts. Package txn: reading sectors as a transaction. -/
import Derived.Test.YtplgmlcoeehnfaaGreatJcPlan4
import Derived.Test.YtplgmlcoeehnfaaGreatJcTxn4
set_option linter.unusedVariables false
namespace Go.Proofs.YtplgmlcoeehnfaaGreat
open Go.RowKit Go.Shelf
attribute [local go_sem] bs_mk bs_append bs_extract bs_size bs_toList bs_get
theorem tx_write (t : Tx) (p q : Pl) (w : World) (hL : IsPn w t.plan p q) (hs : t.seq < 18446744073709551616) :
    Calls Tryz.prog 76 #[tval t p q] w fun e w' => RetRows w 9 t.write e w' ∧ Below w.heap.size w w' := by
  by_cases h : t.Ok
  · exact tx_write_yes t p q w hL hs h
  · exact tx_write_no t p q w hL h
theorem blk3 {w : World} {g : Nat} {t : TypeId} {a b c : Value} (h : Blk w g t #[a, b, c]) : w.cell? ⟨g, 0, none⟩ = some a ∧ w.cell? ⟨g, 1, none⟩ = some b ∧ w.cell? ⟨g, 2, none⟩ = some c := ⟨h.cell 0, h.cell 1, h.cell 2⟩
theorem blk_set3 {w : World} {g : Nat} {t : TypeId} {a b c : Value} (h : Blk w g t #[a, b, c]) (v0 v1 v2 : Value) :
    Blk (((w.setCell ⟨g, 0, none⟩ v0).setCell ⟨g, 1, none⟩ v1).setCell ⟨g, 2, none⟩ v2) g t #[v0, v1, v2] := by
  have := ((h.set 0 v0).set 1 v1).set 2 v2
  simpa using this
theorem below_set3 {B : Nat} {w0 w : World} {g : Nat} (h : Below B w0 w) (hg : B ≤ g) (v0 v1 v2 : Value) :
    Below B w0 (((w.setCell ⟨g, 0, none⟩ v0).setCell ⟨g, 1, none⟩ v1).setCell ⟨g, 2, none⟩ v2) :=
  ((h.setCell (p := ⟨g, 0, none⟩) hg v0).setCell (p := ⟨g, 1, none⟩) hg v1).setCell (p := ⟨g, 2, none⟩) hg v2
/-- The call hands back a transaction and a number. -/
def RetTx (X : Tx × Int) (e : Ending) (w : World) : Prop := ∃ p q, e = .returned (.tuple #[tval X.1 p q, .int .i64 X.2]) ∧ IsPn w X.1.plan p q
/-- Where a plan's slices lie: in rows of their own, from that bound on. -/
def Rows2 (B : Nat) (L : Pn) (p q : Pl) (w : World) : Prop :=
  w.ownsRow B 3 1 (.slice p.a L.targets.length p.c) L.targets.length (intCells L.targets) ∧ w.ownsRow B 9 1 (.slice q.a L.data.length q.c) L.data.length (strCells L.data)
/-- And its slices lie in rows of their own, from that bound on. -/
def RetTxN (B : Nat) (X : Tx × Int) (e : Ending) (w : World) : Prop := ∃ p q, e = .returned (.tuple #[tval X.1 p q, .int .i64 X.2]) ∧ IsPn w X.1.plan p q ∧ Rows2 B X.1.plan p q w
theorem RetTxN.ret {B : Nat} {X : Tx × Int} {e : Ending} {w : World} (h : RetTxN B X e w) : RetTx X e w := by
  obtain ⟨p, q, he, hi, _⟩ := h
  exact ⟨p, q, he, hi⟩
/-- Is a sector of another size? -/
def wrongSize (s : List UInt8) : Bool := s.length != 64
theorem tx_pred (s : List UInt8) (hs : s.length ≤ maxLen) (w : World) : Calls Tryz.prog 200 #[.string (bs s)] w fun e w' => e = .returned (.bool (wrongSize s)) ∧ w' = w := by
  unfold maxLen at hs
  have Hw := hid (show wrongSize s = ((s.length : Int) != 64) by
    unfold wrongSize
    rw [Bool.eq_iff_iff]
    simp only [bne_iff_ne]
    omega)
  go_enter Tryz.func200, Tryz.ntmps200
  go_wp2_with fail
  go_ret
  exact ⟨by rw [Hw.out]; rfl, rfl⟩
set_option maxRecDepth 100000 in
theorem tx_indexFunc (A : Option Addr) (l : List (List UInt8)) (c : Nat) (w : World) (hA : Cells w A (strCells l)) (hl : l.length ≤ 1000000) (hs : ∀ s ∈ l, s.length ≤ maxLen) :
    Calls Tryz.prog 218 #[.slice A l.length c, .func (.func 200) #[] #[]] w fun e w' => (∃ n : Int, e = .returned (.int .i64 n) ∧ (0 ≤ n) = (l.any wrongSize = true)) ∧ w' = w := by
  have Hs := hid (fun i (hi : i < l.length) => hs _ (List.getElem_mem hi))
  clear hs
  go_enter Tryz.func218, Tryz.ntmps218
  go_wp2_with fail
  go_loopw [8] (fun x W => ∃ i : Nat, i ≤ l.length ∧ x = .int .i64 i ∧ Hid (∀ j (hj : j < l.length), j < i → wrongSize l[j] = false) ∧ W = w) (fun x _ => l.length - (intOf x).toNat)
  case atStart => exact ⟨0, Nat.zero_le _, rfl, hid (fun j hj h0 => by omega), rfl⟩
  case round =>
    obtain ⟨i, hi, rfl, hok, rfl⟩ := hrel
    by_cases hlt : i < l.length
    · obtain ⟨pb, po, hpa, hcell⟩ := hA.str hlt
      subst hpa
      have x0 := hcell i hlt
      have hcl1 := tx_pred l[i] (Hs.out i hlt) wr
      cases hp : wrongSize l[i] with
      | false =>
        rw [hp] at hcl1
        have Hp := hid hp; clear hp
        go_wp2_with fail
        go_at_call 200
        refine hcl1.mono ?_
        rintro e w2 ⟨rfl, rfl⟩
        go_wp2_with fail
        go_roundw
        case rel => exact ⟨i + 1, by omega, by go_num, hid (fun j hj hji => by
          rcases Nat.lt_or_ge j i with h' | h'
          · exact hok.out j hj h'
          · obtain rfl : j = i := by omega
            exact Hp.out), trivial⟩
        case measure => simp [intOf]; omega
      | true =>
        rw [hp] at hcl1
        have Hp := hid (show l.any wrongSize = true by rw [List.any_eq_true]; exact ⟨_, List.getElem_mem hlt, hp⟩)
        clear hp
        go_wp2_with fail
        go_at_call 200
        refine hcl1.mono ?_
        rintro e w2 ⟨rfl, rfl⟩
        go_wp2_with fail
        go_ret
        exact ⟨⟨(i : Int), rfl, by rw [Hp.out]; simp⟩, rfl⟩
    · have Hp := hid (show l.any wrongSize = false by
        rw [List.any_eq_false]; intro x hx; obtain ⟨j, hj, rfl⟩ := List.getElem_of_mem hx; simp [hok.out j hj (by omega)])
      clear hok
      go_wp2_with fail
      go_ret
      exact ⟨⟨-1, rfl, by rw [Hp.out]; simp⟩, rfl⟩
theorem tx_containsFunc (A : Option Addr) (l : List (List UInt8)) (c : Nat) (w : World) (hA : Cells w A (strCells l)) (hl : l.length ≤ 1000000) (hs : ∀ s ∈ l, s.length ≤ maxLen) :
    Calls Tryz.prog 199 #[.slice A l.length c, .func (.func 200) #[] #[]] w fun e w' => e = .returned (.bool (l.any wrongSize)) ∧ w' = w := by
  have hi := tx_indexFunc A l c w hA hl hs
  go_enter Tryz.func199, Tryz.ntmps199
  go_wp2_with fail
  go_at_call 218
  refine hi.mono ?_
  rintro e w2 ⟨⟨n, rfl, hn⟩, rfl⟩
  have Hn := hid (show l.any wrongSize = decide (0 ≤ n) by
    cases h : l.any wrongSize <;> rw [h] at hn <;> simp at hn ⊢ <;> omega)
  clear hn
  go_wp2_with fail
  go_ret
  exact ⟨by rw [Hn.out]; rfl, rfl⟩
theorem any_wrong {l : List (List UInt8)} : l.any wrongSize = true ↔ ∃ s ∈ l, s.length ≠ 64 := by
  rw [List.any_eq_true]
  simp only [wrongSize, bne_iff_ne]
theorem join_nil (l : List (List UInt8)) : Lib.join l [] = l.flatten := by
  induction l with
  | nil => rfl
  | cons a l ih => cases l with
    | nil => simp [Lib.join]
    | cons b l =>
      have ih : (List.intersperse [] (b :: l)).flatten = (b :: l).flatten := ih
      show (List.intersperse [] (a :: b :: l)).flatten = a ++ (b :: l).flatten
      rw [← ih]
      rfl
theorem join_any (A : Option Addr) (l : List (List UInt8)) (c : Nat) (w : World) (hA : Cells w A (strCells l)) (hl : l.length ≤ 1000000) (hlc : l.length ≤ c) (hf : l.flatten.length ≤ 100000000) :
    Calls Tryz.prog 201 #[.slice A l.length c, .string (bs [])] w fun e w' => e = .returned (.string (bs l.flatten)) ∧ Below w.heap.size w w' := by
  by_cases h0 : l = []
  · subst h0
    refine (Tryz.strings_Join_none A c (bs []) w).mono ?_
    rintro e w' ⟨rfl, rfl⟩
    exact ⟨rfl, Below.refl _ _⟩
  · have hp := List.length_pos_iff.2 h0
    obtain ⟨pb, po, hpa, hcell⟩ := hA.str hp
    subst hpa
    have e1 : (l.map bs).map (·.data.toList) = l := by rw [List.map_map]; conv => rhs; rw [← List.map_id l]
                                                       exact List.map_congr_left fun x _ => bs_list x
    have e2 : (bs []).data.toList = [] := rfl
    have := Tryz.strings_Join pb po c (l.map bs) (bs []) w (fun j x hj => by
      rw [List.getElem?_map] at hj
      cases hx : l[j]? with
      | none => rw [hx] at hj; cases hj
      | some y =>
        rw [hx] at hj
        injection hj with hj
        subst hj
        obtain ⟨hjl, rfl⟩ := List.getElem?_eq_some_iff.1 hx
        exact hcell j hjl) (lt_of_cell (hcell 0 hp)) (by rw [List.length_map]; omega) (by rw [List.length_map]; exact hlc) (by rw [e1, e2, join_nil]; omega)
    rw [e1, e2, join_nil, List.length_map] at this
    exact this
end Go.Proofs.YtplgmlcoeehnfaaGreat
set_option linter.unusedVariables false
namespace Go.Proofs.YtplgmlcoeehnfaaGreat
open Go.RowKit Go.Shelf
attribute [local go_sem] bs_mk bs_append bs_extract bs_size bs_toList bs_get
theorem retTx_zero {B : Nat} (e : Int) (w : World) {X : Tx × Int} (h : X = (Tx.zero, e)) : RetTxN B X (.returned (.tuple #[.agg #[.int .u64 0, .slice none 0 0, .slice none 0 0], .int .i64 e])) w := by
  subst h
  exact ⟨⟨none, 0⟩, ⟨none, 0⟩, rfl, isPn_zero w, World.ownsRow_nil _ _ _ _, World.ownsRow_nil _ _ _ _⟩
theorem cut_caps (c s n : Nat) (h1 : s ≤ c) (h2 : n + 2 ≤ s) (h3 : n ≠ 0) : ¬ c = s - n ∧ ¬ c - (s - n) = 0 ∧ ¬ c ≤ s - n ∧ s - (s - n) = n := by omega
theorem own_later {w w' : World} {base : Nat} {e : TypeId} {size n : Nat} {v : Value} {xs : List Value} (h : w.ownsRow base e size v n xs) (hb : Below w.heap.size w w') : w'.ownsRow base e size v n xs :=
  h.kept (row := none) ⟨hb.os, hb.tape, hb.output, hb.size, fun k hk _ => hb.block k hk⟩ (by cases hv : v.ownBlock with | none => exact .inl rfl | some x => exact .inr (by simp))
theorem Rows2.below {B : Nat} {L : Pn} {p q : Pl} {w w' : World} (h : Rows2 B L p q w) (hb : Below w.heap.size w w') : Rows2 B L p q w' := ⟨own_later h.1 hb, own_later h.2 hb⟩
theorem Rows2.off {B : Nat} {L : Pn} {p q : Pl} {w : World} (h : Rows2 B L p q w) {g : Nat} (hg : g < B) : PnOff g L p q := ⟨off_own h.1 hg, off_own h.2 hg⟩
theorem Rows2.set {B : Nat} {L : Pn} {p q : Pl} {w : World} (h : Rows2 B L p q w) {a : Addr} (ha : a.block < B) (v : Value) : Rows2 B L p q (w.setCell a v) :=
  ⟨ownsRow_setCell_other h.1 (a := a) (fun e => by have := (h.1.lt _ e).1; omega) v, ownsRow_setCell_other h.2 (a := a) (fun e => by have := (h.2.lt _ e).1; omega) v⟩
theorem Rows2.set3 {B : Nat} {L : Pn} {p q : Pl} {w : World} (h : Rows2 B L p q w) {g : Nat} (hg : g < B) (v0 v1 v2 : Value) : Rows2 B L p q (((w.setCell ⟨g, 0, none⟩ v0).setCell ⟨g, 1, none⟩ v1).setCell ⟨g, 2, none⟩ v2) :=
  ((h.set (a := ⟨g, 0, none⟩) hg v0).set (a := ⟨g, 1, none⟩) hg v1).set (a := ⟨g, 2, none⟩) hg v2
theorem intCells_snoc (l : List Int) (x : Int) : intCells (l ++ [x]) = intCells l ++ [Value.int .i64 x] := by simp [intCells]
open Classical in
theorem txRead_cons {s0 : List UInt8} {tl : List (List UInt8)} {N : Nat} (hN : hcount s0 = N) : txRead (s0 :: tl) =
    if N = 0 then (Tx.zero, 14) else if (s0 :: tl).length < txSize N then (Tx.zero, 22)
    else if ∃ s ∈ (s0 :: tl).take (txSize N), s.length ≠ 64 then (Tx.zero, 11)
    else if be 4 (crcOf (cut s0 4 10 ++ bodyOf (s0 :: tl) (txSize N))) ≠ cut s0 16 4 then (Tx.zero, 15)
    else if (parse (s0 :: tl) N).write = ((s0 :: tl).take (txSize N), 0) then (parse (s0 :: tl) N, 0) else (Tx.zero, 14) := by
  subst hN
  unfold txRead
  rw [if_neg (by simp)]
  rfl
set_option maxRecDepth 100000 in
set_option maxHeartbeats 4000000 in
theorem tx_read_n (l : List (List UInt8)) (A : Option Addr) (c : Nat) (w : World) (hA : Cells w A (strCells l)) (hl : l.length ≤ 1000000) (hlc : l.length ≤ c) (hcm : c ≤ maxLen) (hs : ∀ s ∈ l, s.length ≤ maxLen) :
    Calls Tryz.prog 155 #[.slice A l.length c] w fun e w' => RetTxN (w.heap.size + 1) (txRead l) e w' ∧ Below w.heap.size w w' := by
  have hb := (Below.refl w.heap.size w).alloc (Nat.le_refl _) (.cells #[.int .u64 0, .slice none 0 0, .slice none 0 0] 92)
  have r0 := Blk.new w 92 #[.int .u64 0, .slice none 0 0, .slice none 0 0]
  have k0 := blk3 r0
  have rf0 := r0.frozen
  have hcm' := hcm
  unfold maxLen at hcm'
  cases l with
  | nil =>
    have Hw := hid (show txRead [] = (Tx.zero, 22) by unfold txRead; rw [if_pos rfl])
    go_enter Tryz.func155, Tryz.ntmps155
    go_wp2_with fail
    refine bodyPost_ret (v := .tuple #[(.agg #[.int .u64 0, .slice none 0 0, .slice none 0 0]), .int .i64 22]) (by simp [results, Tryz.results155, go_sem]) rfl ?_
    exact ⟨retTx_zero _ _ Hw.out, hb⟩
  | cons s0 tl =>
    obtain ⟨pb, po, hpa, hcell⟩ := hA.str (i := 0) (by simp)
    subst hpa
    have hpb := lt_of_cell (hcell 0 (by simp))
    have Hcell := hid (fun W (hW : Below w.heap.size w W) j (hj : j < (s0 :: tl).length) => cell_below hW (hcell j hj))
    have x00 := Hcell.out _ hb 0 (by simp)
    have hs0 := hs s0 List.mem_cons_self
    have hcnt := fun W => tx_count s0 hs0 W
    have hn24 := hcount_le s0
    have hszc := fun W => tx_size (hcount s0) (by unfold okI; omega) W
    simp only [txSizeI_nat] at hszc
    simp only [List.getElem_cons_zero] at x00
    have hll : ((s0 :: tl : List (List UInt8)).length : Int) = (tl.length : Int) + 1 := by simp
    have hle : ((s0 :: tl : List (List UInt8)).length) = tl.length + 1 := rfl
    have Hsz := hid (show ∀ n, n ≤ 24 → txSize n ≤ 27 ∧ (n ≠ 0 → n + 2 ≤ txSize n) from fun n h => by unfold txSize; split <;> omega)
    have Hread := hid (@txRead_cons s0 tl _ rfl)
    generalize hcount s0 = N at *
    obtain ⟨z1, z2⟩ := Hsz.out N hn24
    by_cases h1 : N = 0
    · subst h1
      have Hw := hid (show txRead (s0 :: tl) = (Tx.zero, 14) by rw [Hread.out, if_pos rfl])
      clear Hread
      go_enter Tryz.func155, Tryz.ntmps155
      go_wp2_with fail
      go_at_call 198
      refine (hcnt _).mono ?_
      rintro e w1 ⟨rfl, hb1⟩
      have r1 := r0.below hb1 r0.lt
      have b1 := bt hb hb1
      have rf1 := r1.frozen
      clear k0 rf0 x00
      go_wp2_with fail
      go_at_call 95
      refine (hszc _).mono ?_
      rintro e w2 ⟨rfl, hb2⟩
      have r2 := r1.below hb2 r1.lt
      have b2 := bt b1 hb2
      have rf2 := r2.frozen
      have k2 := blk3 r2
      have yy := blk3 (blk_set3 r2 (.int .u64 0) (.slice none 0 0) (.slice none 0 0))
      go_wp2_with fail
      refine bodyPost_ret (v := .tuple #[(.agg #[.int .u64 0, .slice none 0 0, .slice none 0 0]), .int .i64 14]) (by simp [results, Tryz.results155, go_sem, yy]) rfl ?_
      exact ⟨retTx_zero _ _ Hw.out, below_set3 b2 (Nat.le_refl _) _ _ _⟩
    have g1 : ((N : Int) == 0) = false := by rw [beq_eq_false_iff_ne]; omega
    by_cases h2 : (s0 :: tl).length < txSize N
    · have Hw := hid (show txRead (s0 :: tl) = (Tx.zero, 22) by rw [Hread.out, if_neg h1, if_pos h2])
      have g2 := h2
      have g2' : decide ((tl.length : Int) + 1 < (txSize N : Int)) = true := by rw [decide_eq_true_iff]; omega
      clear Hread
      go_enter Tryz.func155, Tryz.ntmps155
      go_wp2_with fail
      go_at_call 198
      refine (hcnt _).mono ?_
      rintro e w1 ⟨rfl, hb1⟩
      have r1 := r0.below hb1 r0.lt
      have b1 := bt hb hb1
      clear k0 rf0 x00
      go_wp2_with fail
      go_at_call 95
      refine (hszc _).mono ?_
      rintro e w2 ⟨rfl, hb2⟩
      have r2 := r1.below hb2 r1.lt
      have b2 := bt b1 hb2
      have rf2 := r2.frozen
      have k2 := blk3 r2
      have yy := blk3 (blk_set3 r2 (.int .u64 0) (.slice none 0 0) (.slice none 0 0))
      go_wp2_with fail
      refine bodyPost_ret (v := .tuple #[(.agg #[.int .u64 0, .slice none 0 0, .slice none 0 0]), .int .i64 22]) (by simp [results, Tryz.results155, go_sem, yy]) rfl ?_
      exact ⟨retTx_zero _ _ Hw.out, below_set3 b2 (Nat.le_refl _) _ _ _⟩
    have h2' : txSize N ≤ tl.length + 1 := by omega
    have hcN : txSize N ≤ c := by simp only [List.length_cons] at hlc; omega
    have g2 : ¬ ((tl.length : Int) + 1 < (txSize N : Int)) := by omega
    have g2' : decide ((tl.length : Int) + 1 < (txSize N : Int)) = false := by rw [decide_eq_false_iff_not]; exact g2
    obtain ⟨T, hT⟩ : ∃ T, (s0 :: tl).take (txSize N) = T := ⟨_, rfl⟩
    have hTl : T.length = txSize N := by rw [← hT, List.length_take]; omega
    have HT := hid (fun W (hW : Below w.heap.size w W) => show Cells W (some ⟨pb, po, none⟩) (strCells T) by
      have := (hA.below (w' := W) hW).take (txSize N)
      rwa [show (strCells (s0 :: tl)).take (txSize N) = strCells T by rw [← hT]; simp [strCells]] at this)
    have hTs : ∀ s ∈ T, s.length ≤ maxLen := fun s h => hs s (List.mem_of_mem_take (hT ▸ h))
    have hcon := fun W hW => tx_containsFunc (some ⟨pb, po, none⟩) T c W (HT.out W hW) (by omega) hTs
    rw [hTl] at hcon
    go_enter Tryz.func155, Tryz.ntmps155
    go_wp2_with fail
    go_at_call 198
    refine (hcnt _).mono ?_
    rintro e w1 ⟨rfl, hb1⟩
    have r1 := r0.below hb1 r0.lt
    have b1 := bt hb hb1
    clear k0 rf0 x00
    go_wp2_with fail
    go_at_call 95
    refine (hszc _).mono ?_
    rintro e w2 ⟨rfl, hb2⟩
    have r2 := r1.below hb2 r1.lt
    have b2 := bt b1 hb2
    clear hszc hcnt
    go_wp2_with fail
    go_at_call 199
    refine (hcon _ b2).mono ?_
    rintro e w3 ⟨rfl, rfl⟩
    have h64i : (∃ s ∈ (s0 :: tl).take (txSize N), s.length ≠ 64) ↔ T.any wrongSize = true := by rw [hT, any_wrong]
    cases h3 : T.any wrongSize with
    | true =>
      have Hw := hid (show txRead (s0 :: tl) = (Tx.zero, 11) by rw [Hread.out, if_neg h1, if_neg (by simp only [List.length_cons]; omega), if_pos (h64i.2 h3)])
      have rf2 := r2.frozen
      have k2 := blk3 r2
      have yy := blk3 (blk_set3 r2 (.int .u64 0) (.slice none 0 0) (.slice none 0 0))
      go_wp2_with fail
      refine bodyPost_ret (v := .tuple #[(.agg #[.int .u64 0, .slice none 0 0, .slice none 0 0]), .int .i64 11]) (by simp [results, Tryz.results155, go_sem, yy]) rfl ?_
      exact ⟨retTx_zero _ _ Hw.out, below_set3 b2 (Nat.le_refl _) _ _ _⟩
    | false =>
      have hno : ¬ ∃ s ∈ (s0 :: tl).take (txSize N), s.length ≠ 64 := by rw [h64i, h3]; simp
      have hT64 : ∀ s ∈ T, s.length = 64 := fun s hs' => by
        by_cases e : s.length = 64
        · exact e
        · exact absurd ⟨s, hT ▸ hs', e⟩ hno
      have hbody : bodyOf (s0 :: tl) (txSize N) = (T.drop 1).flatten := by unfold bodyOf; rw [hT]
      have hfl : (T.drop 1).flatten.length = 64 * (txSize N - 1) := by
        have : ∀ X : List (List UInt8), (∀ s ∈ X, s.length = 64) → X.flatten.length = 64 * X.length := by
          intro X
          induction X with
          | nil => intro _; rfl
          | cons x X ih => intro h; rw [List.flatten_cons, List.length_append, ih (fun s hs => h s (List.mem_cons_of_mem _ hs)), h x List.mem_cons_self, List.length_cons]; omega
        rw [this _ (fun s hs => hT64 s (List.mem_of_mem_drop hs)), List.length_drop, hTl]
      have HD := hid (fun W (hW : Below w.heap.size w W) => show Cells W (some ⟨pb, po + 1, none⟩) (strCells (T.drop 1)) by
        rcases HT.out W hW with h | ⟨b, o, e, h⟩
        · have := congrArg List.length h; rw [strCells_length, hTl] at this; simp at this; omega
        · injection e with e
          injection e with e1 e2
          subst e1; subst e2
          refine .inr ⟨_, _, rfl, fun j u hu => ?_⟩
          have := h (1 + j) u (by rw [← hu, Nat.add_comm]; simp [strCells])
          rwa [Nat.add_assoc])
      have hdl : (T.drop 1).length = txSize N - 1 := by rw [List.length_drop, hTl]
      have hjn := fun W hW => join_any (some ⟨pb, po + 1, none⟩) (T.drop 1) (c - 1) W (HD.out W hW) (by omega) (by omega) (by rw [hfl]; omega)
      rw [hdl] at hjn
      obtain ⟨B, hB⟩ : ∃ B, (T.drop 1).flatten = B := ⟨_, rfl⟩
      rw [hB] at hjn hbody hfl
      have hc1 : ¬ c = 1 := by have := z2 h1; simp only [List.length_cons] at hlc; omega
      have hc2 : ¬ c - 1 = 0 := by have := z2 h1; simp only [List.length_cons] at hlc; omega
      have hc3 : ¬ c ≤ 1 := by omega
      clear hcon
      go_wp2_with fail
      go_at_call 201
      refine (hjn _ b2).mono ?_
      rintro e w4 ⟨rfl, hb4⟩
      have r4 := r2.below hb4 r2.lt
      have b4 := bt b2 hb4
      have hs64 : s0.length = 64 := hT64 s0 (by
        rw [← hT]
        obtain ⟨m, hm⟩ : ∃ m, txSize N = m + 1 := ⟨txSize N - 1, by have := z2 h1; omega⟩
        rw [hm, List.take_succ_cons]
        exact List.mem_cons_self)
      have hc4 : cut s0 4 10 = (s0.take 14).drop 4 := by rw [cut, List.drop_take]
      have hc16 : cut s0 16 4 = (s0.take 20).drop 16 := by rw [cut, List.drop_take]
      have hl4 : (cut s0 4 10).length = 10 := cut_length (by omega)
      have X0 : ∀ e : Ext w4, e.world.cell? ⟨pb, po, none⟩ = some (.string (bs s0)) := fun e => e.cell (Hcell.out _ b4 0 (by simp))
      have D1 := fun e : Ext w4 => crc_of (cut s0 4 10) (by omega) e.world
      have hcl1 : crcOf (cut s0 4 10) < 4294967296 := crcMore_lt _ _
      have D2 := fun e : Ext w4 => crc_more (crcOf (cut s0 4 10)) hcl1 B (by omega) e.world
      have hsm : crcMore (crcOf (cut s0 4 10)) B = crcOf (cut s0 4 10 ++ bodyOf (s0 :: tl) (txSize N)) := by rw [hbody]; exact crcMore_append (by omega) _ _
      rw [hsm] at D2
      have hcl : crcOf (cut s0 4 10 ++ bodyOf (s0 :: tl) (txSize N)) < 4294967296 := crcMore_lt _ _
      have Hsum := hid (Iff.refl (be 4 (crcOf (cut s0 4 10 ++ bodyOf (s0 :: tl) (txSize N))) ≠ cut s0 16 4))
      have hdcs := hid (show ∀ cs, cs = crcOf (cut s0 4 10 ++ bodyOf (s0 :: tl) (txSize N)) → crcOf (cut s0 4 10 ++ bodyOf (s0 :: tl) (txSize N)) = cs from fun cs h => h.symm)
      obtain ⟨cs, hcs⟩ : ∃ cs, cs = crcOf (cut s0 4 10 ++ bodyOf (s0 :: tl) (txSize N)) := ⟨_, rfl⟩
      rw [← hcs] at D2 hcl
      have Hcs := hid hcs
      have D3 := fun e : Ext w4 => crc_bytes cs hcl e.world
      rw [hc4] at D1 D2 hl4
      clear hcs hsm hc4 hdcs Hsum
      obtain ⟨h4, eh4⟩ : ∃ h, (s0.take 14).drop 4 = h := ⟨_, rfl⟩
      rw [eh4] at D1 D2 hl4
      obtain ⟨h16, eh16⟩ : ∃ h, (s0.take 20).drop 16 = h := ⟨_, rfl⟩
      rw [eh16] at hc16
      generalize crcOf h4 = cs1 at *
      have e14 : ¬ s0.length < 14 := by omega
      have e20 : ¬ s0.length < 20 := by omega
      have hsumI : be 4 (crcOf (cut s0 4 10 ++ bodyOf (s0 :: tl) (txSize N))) ≠ cut s0 16 4 ↔ be 4 cs ≠ h16 := by rw [Hcs.out, hc16]
      have g2o : ¬ (s0 :: tl).length < txSize N := by simp only [List.length_cons]; omega
      by_cases hq : be 4 cs = h16
      rotate_left
      · have Hw := hid (show txRead (s0 :: tl) = (Tx.zero, 15) by rw [Hread.out, if_neg h1, if_neg g2o, if_neg hno, if_pos (hsumI.2 hq)])
        have f1 : (be 4 cs == h16) = false := by simpa using hq
        clear hq
        go_wp2_with fail
        refine wp_region_ext mixed (by kernel_rfl) ?_
        repeat (go_big_quiet_step ((first | (go_at_call 135; with_reducible exact ext_of (D1 _)) | (go_at_call 137; with_reducible exact ext_of (D2 _)) | (go_at_call 139; with_reducible exact ext_of (D3 _)))))
        refine wpQuiet_nil ?_
        rintro w5 ⟨pq_, hpq_⟩
        have hb5 := pq_.below
        rw [← hpq_] at hb5
        clear hpq_ pq_
        have r5 := r4.below hb5 r4.lt
        have b5 := bt b4 hb5
        have rf5 := r5.frozen
        have k5 := blk3 r5
        have yy := blk3 (blk_set3 r5 (.int .u64 0) (.slice none 0 0) (.slice none 0 0))
        go_wp2_with fail
        refine bodyPost_ret (v := .tuple #[(.agg #[.int .u64 0, .slice none 0 0, .slice none 0 0]), .int .i64 15]) (by simp [results, Tryz.results155, go_sem, yy]) rfl ?_
        exact ⟨retTx_zero _ _ Hw.out, below_set3 b5 (Nat.le_refl _) _ _ _⟩
      have HnoS := hid (show ¬ (be 4 (crcOf (cut s0 4 10 ++ bodyOf (s0 :: tl) (txSize N))) ≠ cut s0 16 4) by rw [hsumI]; exact fun h => h hq)
      have f1 : (be 4 cs == h16) = true := by simpa using hq
      clear hq
      go_wp2_with fail
      refine wp_region_ext mixed (by kernel_rfl) ?_
      repeat (go_big_quiet_step ((first | (go_at_call 135; with_reducible exact ext_of (D1 _)) | (go_at_call 137; with_reducible exact ext_of (D2 _)) | (go_at_call 139; with_reducible exact ext_of (D3 _)))))
      refine wpQuiet_nil ?_
      rintro w5 ⟨pq_, hpq_⟩
      have hb5 := pq_.below
      rw [← hpq_] at hb5
      clear hpq_ pq_
      have r5 := r4.below hb5 r4.lt
      have b5 := bt b4 hb5
      have x05 : w5.cell? ⟨pb, po, none⟩ = some (.string (bs s0)) := Hcell.out _ b5 0 (by simp)
      have htk := fun W => take_ok (s0.drop 4) (by unfold maxLen; rw [List.length_drop]; omega) 8 (by omega) (by omega) (by rw [List.length_drop]; omega) W
      obtain ⟨sq, hsq⟩ : ∃ sq, un ((s0.drop 4).take (8 : Int).toNat) = sq := ⟨_, rfl⟩
      have hsql : sq < 18446744073709551616 := by rw [← hsq]; exact un_bound (s0.drop 4) 8 (by omega)
      rw [hsq] at htk
      have Hsq := hid (show un (cut s0 4 8) = sq from hsq)
      have e4t : List.drop 4 (List.take 64 s0) = s0.drop 4 := by rw [List.take_of_length_le (by omega)]
      have tb5 := Blk.new w5 92 #[.int .u64 0, .slice none 0 0, .slice none 0 0]
      have b5a := b5.alloc b5.size (.cells #[.int .u64 0, .slice none 0 0, .slice none 0 0] 92)
      have r5a := r5.alloc (.cells #[.int .u64 0, .slice none 0 0, .slice none 0 0] 92)
      have x05a := cell_below ((Below.refl w5.heap.size w5).alloc (Nat.le_refl _) (.cells #[.int .u64 0, .slice none 0 0, .slice none 0 0] 92)) x05
      clear X0 D1 D2 D3 hsq hsumI
      go_wp2_with fail
      go_at_call 173
      refine (htk _).mono ?_
      rintro e w6 ⟨rfl, hb6⟩
      have tb6 := tb5.below hb6 tb5.lt
      have tf6 := tb6.frozen
      have kt6 := blk3 tb6
      have r6 := r5a.below hb6 r5a.lt
      have b6 := bt b5a hb6
      have hg : w.heap.size < w5.heap.size := r5.lt
      have tb7 := tb6.set 0 (.int .u64 (sq : Int))
      have r7 := r6.other (a := ⟨w5.heap.size, 0, none⟩) (by simp; omega) (.int .u64 (sq : Int))
      have b7 := b6.setCell (p := ⟨w5.heap.size, 0, none⟩) (by simp; omega) (.int .u64 (sq : Int))
      have own7 : (w6.setCell ⟨w5.heap.size, 0, none⟩ (.int .u64 (sq : Int))).ownsRow w5.heap.size 3 1 (.slice none 0 0) 0 [] := World.ownsRow_nil _ _ _ _
      obtain ⟨tg, htg⟩ : ∃ tg : List Int, (List.range N).map (fun i => (un (cut B (4 * i) 4) : Int)) = tg := ⟨_, rfl⟩
      have Htg := hid htg
      have htl : tg.length = N := by rw [← htg]; simp
      have htk4 : ∀ k (hk : k < N), tg[k]'(by omega) = (un (cut B (4 * k) 4) : Int) := fun k hk => by subst htg; simp
      have Htk4 := hid htk4
      clear htg htk4 x05 tb5 b5a r5a x05a htk r5 r6 b6 e4t eh4 eh16
      go_wp2_with fail
      clear kt6
      generalize w6.setCell ⟨w5.heap.size, 0, none⟩ (.int .u64 (sq : Int)) = w7 at *
      obtain ⟨i0, hi, iz0, iz1, iz2⟩ := info_parts Tryz.infoIntP
      go_loopw [68] (fun x W => ∃ k : Nat, k ≤ N ∧ x = .int .i64 k ∧ ∃ v, Blk W w5.heap.size 92 #[.int .u64 sq, v, .slice none 0 0] ∧ W.ownsRow w5.heap.size 3 1 v k (intCells (tg.take k)) ∧ Blk W w.heap.size 92 #[.int .u64 0, .slice none 0 0, .slice none 0 0] ∧ Below w.heap.size w W) (fun x _ => N - (intOf x).toNat)
      case atStart => exact ⟨0, Nat.zero_le _, rfl, _, by simpa using tb7, own7, r7, b7⟩
      case round =>
        obtain ⟨k, hk, rfl, v, tb, own, rb, bb⟩ := hrel
        clear tb7 own7 r7 b7 tf6 tb6
        have hBl : 4 * k + 4 ≤ B.length ∨ ¬ k < N := by have := z2 h1; omega
        by_cases hlt : k < N
        · have hBl : 4 * k + 4 ≤ B.length := by omega
          have htk := fun W => take_ok (B.drop (4 * k)) (by unfold maxLen; rw [List.length_drop]; omega) 4 (by omega) (by omega) (by rw [List.length_drop]; omega) W
          have Hn := hid (show ((un ((B.drop (4 * k)).take (4 : Int).toNat) : Nat) : Int) = tg[k]'(by omega) from (Htk4.out k hlt).symm)
          have hul : un ((B.drop (4 * k)).take (4 : Int).toNat) < 4294967296 := un_bound (B.drop (4 * k)) 4 (by omega)
          have Hmap := hid (show intCells (tg.take k) ++ [Value.int .i64 (tg[k]'(by omega))] = intCells (tg.take (k + 1)) by rw [List.take_succ_eq_append_getElem (by omega), intCells_snoc])
          generalize un ((B.drop (4 * k)).take (4 : Int).toNat) = at_ at *
          have hat := i64w (x := (at_ : Int)) ⟨by omega, by omega⟩
          have e4 : List.drop (4 * k) (List.take (64 * (txSize N - 1)) B) = B.drop (4 * k) := by rw [List.take_of_length_le (by omega)]
          have hgk : ¬ ((64 * (txSize N - 1) : Nat) : Int) < 4 * (k : Int) := by omega
          rw [← Hn.out] at Hmap
          go_wp2_with fail
          go_at_call 173
          refine (htk _).mono ?_
          rintro e w8 ⟨rfl, hb8⟩
          have tb8 := tb.below hb8 tb.lt
          have rb8 := rb.below hb8 rb.lt
          have own8 := own_later own hb8
          have bb8 := bt bb hb8
          have tf8 := tb8.frozen
          have kt8 := blk3 tb8
          have tbA := tb8.alloc (.cells #[.int .i64 (at_ : Int)] 3)
          have rbA := rb8.alloc (.cells #[.int .i64 (at_ : Int)] 3)
          have ownA := own8.alloc (.cells #[.int .i64 (at_ : Int)] 3)
          have bbA := bb8.alloc bb8.size (.cells #[.int .i64 (at_ : Int)] 3)
          go_wp2_with (at_builtin; refine wpList_append_own _ rfl _ _ 23 rfl w5.heap.size 3 i0 (.int .i64 0) 1 8 Tryz.underlying23 hi iz0 iz1 iz2 rfl (by decide) v k (intCells (tg.take k)) rfl ownA ⟨w8.heap.size, 0, none⟩ 1 1 [.int .i64 (at_ : Int)] rfl rfl (World.news_of_block (Blk.new w8 3 #[.int .i64 (at_ : Int)])) (by simp [Value.oneCell']) (by unfold maxLen; omega) (by omega) (Nat.le_of_lt tbA.lt) ?_; intro v9 w9 own9 gr9 _; obtain ⟨A9, c9, rfl, -⟩ := own_slice own9; have tb9 := tbA.kept gr9 (own_box ownA tbA (by decide)); have rb9 := rbA.kept gr9 (own_box ownA rbA (by decide)); have bb9 := bbA.trans ((grown_below ownA gr9 (Nat.le_of_lt tbA.lt)).mono (Nat.le_of_lt hg)); have tf9 := tb9.frozen; have kt9 := blk3 tb9)
          go_roundw
          case rel => exact ⟨k + 1, by omega, by go_num, .slice A9 (k + 1) c9, by simpa using tb9.set 1 (.slice A9 (k + 1) c9), by rw [← Hmap.out]; exact ownsRow_setCell_other own9 (a := ⟨w5.heap.size, 1, none⟩) (own_box own9 tb9 (by decide)).symm _, rb9.other (a := ⟨w5.heap.size, 1, none⟩) (by simp; omega) _, bb9.setCell (p := ⟨w5.heap.size, 1, none⟩) (by simp; omega) _⟩
          case measure => simp [intOf]; omega
        · obtain rfl : N = k := by omega
          have hfull : tg.take tg.length = tg := List.take_length
          rw [htl] at hfull
          rw [hfull] at own
          have z3 := z2 h1
          obtain ⟨hc5, hc6, hc7, hsub⟩ := cut_caps c (txSize N) N hcN z3 h1
          obtain ⟨DT, hDT⟩ : ∃ DT, T.drop (txSize N - N) = DT := ⟨_, rfl⟩
          have hDl : DT.length = N := by rw [← hDT, List.length_drop, hTl]; exact hsub
          have hDc : ∀ W, Below w.heap.size w W → Cells W (some ⟨pb, po + (txSize N - N), none⟩) (strCells DT) := fun W hW => by
            rcases HT.out W hW with h | ⟨b, o, e, h⟩
            · have := congrArg List.length h; rw [strCells_length, hTl] at this; simp at this; omega
            · injection e with e
              injection e with e1 e2
              subst e1; subst e2
              refine .inr ⟨_, _, rfl, fun j u hu => ?_⟩
              have := h (txSize N - N + j) u (by rw [← hu, ← hDT]; simp [strCells, List.getElem?_drop])
              rwa [Nat.add_assoc]
          have hcl := fun W hW => clone_strs (some ⟨pb, po + (txSize N - N), none⟩) DT (c - (txSize N - N)) W (hDc W hW) (Nat.le_trans (Nat.le_of_eq hDl) (Nat.le_trans hn24 (by decide))) (fun h => by cases h)
          simp only [hDl] at hcl
          have tf := tb.frozen
          have kt := blk3 tb
          go_wp2_with fail
          go_at_call 202
          refine (hcl _ bb).mono ?_
          rintro e w8 ⟨v8, rfl, own8, hb8⟩
          obtain ⟨A8, c8, rfl, u1, u2, u3⟩ := own_slice own8
          obtain ⟨AT, cT, rfl, v1, v2, v3⟩ := own_slice own
          have tb8 := tb.below hb8 tb.lt
          have rb8 := rb.below hb8 rb.lt
          have ownT := own_later own hb8
          have bb8 := bt bb hb8
          have tf8 := tb8.frozen
          have kt8 := blk3 tb8
          clear kt tf
          have own89 := ownsRow_setCell_other own8 (a := ⟨w5.heap.size, 2, none⟩) (own_box own8 tb8 (by decide)).symm (.slice A8 N c8)
          have ownT9 := ownsRow_setCell_other ownT (a := ⟨w5.heap.size, 2, none⟩) (own_box ownT tb8 (by decide)).symm (.slice A8 N c8)
          have Hr2 := hid (show Rows2 (w.heap.size + 1) ⟨tg, DT⟩ ⟨AT, cT⟩ ⟨A8, c8⟩ (w8.setCell ⟨w5.heap.size, 2, none⟩ (.slice A8 N c8)) from ⟨by show World.ownsRow _ _ _ _ (.slice AT tg.length cT) tg.length _; rw [htl]; exact own_base ownT9 (by omega), by show World.ownsRow _ _ _ _ (.slice A8 DT.length c8) DT.length _; rw [hDl]; exact own_base own89 (by have := tb.lt; omega)⟩)
          have tb9 := tb8.set 2 (.slice A8 N c8)
          have tb9 : Blk (w8.setCell ⟨w5.heap.size, 2, none⟩ (.slice A8 N c8)) w5.heap.size 92 #[.int .u64 sq, .slice AT N cT, .slice A8 N c8] := by simpa using tb9
          have rb9 := rb8.other (a := ⟨w5.heap.size, 2, none⟩) (by simp; omega) (.slice A8 N c8)
          have bb9 := bb8.setCell (p := ⟨w5.heap.size, 2, none⟩) (by simp; omega) (.slice A8 N c8)
          have hParse := hid (show parse (s0 :: tl) N = ⟨sq, ⟨tg, DT⟩⟩ by
            unfold parse
            rw [hT, hDT, hbody, Htg.out, List.headD_cons, Hsq.out])
          have hpn : IsPn (w8.setCell ⟨w5.heap.size, 2, none⟩ (.slice A8 N c8)) ⟨tg, DT⟩ ⟨AT, cT⟩ ⟨A8, c8⟩ :=
            { targets := Cells.of_own ownT9, data := Cells.of_own own89, pn := v3, qn := u3, pc := by rw [htl]; exact v1, qc := by rw [hDl]; exact u1, pm := v2, qm := u2
              ats := fun x hx => by
                obtain ⟨j, hj, rfl⟩ := List.getElem_of_mem hx
                have hjN : j < N := by rw [← htl]; exact hj
                have := un_bound (B.drop (4 * j)) 4 (by omega)
                rw [Htk4.out j hjN, cut]
                omega
              strs := fun x hx => by
                have := hTs x (List.mem_of_mem_drop (hDT ▸ hx))
                unfold maxLen at this
                omega }
          have hwr := tx_write ⟨sq, ⟨tg, DT⟩⟩ ⟨AT, cT⟩ ⟨A8, c8⟩ _ hpn hsql
          simp only [tval, htl, hDl] at hwr
          have Hpn := hid hpn
          have kt9 := blk3 tb9
          clear hcl hDc hjn own8 ownT tb8 rb8 bb8 hpn
          go_wp2_with fail
          clear kt8 tf8
          generalize w8.setCell ⟨w5.heap.size, 2, none⟩ (.slice A8 N c8) = w9 at *
          go_at_call 76
          refine hwr.mono ?_
          rintro e wa ⟨⟨vr, rfl, ownR⟩, hba⟩
          obtain ⟨AR, cR, rfl, y1, y2, y3⟩ := own_slice ownR
          have tba := tb9.below hba tb9.lt
          have rba := rb9.below hba rb9.lt
          have bba := bt bb9 hba
          have kta := blk3 tba
          have hpna := Hpn.out.below hba
          have Hr2a := hid (Hr2.out.below hba)
          clear kt9 hwr Hpn Hr2
          by_cases hok : (⟨sq, ⟨tg, DT⟩⟩ : Tx).Ok
          · have hW : (⟨sq, ⟨tg, DT⟩⟩ : Tx).write = ((⟨sq, ⟨tg, DT⟩⟩ : Tx).rows, 0) := by unfold Tx.write; rw [if_pos hok]
            rw [hW] at ownR
            simp only [hW]
            have heq := strs_equal AR (some ⟨pb, po, none⟩) cR c (⟨sq, ⟨tg, DT⟩⟩ : Tx).rows T wa (Cells.of_own ownR) (HT.out _ bba) (by
              have := Tx.rows_length hok
              rw [this]
              have : txSize (⟨sq, ⟨tg, DT⟩⟩ : Tx).plan.targets.length ≤ 27 := by show txSize tg.length ≤ 27; rw [htl]; exact z1
              omega)
            rw [hTl] at heq
            by_cases hEq : (⟨sq, ⟨tg, DT⟩⟩ : Tx).rows = T
            · have Hw := hid (show txRead (s0 :: tl) = (⟨sq, ⟨tg, DT⟩⟩, 0) by
                rw [Hread.out, if_neg h1, if_neg g2o, if_neg hno, if_neg HnoS.out, hParse.out, hW, hT, hEq, if_pos rfl])
              rw [decide_eq_true hEq] at heq
              generalize (⟨sq, ⟨tg, DT⟩⟩ : Tx).rows.length = rl at *
              go_wp2_with fail
              go_at_call 203
              refine heq.mono ?_
              rintro e wb ⟨rfl, hbb⟩
              have tbb := tba.below hbb tba.lt
              have rbb := rba.below hbb rba.lt
              have bbb := bt bba hbb
              have ktb := blk3 tbb
              have rfb := rbb.frozen
              have krb := blk3 rbb
              have yy := blk3 (blk_set3 rbb (.int .u64 (sq : Int)) (.slice AT N cT) (.slice A8 N c8))
              clear kta
              go_wp2_with fail
              refine bodyPost_ret (v := .tuple #[(.agg #[.int .u64 (sq : Int), .slice AT N cT, .slice A8 N c8]), .int .i64 0]) (by simp [results, Tryz.results155, go_sem, yy]) rfl ?_
              refine ⟨⟨⟨AT, cT⟩, ⟨A8, c8⟩, ?_, ?_, ?_⟩, below_set3 bbb (Nat.le_refl _) _ _ _⟩
              · rw [Hw.out]; simp only [tval, htl, hDl]
              · rw [Hw.out]
                have hpb := hpna.below hbb
                have ho := Hr2a.out.off (Nat.lt_succ_self w.heap.size)
                exact ((hpb.off (a := ⟨w.heap.size, 0, none⟩) ho _).off (a := ⟨w.heap.size, 1, none⟩) ho _).off (a := ⟨w.heap.size, 2, none⟩) ho _
              · rw [Hw.out]
                exact (Hr2a.out.below hbb).set3 (Nat.lt_succ_self _) _ _ _
            · have Hw := hid (show txRead (s0 :: tl) = (Tx.zero, 14) by
                rw [Hread.out, if_neg h1, if_neg g2o, if_neg hno, if_neg HnoS.out, hParse.out, hW, hT, if_neg (fun h => hEq (Prod.mk.inj h).1)])
              rw [decide_eq_false hEq] at heq
              generalize (⟨sq, ⟨tg, DT⟩⟩ : Tx).rows.length = rl at *
              go_wp2_with fail
              go_at_call 203
              refine heq.mono ?_
              rintro e wb ⟨rfl, hbb⟩
              have rbb := rba.below hbb rba.lt
              have bbb := bt bba hbb
              have rfb := rbb.frozen
              have krb := blk3 rbb
              have yy := blk3 (blk_set3 rbb (.int .u64 0) (.slice none 0 0) (.slice none 0 0))
              clear kta
              go_wp2_with fail
              refine bodyPost_ret (v := .tuple #[(.agg #[.int .u64 0, .slice none 0 0, .slice none 0 0]), .int .i64 14]) (by simp [results, Tryz.results155, go_sem, yy]) rfl ?_
              exact ⟨retTx_zero _ _ Hw.out, below_set3 bbb (Nat.le_refl _) _ _ _⟩
          · have hW : (⟨sq, ⟨tg, DT⟩⟩ : Tx).write = ([], 25) := by unfold Tx.write; rw [if_neg hok]
            have Hw := hid (show txRead (s0 :: tl) = (Tx.zero, 14) by
              rw [Hread.out, if_neg h1, if_neg g2o, if_neg hno, if_neg HnoS.out, hParse.out, hW, if_neg (fun h => by have := (Prod.mk.inj h).2; simp at this)])
            simp only [hW]
            have rfa := rba.frozen
            have kra := blk3 rba
            have yy := blk3 (blk_set3 rba (.int .u64 0) (.slice none 0 0) (.slice none 0 0))
            go_wp2_with fail
            refine bodyPost_ret (v := .tuple #[(.agg #[.int .u64 0, .slice none 0 0, .slice none 0 0]), .int .i64 14]) (by simp [results, Tryz.results155, go_sem, yy]) rfl ?_
            exact ⟨retTx_zero _ _ Hw.out, below_set3 bba (Nat.le_refl _) _ _ _⟩
end Go.Proofs.YtplgmlcoeehnfaaGreat
