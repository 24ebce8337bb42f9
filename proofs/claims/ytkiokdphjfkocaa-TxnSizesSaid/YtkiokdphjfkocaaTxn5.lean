/- Package txn: reading sectors as a transaction: its parts. -/
import Derived.Test.YtkiokdphjfkocaaTxn4
set_option linter.unusedVariables false
namespace Go.Proofs.Ytkiokdphjfkocaa
open Go.RowKit Go.Shelf
attribute [local go_sem] bs_mk bs_append bs_extract bs_size bs_toList bs_get
theorem tx_write (t : Tx) (p q : Pl) (w : World) (hL : IsPn w t.plan p q) (hs : t.seq < 18446744073709551616) :
    Calls Try.prog 10 #[tval t p q] w fun e w' => RetRows w 9 t.write e w' ∧ Below w.heap.size w w' := by
  by_cases h : t.Ok
  · exact tx_write_yes t p q w hL hs h
  · exact tx_write_no t p q w hL h
theorem blk3 {w : World} {g : Nat} {t : TypeId} {a b c : Value} (h : Blk w g t #[a, b, c]) : w.cell? ⟨g, 0, none⟩ = some a ∧ w.cell? ⟨g, 1, none⟩ = some b ∧ w.cell? ⟨g, 2, none⟩ = some c := ⟨h.cell 0, h.cell 1, h.cell 2⟩
theorem blk_set3 {w : World} {g : Nat} {t : TypeId} {a b c : Value} (h : Blk w g t #[a, b, c]) (v0 v1 v2 : Value) :
    Blk (((w.setCell ⟨g, 0, none⟩ v0).setCell ⟨g, 1, none⟩ v1).setCell ⟨g, 2, none⟩ v2) g t #[v0, v1, v2] := by
  have := ((h.set 0 v0).set 1 v1).set 2 v2
  simpa using this
theorem below_set3 {B : Nat} {w0 w : World} {g : Nat} (h : Below B w0 w) (hg : B ≤ g) (v0 v1 v2 : Value) :
    Below B w0 (((w.setCell ⟨g, 0, none⟩ v0).setCell ⟨g, 1, none⟩ v1).setCell ⟨g, 2, none⟩ v2) :=
  ((h.setCell (p := ⟨g, 0, none⟩) hg v0).setCell (p := ⟨g, 1, none⟩) hg v1).setCell (p := ⟨g, 2, none⟩) hg v2
/-- The call hands back a transaction and a number. -/
def RetTx (X : Tx × Int) (e : Ending) (w : World) : Prop := ∃ p q, e = .returned (.tuple #[tval X.1 p q, .int .i64 X.2]) ∧ IsPn w X.1.plan p q
/-- Is a sector of another size? -/
def wrongSize (s : List UInt8) : Bool := s.length != 64
theorem tx_pred (s : List UInt8) (hs : s.length ≤ maxLen) (w : World) : Calls Try.prog 36 #[.string (bs s)] w fun e w' => e = .returned (.bool (wrongSize s)) ∧ w' = w := by
  unfold maxLen at hs
  have Hw := hid (show wrongSize s = ((s.length : Int) != 64) by
    unfold wrongSize
    rw [Bool.eq_iff_iff]
    simp only [bne_iff_ne]
    omega)
  go_enter Try.func36, Try.ntmps36
  go_wp2_with fail
  go_ret
  exact ⟨by rw [Hw.out]; rfl, rfl⟩
set_option maxRecDepth 100000 in
theorem tx_indexFunc (A : Option Addr) (l : List (List UInt8)) (c : Nat) (w : World) (hA : Cells w A (strCells l)) (hl : l.length ≤ 1000000) (hs : ∀ s ∈ l, s.length ≤ maxLen) :
    Calls Try.prog 57 #[.slice A l.length c, .func (.func 36) #[] #[]] w fun e w' => (∃ n : Int, e = .returned (.int .i64 n) ∧ (0 ≤ n) = (l.any wrongSize = true)) ∧ w' = w := by
  have Hs := hid (fun i (hi : i < l.length) => hs _ (List.getElem_mem hi))
  clear hs
  go_enter Try.func57, Try.ntmps57
  go_wp2_with fail
  go_loopw [8] (fun x W => ∃ i : Nat, i ≤ l.length ∧ x = .int .i64 i ∧ Hid (∀ j (hj : j < l.length), j < i → wrongSize l[j] = false) ∧ W = w) (fun x _ => l.length - (intOf x).toNat)
  case atStart => exact ⟨0, Nat.zero_le _, rfl, hid (fun j hj h0 => by omega), rfl⟩
  case round =>
    obtain ⟨i, hi, rfl, hok, rfl⟩ := hrel
    by_cases hlt : i < l.length
    · obtain ⟨pb, po, hpa, hcell⟩ := hA.str hlt
      subst hpa
      have x0 := hcell i hlt
      have hcl1 := tx_pred l[i] (Hs.out i hlt) wr
      cases hp : wrongSize l[i] with
      | false =>
        rw [hp] at hcl1
        have Hp := hid hp; clear hp
        go_wp2_with fail
        go_at_call 36
        refine hcl1.mono ?_
        rintro e w2 ⟨rfl, rfl⟩
        go_wp2_with fail
        go_roundw
        case rel => exact ⟨i + 1, by omega, by go_num, hid (fun j hj hji => by
          rcases Nat.lt_or_ge j i with h' | h'
          · exact hok.out j hj h'
          · obtain rfl : j = i := by omega
            exact Hp.out), trivial⟩
        case measure => simp [intOf]; omega
      | true =>
        rw [hp] at hcl1
        have Hp := hid (show l.any wrongSize = true by rw [List.any_eq_true]; exact ⟨_, List.getElem_mem hlt, hp⟩)
        clear hp
        go_wp2_with fail
        go_at_call 36
        refine hcl1.mono ?_
        rintro e w2 ⟨rfl, rfl⟩
        go_wp2_with fail
        go_ret
        exact ⟨⟨(i : Int), rfl, by rw [Hp.out]; simp⟩, rfl⟩
    · have Hp := hid (show l.any wrongSize = false by
        rw [List.any_eq_false]; intro x hx; obtain ⟨j, hj, rfl⟩ := List.getElem_of_mem hx; simp [hok.out j hj (by omega)])
      clear hok
      go_wp2_with fail
      go_ret
      exact ⟨⟨-1, rfl, by rw [Hp.out]; simp⟩, rfl⟩
theorem tx_containsFunc (A : Option Addr) (l : List (List UInt8)) (c : Nat) (w : World) (hA : Cells w A (strCells l)) (hl : l.length ≤ 1000000) (hs : ∀ s ∈ l, s.length ≤ maxLen) :
    Calls Try.prog 35 #[.slice A l.length c, .func (.func 36) #[] #[]] w fun e w' => e = .returned (.bool (l.any wrongSize)) ∧ w' = w := by
  have hi := tx_indexFunc A l c w hA hl hs
  go_enter Try.func35, Try.ntmps35
  go_wp2_with fail
  go_at_call 57
  refine hi.mono ?_
  rintro e w2 ⟨⟨n, rfl, hn⟩, rfl⟩
  have Hn := hid (show l.any wrongSize = decide (0 ≤ n) by
    cases h : l.any wrongSize <;> rw [h] at hn <;> simp at hn ⊢ <;> omega)
  clear hn
  go_wp2_with fail
  go_ret
  exact ⟨by rw [Hn.out]; rfl, rfl⟩
theorem any_wrong {l : List (List UInt8)} : l.any wrongSize = true ↔ ∃ s ∈ l, s.length ≠ 64 := by
  rw [List.any_eq_true]
  simp only [wrongSize, bne_iff_ne]
theorem join_nil (l : List (List UInt8)) : Lib.join l [] = l.flatten := by
  induction l with
  | nil => rfl
  | cons a l ih => cases l with
    | nil => simp [Lib.join]
    | cons b l =>
      have ih : (List.intersperse [] (b :: l)).flatten = (b :: l).flatten := ih
      show (List.intersperse [] (a :: b :: l)).flatten = a ++ (b :: l).flatten
      rw [← ih]
      rfl
theorem join_any (A : Option Addr) (l : List (List UInt8)) (c : Nat) (w : World) (hA : Cells w A (strCells l)) (hl : l.length ≤ 1000000) (hlc : l.length ≤ c) (hf : l.flatten.length ≤ 100000000) :
    Calls Try.prog 37 #[.slice A l.length c, .string (bs [])] w fun e w' => e = .returned (.string (bs l.flatten)) ∧ Below w.heap.size w w' := by
  by_cases h0 : l = []
  · subst h0
    refine (Try.strings_Join_none A c (bs []) w).mono ?_
    rintro e w' ⟨rfl, rfl⟩
    exact ⟨rfl, Below.refl _ _⟩
  · have hp := List.length_pos_iff.2 h0
    obtain ⟨pb, po, hpa, hcell⟩ := hA.str hp
    subst hpa
    have e1 : (l.map bs).map (·.data.toList) = l := by rw [List.map_map]; conv => rhs; rw [← List.map_id l]
                                                       exact List.map_congr_left fun x _ => bs_list x
    have e2 : (bs []).data.toList = [] := rfl
    have := Try.strings_Join pb po c (l.map bs) (bs []) w (fun j x hj => by
      rw [List.getElem?_map] at hj
      cases hx : l[j]? with
      | none => rw [hx] at hj; cases hj
      | some y =>
        rw [hx] at hj
        injection hj with hj
        subst hj
        obtain ⟨hjl, rfl⟩ := List.getElem?_eq_some_iff.1 hx
        exact hcell j hjl) (lt_of_cell (hcell 0 hp)) (by rw [List.length_map]; omega) (by rw [List.length_map]; exact hlc) (by rw [e1, e2, join_nil]; omega)
    rw [e1, e2, join_nil, List.length_map] at this
    exact this
end Go.Proofs.Ytkiokdphjfkocaa
