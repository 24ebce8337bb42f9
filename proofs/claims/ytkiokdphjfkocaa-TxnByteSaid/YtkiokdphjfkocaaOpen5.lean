/- Arguments opened: a struct whose second field is a plan. Nothing of the program stands here. -/
import Derived.Test.YtkiokdphjfkocaaOpen
import Derived.Test.YtkiokdphjfkocaaPlanLaw
set_option linter.unusedVariables false
namespace Go.Proofs.Ytkiokdphjfkocaa
open Go.RowKit Go.Shelf Go.WideShapes Go.ChangeShapes Go.Deep Go.Joins
section
variable {H : Type} {enc : TypeId × Value → H} {P : Program} {w : World} {base : Nat} {spare : Nat → Bool} {held : Bool}
theorem open_txn {t ei es : TypeId} {f0 f1 g0 g1 : Field} {v : Value} {d : DataW H} {pp : List MemPlace} {r : Reach} {b0 : Nat}
    (hs : P.underlying t = some (.struct #[f0, f1])) (ho0 : f0.offset = 0 ∧ P.cellsOf f0.type = 1) (ho1 : f1.offset = 1 ∧ P.cellsOf f1.type = 2) (hC : P.cellsOf t = 3) (hk : P.underlying f0.type = some (.int .u64))
    (hs' : P.underlying f1.type = some (.struct #[g0, g1])) (hone : oneCellFields P #[g0, g1] = true)
    (u0 : P.underlying g0.type = some (.slice ei)) (u1 : P.underlying g1.type = some (.slice es)) (k0 : P.underlying ei = some (.int .i64)) (c0 : P.cellsOf ei = 1) (k1 : P.underlying es = some .string) (c1 : P.cellsOf es = 1)
    (hv : Value.okWide P w r b0 t v) (h : DataW.Trod enc P w base spare held t v d pp) :
    ∃ (s : Nat) (L : Pn) (p q : Pl), v = .agg #[.int .u64 s, .slice p.a L.targets.length p.c, .slice q.a L.data.length q.c] ∧ s < 18446744073709551616 ∧ IsPn w L p q := by
  obtain ⟨cs, rfl, hsz⟩ := okWide_struct hs hv
  obtain ⟨l⟩ := cs
  match l, hsz.trans hC with
  | [x0, x1, x2], _ =>
    obtain ⟨fuel, hf⟩ := h
    obtain ⟨xs, n, _, hx, _, hlen, hg⟩ := DataW.trod_struct hs hf
    match xs, hlen with
    | [y0, y1], _ =>
      have t0 : DataW.trod enc P w base spare held n f0.type [x0] = some y0 := by simpa [Value.cells, ho0.1, ho0.2] using hg 0 f0 rfl
      have t1 : DataW.trod enc P w base spare held n f1.type [x1, x2] = some y1 := by simpa [Value.cells, ho1.1, ho1.2] using hg 1 f1 rfl
      obtain ⟨s, hs0, _, hw⟩ := DataW.trod_int hk t0
      injection hs0 with hs0
      subst hs0
      have hb : 0 ≤ s ∧ s < 18446744073709551616 := by simp [Lit.wf, IntKind.min, IntKind.max, IntKind.bits, IntKind.signed] at hw; omega
      obtain ⟨s, rfl⟩ := Int.eq_ofNat_of_zero_le hb.1
      obtain ⟨zs, m, _, hz, _, hlen', hg'⟩ := DataW.trod_struct hs' t1
      obtain ⟨o0, e0⟩ := hone_of hone 0 g0 rfl
      obtain ⟨o1, e1⟩ := hone_of hone 1 g1 rfl
      match zs, hlen' with
      | [z0, z1], _ =>
        have s0 : DataW.trod enc P w base spare held m g0.type [x1] = some z0 := by simpa [o0, e0] using hg' 0 g0 rfl
        have s1 : DataW.trod enc P w base spare held m g1.type [x2] = some z1 := by simpa [o1, e1] using hg' 1 g1 rfl
        obtain ⟨A, c, l, rfl, hc, hn, hl, hm, hx⟩ := open_ints u0 k0 c0 s0
        obtain ⟨A', c', l', rfl, hc', hn', hl', hm', hx'⟩ := open_strs u1 k1 c1 s1
        exact ⟨s, ⟨l, l'⟩, ⟨A, c⟩, ⟨A', c'⟩, rfl, by omega, ⟨hc, hc', hn, hn', hl, hl', hm, hm', hx, hx'⟩⟩
theorem weights_all {e : TypeId} : ∀ {l : List (DataW H)} {d : DataW H}, d ∈ l → ∀ n ∈ d.weights P e, n ∈ DataW.weightsAll P e l
  | [], _, h, _, _ => by cases h
  | x :: l, d, h, n, hn => by
    simp only [DataW.weightsAll, List.mem_append]
    rcases List.mem_cons.1 h with rfl | h
    · exact .inl hn
    · exact .inr (weights_all h n hn)
/-- Strings, no one larger than what a process holds. -/
theorem open_strs_sized {t e : TypeId} {fuel : Nat} {v : Value} {x : DataW H × List MemPlace} (ht : P.underlying t = some (.slice e)) (he : P.underlying e = some .string) (hc : P.cellsOf e = 1) (h : DataW.trod enc P w base spare held fuel t [v] = some x) (hw : (x.1.weights P t).all (· ≤ reachBytes) = true) :
    ∃ (A : Option Addr) (c : Nat) (l : List (List UInt8)), v = .slice A l.length c ∧ (Cells w A (strCells l) ∧ (A = none → c = 0) ∧ l.length ≤ c ∧ c ≤ maxLen ∧ ∀ x ∈ l, x.length ≤ reachBytes) ∧ l.length * P.bytesOf e ≤ reachBytes := by
  rcases open_slice1 ht hc h with ⟨h0, _⟩ | ⟨a, len, cap, m, n, V, D, Pl, hcs, _, hl, hm, hmm, hx, hi⟩
  · injection h0 with h0
    exact ⟨none, 0, [], h0, ⟨.inl rfl, fun _ => rfl, Nat.le_refl _, Nat.zero_le _, fun x hx => by cases hx⟩, by simp⟩
  · injection hcs with hcs
    have hlm : len ≤ m := by rw [hmm]; split <;> omega
    rw [hx] at hw
    simp only [DataW.weights, ht, List.all_cons, List.all_append, Bool.and_eq_true, decide_eq_true_eq, List.length_map, List.length_range] at hw
    obtain ⟨hw1, hw2, _⟩ := hw
    obtain ⟨l, hl', hR⟩ := list_of (α := List UInt8) (n := len) (R := fun i x => w.cell? (a.add i) = some (.string (bs x)) ∧ x.length ≤ reachBytes) fun i h => by
      obtain ⟨hcell, ht'⟩ := hi i (by omega)
      obtain ⟨s, hs, hd, _⟩ := DataW.trod_string he ht'
      injection hs with hs
      obtain ⟨y, rfl⟩ := bs_of s
      refine ⟨y, by rw [hcell, hs], ?_⟩
      have hd' : D i = .lit (.string (bs y).data.toList) := congrArg Prod.fst hd
      have := List.all_eq_true.1 hw2 _ (weights_all (List.mem_map.2 ⟨i, List.mem_range.2 h, rfl⟩) y.length (by rw [hd']; simp [DataW.weights, bs]))
      simpa using this
    subst hl'
    refine ⟨some a, cap, l, hcs, ⟨cells_some fun j u hu => ?_, (by intro h; cases h), hl, hm, fun x hx => ?_⟩, Nat.le_trans (Nat.mul_le_mul_right _ (Nat.le_add_right _ _)) hw1⟩
    · unfold strCells at hu
      rw [List.getElem?_map] at hu
      obtain ⟨y, hy, rfl⟩ := Option.map_eq_some_iff.1 hu
      obtain ⟨hj, rfl⟩ := List.getElem?_eq_some_iff.1 hy
      exact (hR j hj).1
    · obtain ⟨j, hj, rfl⟩ := List.getElem_of_mem hx
      exact (hR j hj).2
end
end Go.Proofs.Ytkiokdphjfkocaa
