/- Two dirty bitmaps held against each other. -/
import Derived.Test.YtjhnaeomaigimaaGreatDoorRoot10
import Derived.DeepKeys
set_option linter.unusedVariables false
namespace Go.Proofs.YtjhnaeomaigimaaGreatDoor
open Go.RowKit Go.Shelf
def dmLits (m : Dm) : List Lit := .string m.name :: .bool m.use :: m.bits.map .bool
theorem dmLits_inj {a b : Dm} (h : dmLits a = dmLits b) : a = b := by
  obtain ⟨n, u, l⟩ := a
  obtain ⟨n', u', l'⟩ := b
  simp only [dmLits, List.cons.injEq, Lit.string.injEq, Lit.bool.injEq] at h
  obtain ⟨rfl, rfl, h⟩ := h
  rw [(List.map_inj_right (fun x y e => by injection e)).1 h]
section
variable {P : Program}
theorem lits_bits {e : TypeId} (ue : P.underlying e = some .bool) (ce : P.cellsOf e = 1) (d : Nat) (l : List Bool) (k n : Nat) (pre : List Value) (hp : pre.length = k) :
    ((List.range' k l.length).mapM fun i => P.keyLits (d + 1) e (((pre ++ l.map Value.bool).drop (i * P.cellsOf e)).take (P.cellsOf e))) = some (l.map fun b => [Lit.bool b]) := by
  induction l generalizing k pre with
  | nil => rfl
  | cons b l ih =>
    have h1 := ih (k + 1) (pre ++ [.bool b]) (by simp [hp])
    have e1 : pre ++ [Value.bool b] ++ l.map Value.bool = pre ++ (b :: l).map Value.bool := by simp
    rw [e1] at h1
    have e2 : ((pre ++ (b :: l).map Value.bool).drop (k * P.cellsOf e)).take (P.cellsOf e) = [.bool b] := by
      rw [ce, Nat.mul_one, ← hp, List.drop_left]; rfl
    have e3 : P.keyLits (d + 1) e [.bool b] = some [.bool b] := by simp [Program.keyLits, ue]
    rw [List.length_cons, List.range'_succ, List.mapM_cons, e2, e3, h1]
    rfl
theorem lits_dm {t e : TypeId} {f0 f1 f2 : Field} (hs : P.underlying t = some (.struct #[f0, f1, f2])) (hn : #[f0, f1, f2].all (·.name != "_") = true)
    (ho0 : f0.offset = 0 ∧ P.cellsOf f0.type = 1) (ho1 : f1.offset = 1 ∧ P.cellsOf f1.type = 1) (ho2 : f2.offset = 2 ∧ P.cellsOf f2.type = 64) (hC : P.cellsOf t = 66)
    (u0 : P.underlying f0.type = some .string) (u1 : P.underlying f1.type = some .bool) (u2 : P.underlying f2.type = some (.array 64 e)) (ue : P.underlying e = some .bool) (ce : P.cellsOf e = 1)
    (d : Nat) (m : Dm) (hm : m.name.length ≤ maxLen) (hb : m.bits.length = 64) : P.keyLits (d + 3) t (dmCells m) = some (dmLits m) := by
  have e0 : P.keyLits (d + 2) f0.type (((dmCells m).drop f0.offset).take (P.cellsOf f0.type)) = some [.string m.name] := by
    rw [ho0.1, ho0.2]
    show P.keyLits (d + 2) f0.type [.string (bs m.name)] = _
    have h9 : (bs m.name).size ≤ maxLen := by rw [bs_size]; exact hm
    rw [Program.keyLits.eq_def]
    simp only [u0, h9, if_true]
    simp [bs]
  have e1 : P.keyLits (d + 2) f1.type (((dmCells m).drop f1.offset).take (P.cellsOf f1.type)) = some [.bool m.use] := by
    rw [ho1.1, ho1.2]
    show P.keyLits (d + 2) f1.type [.bool m.use] = _
    simp [Program.keyLits, u1]
  have e2 : P.keyLits (d + 2) f2.type (((dmCells m).drop f2.offset).take (P.cellsOf f2.type)) = some (m.bits.map .bool) := by
    rw [ho2.1, ho2.2]
    have h1 : ((dmCells m).drop 2).take 64 = m.bits.map .bool := by
      show (m.bits.map Value.bool).take 64 = _
      exact List.take_of_length_le (by simp; omega)
    have h2 := lits_bits ue ce d m.bits 0 64 [] rfl
    rw [List.nil_append, hb, ← List.range_eq_range'] at h2
    rw [h1, Program.keyLits.eq_def]
    simp only [u2, List.length_map, hb, ho2.2, if_true, h2, Option.map_some, Option.some.injEq]
    generalize m.bits = l
    induction l with
    | nil => rfl
    | cons b l ih => simp only [List.map_cons, List.flatten_cons, ih]; rfl
  rw [Program.keyLits.eq_def]
  simp only [hs, dmCells_length hb, hC, hn, and_self, if_true, List.mapM_cons, List.mapM_nil, e0, e1, e2]
  simp [dmLits]
theorem equal_dm {t e : TypeId} {f0 f1 f2 : Field} (hk : P.keyTypeAt 3 t = true) (hs : P.underlying t = some (.struct #[f0, f1, f2])) (hn : #[f0, f1, f2].all (·.name != "_") = true)
    (ho0 : f0.offset = 0 ∧ P.cellsOf f0.type = 1) (ho1 : f1.offset = 1 ∧ P.cellsOf f1.type = 1) (ho2 : f2.offset = 2 ∧ P.cellsOf f2.type = 64) (hC : P.cellsOf t = 66)
    (u0 : P.underlying f0.type = some .string) (u1 : P.underlying f1.type = some .bool) (u2 : P.underlying f2.type = some (.array 64 e)) (ue : P.underlying e = some .bool) (ce : P.cellsOf e = 1)
    (a b : Dm) (ha : a.name.length ≤ maxLen) (ha2 : a.bits.length = 64) (hb : b.name.length ≤ maxLen) (hb2 : b.bits.length = 64) (w : World) :
    (Op.equal t (dmval a) (dmval b)).run P w = .ok (decide (a = b)) w := by
  have ff : ∀ m : Dm, m.bits.length = 64 → (dmval m).formed P t = true := fun m h => by
    simp only [Value.formed, hs, hC]
    simp [dmCells_length h]
  obtain ⟨r, hr, hiff⟩ := run_equalIn_deep (10000 - 3) 3 t hk w 3 3 (dmval a) (dmval b) (dmLits a) (dmLits b) (ff a ha2) (ff b hb2) (lits_dm hs hn ho0 ho1 ho2 hC u0 u1 u2 ue ce 0 a ha ha2) (lits_dm hs hn ho0 ho1 ho2 hC u0 u1 u2 ue ce 0 b hb hb2)
  have h1 : r = decide (a = b) := by
    by_cases h : a = b
    · rw [decide_eq_true h]; exact hiff.2 (by rw [h])
    · rw [decide_eq_false h]
      cases r with
      | false => rfl
      | true => exact absurd (dmLits_inj (hiff.1 rfl)) h
  rw [← h1]
  exact hr
end
theorem dm_equal (a b : Dm) (ha : a.name.length ≤ maxLen) (ha2 : a.bits.length = 64) (hb : b.name.length ≤ maxLen) (hb2 : b.bits.length = 64) (w : World) :
    (Op.equal 36 (dmval a) (dmval b)).run Tryz.prog w = .ok (decide (a = b)) w :=
  equal_dm (e := 4) (by kernel_rfl) Tryz.underlying36 (by kernel_rfl) (by exact ⟨rfl, by kernel_rfl⟩) (by exact ⟨rfl, by kernel_rfl⟩) (by exact ⟨rfl, by kernel_rfl⟩) (by kernel_rfl) (by kernel_rfl) (by kernel_rfl) (by kernel_rfl) (by kernel_rfl) (by kernel_rfl) a b ha ha2 hb hb2 w
end Go.Proofs.YtjhnaeomaigimaaGreatDoor
