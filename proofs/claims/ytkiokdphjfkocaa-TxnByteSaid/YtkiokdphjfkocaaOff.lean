/- Slices that do not lie in a block of the call's own: what is stored there leaves them. Nothing of the program stands here. -/
import Derived.Test.YtkiokdphjfkocaaMem
set_option linter.unusedVariables false
namespace Go.Proofs.Ytkiokdphjfkocaa
open Go.RowKit Go.Shelf

/-- The slice does not lie in block g. -/
def Off (g : Nat) (A : Option Addr) (n : Nat) : Prop := n = 0 ∨ ∀ b off, A = some ⟨b, off, none⟩ → b ≠ g
theorem off_own {w : World} {base g : Nat} {e : TypeId} {size n c m : Nat} {A : Option Addr} {xs : List Value} (h : w.ownsRow base e size (.slice A m c) n xs) (hg : g < base) : Off g A m := by
  refine .inr fun b off e => ?_
  subst e
  rcases h.2 with ⟨h', _⟩ | ⟨g', cap, cur, h', hb, _⟩
  · cases h'
  · injection h' with h'
    injection h' with h'
    injection h' with h'
    omega
theorem off_below {w : World} {A : Option Addr} {cs : List Value} (h : Cells w A cs) {n g : Nat} (hn : n ≤ cs.length) (hg : w.heap.size ≤ g) : Off g A n := by
  by_cases h0 : n = 0
  · exact .inl h0
  · refine .inr fun b off e => ?_
    rcases h with h | ⟨b', off', e', hc⟩
    · rw [h] at hn; simp at hn; omega
    · rw [e] at e'
      injection e' with e'
      injection e' with e'
      subst e'
      have hl : 0 < cs.length := by omega
      have := lt_of_cell (hc 0 cs[0] (by rw [List.getElem?_eq_getElem hl]))
      simp only at this
      omega
theorem Cells.off {w : World} {A : Option Addr} {cs : List Value} (h : Cells w A cs) {p : Addr} {n : Nat} (ho : Off p.block A n) (hn : n = 0 → cs = []) (v : Value) : Cells (w.setCell p v) A cs := by
  rcases ho with h0 | ho
  · exact .inl (hn h0)
  · exact h.setCell ho v
/-- A device's slices do not lie in block g. -/
def DkOff (g : Nat) (D : Dk) (p q : Pl) : Prop := Off g p.a D.cache.length ∧ Off g q.a D.bad.length
theorem IsDk.off {w : World} {D : Dk} {p q : Pl} (h : IsDk w D p q) {a : Addr} (ho : DkOff a.block D p q) (v : Value) : IsDk (w.setCell a v) D p q :=
  { h with cache := h.cache.off ho.1 (fun e => by rw [List.length_eq_zero_iff.1 e]; rfl) v, bad := h.bad.off ho.2 (fun e => by rw [List.length_eq_zero_iff.1 e]; rfl) v }
theorem IsDk.apart {w : World} {D : Dk} {p q : Pl} (h : IsDk w D p q) {g : Nat} (hg : w.heap.size ≤ g) : DkOff g D p q :=
  ⟨off_below h.cache (by rw [putCells_length]; omega) hg, off_below h.bad (by rw [intCells_length]; exact Nat.le_refl _) hg⟩
/-- The call hands back a device and a number; what lies below B and not in the device (D, p, q) lies not in that one. -/
def RetDkN (B : Nat) (D : Dk) (p q : Pl) (X : Dk × Int) (e : Ending) (w : World) : Prop :=
  ∃ p' q', e = .returned (.tuple #[dval X.1 p' q', .int .i64 X.2]) ∧ IsDk w X.1 p' q' ∧ ∀ g, g < B → DkOff g D p q → DkOff g X.1 p' q'
theorem RetDkN.ret {B : Nat} {D : Dk} {p q : Pl} {X : Dk × Int} {e : Ending} {w : World} (h : RetDkN B D p q X e w) : RetDk X e w := by
  obtain ⟨p', q', he, hi, _⟩ := h
  exact ⟨p', q', he, hi⟩
end Go.Proofs.Ytkiokdphjfkocaa
