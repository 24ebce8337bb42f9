/- Package table: a table filled. -/
import Derived.Test.YtlapjkbefkmohaaGreatSdTable3
import Derived.Test.YtlapjkbefkmohaaGreatSdRegs
set_option linter.unusedVariables false
namespace Go.Proofs.YtlapjkbefkmohaaGreat
open Go.RowKit Go.Shelf
attribute [local go_sem] bs_mk bs_append bs_extract bs_size bs_toList bs_get
/-- What is set, a half at a time. -/
def Pn.st2 (L : Pn) (t : Int) (half : Pn → Int → List UInt8 × Int) : Nat → Pn → Prop
 | 0, X => X = L
 | 1, X => (half L 0).2 = 0 ∧ L.set (96 + 2 * t) (half L 0).1 = (X, 0)
 | 2, X => Pn.set2 L t half = (X, 0)
 | _, _ => False
theorem Pn.st2_err {L X : Pn} {t : Int} {half : Pn → Int → List UInt8 × Int} {i : Nat} (hi : i < 2) (h : Pn.st2 L t half i X) (he : (half X i).2 ≠ 0) : Pn.set2 L t half = (L, (half X i).2) := by
 rcases (show i = 0 ∨ i = 1 by omega) with rfl | rfl
 · have h : X = L := h
   subst h
   change (half X 0).2 ≠ 0 at he
   show _ = (X, (half X 0).2)
   rw [Pn.set2, if_pos he]
 · change (half X 1).2 ≠ 0 at he
   show _ = (L, (half X 1).2)
   obtain ⟨h1, h2⟩ : (half L 0).2 = 0 ∧ L.set (96 + 2 * t) (half L 0).1 = (X, 0) := h
   rw [Pn.set2, h2, if_neg (by simp [h1]), if_neg (by simp), if_pos he]
theorem Pn.st2_bad {L X : Pn} {t : Int} {half : Pn → Int → List UInt8 × Int} {i : Nat} (hi : i < 2) (h : Pn.st2 L t half i X) (h0 : (half X i).2 = 0) (he : (X.set (96 + 2 * t + i) (half X i).1).2 ≠ 0) :
 Pn.set2 L t half = (L, (X.set (96 + 2 * t + i) (half X i).1).2) := by
 rcases (show i = 0 ∨ i = 1 by omega) with rfl | rfl
 · have h : X = L := h
   subst h
   change (half X 0).2 = 0 at h0
   have e : (96 + 2 * t + (0 : Nat) : Int) = 96 + 2 * t := by omega
   rw [e] at he ⊢
   change (X.set (96 + 2 * t) (half X 0).1).2 ≠ 0 at he
   show _ = (X, (X.set (96 + 2 * t) (half X 0).1).2)
   rw [Pn.set2, if_neg (by simpa using h0), if_pos he]
 · change (half X 1).2 = 0 at h0
   change (X.set (96 + 2 * t + 1) (half X 1).1).2 ≠ 0 at he
   show _ = (L, (X.set (96 + 2 * t + 1) (half X 1).1).2)
   obtain ⟨h1, h2⟩ : (half L 0).2 = 0 ∧ L.set (96 + 2 * t) (half L 0).1 = (X, 0) := h
   rw [Pn.set2, h2, if_neg (by simp [h1]), if_neg (by simp), if_neg (by simpa using h0), if_pos he]
theorem Pn.st2_next {L X : Pn} {t : Int} {half : Pn → Int → List UInt8 × Int} {i : Nat} (hi : i < 2) (h : Pn.st2 L t half i X) (h0 : (half X i).2 = 0) (h1 : (X.set (96 + 2 * t + i) (half X i).1).2 = 0) :
 Pn.st2 L t half (i + 1) (X.set (96 + 2 * t + i) (half X i).1).1 := by
 rcases (show i = 0 ∨ i = 1 by omega) with rfl | rfl
 · have h : X = L := h
   subst h
   have e : (96 + 2 * t + (0 : Nat) : Int) = 96 + 2 * t := by omega
   rw [e] at h1 ⊢
   exact ⟨h0, Prod.ext rfl h1⟩
 · obtain ⟨g1, g2⟩ : (half L 0).2 = 0 ∧ L.set (96 + 2 * t) (half L 0).1 = (X, 0) := h
   show Pn.set2 L t half = _
   rw [Pn.set2, g2, if_neg (by simp [g1]), if_neg (by simp), if_neg (by simpa using h0), if_neg (by simpa using h1)]; rfl

end Go.Proofs.YtlapjkbefkmohaaGreat
