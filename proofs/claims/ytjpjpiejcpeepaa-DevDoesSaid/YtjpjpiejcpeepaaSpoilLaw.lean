/- A device that refuses a sector, or does so no more: the plain words and laws. Nothing of the program stands here. -/
import Derived.Test.YtjpjpiejcpeepaaDevLaw
namespace Go.Proofs.Ytjpjpiejcpeepaa
namespace Dk
theorem mem_spoil (l : List Int) (k : Int) : k ∈ spoilt l k true := by
  by_cases h : k ∈ l <;> simp [spoilt, h]
theorem not_mem_spoil (l : List Int) (k : Int) : k ∉ spoilt l k false := by simp [spoilt]
variable {D : Dk} {k : Int} {s : List UInt8}
theorem spoil_not (h : (D.spoil k true).2 ≠ 0) : (D.spoil k true).1 = D ∧ (D.off = false → (D.read k).2 = 10) := by
  revert h
  rw [spoil]
  split
  · rename_i h1
    intro _
    refine ⟨rfl, fun h2 => ?_⟩
    rw [read, if_neg (by rw [h2]; simp), if_pos h1]
  · intro h; exact absurd rfl h
theorem spoil_there {is : Bool} (h : (D.spoil k is).2 = 0) : D.there k = true ∧ (D.spoil k is).1 = { D with bad := spoilt D.bad k is } := by
  revert h
  rw [spoil]
  split
  · intro h; simp at h
  · rename_i h1; intro _; exact ⟨by simpa using h1, rfl⟩
/-- What a refused sector answers, and that it is as it was behind it. -/
theorem spoil_ok (h : (D.spoil k true).2 = 0) (h0 : D.off = false) (hs : s.length = 64) :
    ((D.spoil k true).1.read k).2 = 13 ∧ (D.fuse = 0 → ((D.spoil k true).1.write k s).2 = 12) ∧
    (D.fuse ≠ 0 → (D.spoil k true).1.write k s = ((D.spoil k true).1, 13) ∧ ((D.spoil k true).1.spoil k false).2 = 0 ∧ (((D.spoil k true).1.spoil k false).1.read k) = (D.sees k, 0)) ∧ ((D.read k).2 = 0 → (D.read k).1 = D.sees k) := by
  obtain ⟨h1, e⟩ := spoil_there h
  rw [e]
  have ht : ({ D with bad := spoilt D.bad k true } : Dk).there k = true := h1
  have hm := mem_spoil D.bad k
  refine ⟨?_, fun hf => ?_, fun hf => ⟨?_, ?_⟩, fun hr => ?_⟩
  · rw [read, if_neg (by simp [h0]), if_neg (by rw [ht]; simp), if_pos hm]
  · rw [write, if_neg (by simp [h0]), if_neg (by rw [ht]; simp), if_neg (by simp [hs]), if_pos hf]
  · rw [write, if_neg (by simp [h0]), if_neg (by rw [ht]; simp), if_neg (by simp [hs]), if_neg hf, if_pos hm]
  · have e2 : ({ D with bad := spoilt D.bad k true } : Dk).spoil k false = ({ D with bad := spoilt (spoilt D.bad k true) k false }, 0) := by
      rw [spoil, if_neg (by rw [ht]; simp)]
    rw [e2]
    refine ⟨rfl, ?_⟩
    have ht2 : ({ D with bad := spoilt (spoilt D.bad k true) k false } : Dk).there k = true := h1
    rw [read, if_neg (by simp [h0]), if_neg (by rw [ht2]; simp), if_neg (not_mem_spoil _ k)]
    rfl
  · revert hr
    rw [read]
    split
    · intro hr; simp at hr
    split
    · intro hr; simp at hr
    split
    · intro hr; simp at hr
    · intro _; rfl
end Dk
end Go.Proofs.Ytjpjpiejcpeepaa
