/- A device that was never written. Nothing of the program stands here. -/
import Derived.Test.YtlajbmmhgflabaaAllocLaw
namespace Go.Proofs.Ytlajbmmhgflabaa
namespace Dk
def blank (n : Nat) : Dk := ⟨List.replicate (64 * n) 0, [], -1, false, []⟩
theorem fresh_blank {n : Nat} (h1 : 1 ≤ n) (h2 : n ≤ 1024) : Dk.fresh n = (blank n, 0) := by
  rw [fresh, if_neg (by omega), Int.toNat_natCast]; rfl
theorem blank_sz (n : Nat) : (blank n).sz = n := by unfold sz blank; simp
theorem blank_fit {n : Nat} (h1 : 1 ≤ n) (h2 : n ≤ 1024) : (blank n).fit = true := by
  unfold fit
  rw [blank_sz]
  simp [blank, incr, h1, h2]
theorem blank_read {n : Nat} {k : Int} (h0 : 0 ≤ k) (h1 : k < n) : (blank n).read k = (List.replicate 64 0, 0) := by
  have ht : (blank n).there k = true := by unfold there; rw [blank_sz]; simp [h0, h1]
  rw [read, if_neg (by simp [blank]), if_neg (by simp [ht]), if_neg (by simp [blank])]
  rw [sees]
  have : seesIn (blank n).cache k = none := rfl
  rw [this, Option.getD_none]
  unfold sector blank
  simp only [List.take_replicate, List.drop_replicate]
  congr 2
  omega
end Dk
theorem blank_look {n : Nat} {k : Int} (h0 : 0 ≤ k) (h1 : k < n) : Pn.look (Dk.blank n) Pn.none k = (List.replicate 64 0, 0) := by
  rw [Pn.look, if_neg (by simp [Pn.none]), Dk.blank_read h0 h1]
end Go.Proofs.Ytlajbmmhgflabaa
