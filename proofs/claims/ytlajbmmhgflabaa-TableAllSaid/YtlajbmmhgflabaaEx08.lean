/- Chapter 8's example, in plain words. Nothing of the program stands here. -/
import Derived.Test.YtlajbmmhgflabaaFresh
namespace Go.Proofs.Ytlajbmmhgflabaa
def E8p : Pn := ⟨[87], [over (List.replicate 64 0) 6 [0, 1]]⟩
theorem e8_aux : (if ((List.replicate 64 0, 0) : List UInt8 × Int).2 ≠ 0 then (Pn.none, ((List.replicate 64 0, 0) : List UInt8 × Int).2) else if (Pn.laidOver (List.replicate 64 0) (2 * (3 % 32)) (be 2 (((0, 0) : Int × Int).1 + 1).toNat)).2 ≠ 0 then (Pn.none, (Pn.laidOver (List.replicate 64 0) (2 * (3 % 32)) (be 2 (((0, 0) : Int × Int).1 + 1).toNat)).2)
  else Pn.none.set 87 (Pn.laidOver (List.replicate 64 0) (2 * (3 % 32)) (be 2 (((0, 0) : Int × Int).1 + 1).toNat)).1) = (E8p, 0) := by kernel_rfl
theorem e8_add : Pn.cntAdd (Dk.blank 112) Pn.none 3 1 = (E8p, 0) := by
  have hl : Pn.look (Dk.blank 112) Pn.none 87 = (List.replicate 64 0, 0) := blank_look (by omega) (by omega)
  have hg : Pn.cntGet (Dk.blank 112) Pn.none 3 = (0, 0) := by
    rw [Pn.cntGet, if_neg (by omega), show (87 + (3 : Int) / 32) = 87 from rfl, hl]; decide
  rw [Pn.cntAdd, hg, if_neg (by decide), if_neg (by decide), show (87 + (3 : Int) / 32) = 87 from rfl, Pn.patch, hl]
  exact e8_aux
theorem e8_get : Pn.cntGet (Dk.blank 112) E8p 3 = (1, 0) := by kernel_rfl
theorem e8_not : Pn.cntAdd (Dk.blank 112) E8p 3 (-2) = (E8p, 18) := by kernel_rfl
theorem e8_fit : E8p.Fit := by
  have h := Pn.set_fit Pn.none_fit 87 (over (List.replicate 64 0) 6 [0, 1])
  have e : (Pn.none.set 87 (over (List.replicate 64 0) 6 [0, 1])).1 = E8p := by kernel_rfl
  rwa [e] at h
end Go.Proofs.Ytlajbmmhgflabaa
