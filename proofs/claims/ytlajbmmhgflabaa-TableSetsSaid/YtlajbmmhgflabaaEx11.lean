/- Chapter 11's example, in plain words. Nothing of the program stands here. -/
import Derived.Test.YtlajbmmhgflabaaFresh
import Derived.Test.YtlajbmmhgflabaaTableLaw
namespace Go.Proofs.Ytlajbmmhgflabaa
def E11p : Pn := ⟨[96], [over (List.replicate 64 0) 8 (Pn.entBytes 1 3)]⟩
theorem e11_look : Pn.look (Dk.blank 112) Pn.none 96 = (List.replicate 64 0, 0) := blank_look (by omega) (by omega)
theorem e11_get0 : Pn.tabGet (Dk.blank 112) Pn.none 0 0 = ((0, 0), 0) := by
  rw [Pn.tabGet, if_neg (by decide), show Pn.entAt 0 0 = 96 from rfl, e11_look]
  decide
theorem e11_find : Pn.tabFind (Dk.blank 112) Pn.none 0 5 = ((0, 0), 0) := by
  rw [Pn.tabFind, show (5 : Int) / 16 = 0 from rfl, e11_get0]
  decide
theorem e11_aux : (if ((List.replicate 64 0, 0) : List UInt8 × Int).2 ≠ 0 then (Pn.none, ((List.replicate 64 0, 0) : List UInt8 × Int).2) else if (Pn.laidOver (List.replicate 64 0) 8 (Pn.entBytes 1 3)).2 ≠ 0 then (Pn.none, (Pn.laidOver (List.replicate 64 0) 8 (Pn.entBytes 1 3)).2)
  else Pn.none.set 96 (Pn.laidOver (List.replicate 64 0) 8 (Pn.entBytes 1 3)).1) = (E11p, 0) := by kernel_rfl
theorem e11_set : Pn.tabSet (Dk.blank 112) Pn.none 0 1 1 3 = (E11p, 0) := by
  rw [Pn.tabSet, if_neg (by decide), if_neg (by decide), show Pn.entAt 0 1 = 96 from rfl, show Pn.entOff 1 = 8 from rfl, Pn.patch, e11_look]
  exact e11_aux
theorem e11_get : Pn.tabGet (Dk.blank 112) E11p 0 1 = ((1, 3), 0) := by kernel_rfl
theorem e11_fit : E11p.Fit := by
  have h := Pn.set_fit Pn.none_fit 96 (over (List.replicate 64 0) 8 (Pn.entBytes 1 3))
  have e : (Pn.none.set 96 (over (List.replicate 64 0) 8 (Pn.entBytes 1 3))).1 = E11p := by kernel_rfl
  rwa [e] at h
theorem e11_lens : E11p.targets.length = 1 ∧ E11p.data.length = 1 := ⟨rfl, rfl⟩
def e11_s : List UInt8 := over (List.replicate 64 0) 8 (Pn.entBytes 1 3)
theorem e11_d0 (h : 0 < E11p.data.length) : E11p.data[0] = e11_s := rfl
theorem e11_len : e11_s.length = 64 := by kernel_rfl
theorem e11_8 (h : 8 < e11_s.length) : e11_s[8] = 1 := by
  have : e11_s[8]? = some 1 := by kernel_rfl
  rw [List.getElem?_eq_getElem h] at this
  injection this
theorem e11_15 (h : 15 < e11_s.length) : e11_s[15] = 3 := by
  have : e11_s[15]? = some 3 := by kernel_rfl
  rw [List.getElem?_eq_getElem h] at this
  injection this
end Go.Proofs.Ytlajbmmhgflabaa
