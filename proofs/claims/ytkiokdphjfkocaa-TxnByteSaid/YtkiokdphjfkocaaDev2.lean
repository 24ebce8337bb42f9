/- Package dev: what is read. Package dev: new devices, what is written, flushed, crashed. -/
import Derived.Test.YtkiokdphjfkocaaDev1
import Derived.WalkMore
set_option linter.unusedVariables false
namespace Go.Proofs.Ytkiokdphjfkocaa
open Go.RowKit Go.Shelf
attribute [local go_sem] bs_mk bs_append bs_extract bs_size bs_toList bs_get Oper.semAt_some

theorem stop_order {n : Nat} {pre' : List (Fin n)} {y : Fin n} (h : (pre' ++ [y]).map (fun y => y.val) = ((List.range n).reverse).take (pre' ++ [y]).length) (P : Fin n → Prop) (hP : ∀ y ∈ pre', P y) :
    ∀ j (hj : j < n), y.val < j → P ⟨j, hj⟩ := by
  intro j hj hy
  have hlen : pre'.length + 1 ≤ n := by
    have := congrArg List.length h; simp at this; omega
  have hg : ∀ i (hi : i < pre'.length + 1), ((pre' ++ [y])[i]'(by simpa using hi)).val = n - 1 - i := by
    intro i hi
    have e : ((pre' ++ [y]).map (fun y => y.val))[i]? = some ((pre' ++ [y])[i]'(by simpa using hi)).val := by
      rw [List.getElem?_map, List.getElem?_eq_getElem (by simpa using hi)]; rfl
    rw [h, List.getElem?_take_of_lt (by simpa using hi), List.getElem?_reverse (by simp; omega)] at e
    simp only [List.length_range] at e
    rw [List.getElem?_range (by omega)] at e
    exact (Option.some.inj e).symm
  have hl := hg pre'.length (by omega)
  simp at hl
  have hi := hg (n - 1 - j) (by omega)
  rw [List.getElem_append_left (by omega)] at hi
  have : (pre'[n - 1 - j]'(by omega)) = ⟨j, hj⟩ := Fin.ext (by rw [hi]; simp; omega)
  rw [← this]
  exact hP _ (List.getElem_mem _)
end Go.Proofs.Ytkiokdphjfkocaa
set_option linter.unusedVariables false
namespace Go.Proofs.Ytkiokdphjfkocaa
open Go.RowKit Go.Shelf
attribute [local go_sem] bs_mk bs_append bs_extract bs_size bs_toList bs_get

theorem repeat_one (x : UInt8) (n : Nat) : (⟨(Lib.repeatL (bs [x]).data.toList n).toArray⟩ : ByteArray) = bs (List.replicate n x) := by
  have : ∀ n, Lib.repeatL [x] n = List.replicate n x := by
    intro n
    induction n with
    | zero => rfl
    | succ n ih => simp [Lib.repeatL, ih, List.replicate_succ]
  show bs _ = _
  congr 1
  exact this n
/-- The call hands back a device and whether the power is still there. -/
def RetDb (D : Dk) (b : Bool) (p q : Pl) (e : Ending) (w : World) : Prop := e = .returned (.tuple #[dval D p q, .bool b])
end Go.Proofs.Ytkiokdphjfkocaa
