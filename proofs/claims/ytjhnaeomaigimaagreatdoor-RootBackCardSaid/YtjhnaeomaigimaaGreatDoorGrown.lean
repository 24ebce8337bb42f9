/- What turns of one block leave of all else. -/
import Derived.Test.YtjhnaeomaigimaaGreatDoorPlain1
import Derived.Test.YtjhnaeomaigimaaGreatDoorRegs
set_option linter.unusedVariables false
namespace Go.Proofs.YtjhnaeomaigimaaGreatDoor
open Go.RowKit Go.Shelf
/-! ### What one block's turns leave -/
theorem Cells.grown {w w' : World} {A : Option Addr} {cs : List Value} {G n : Nat} (h : Cells w A cs) (hg : w.grownBy w' (some G)) (ho : Off G A n) (hn : n = 0 → cs = []) : Cells w' A cs := by
  rcases ho with h0 | ho
  · exact .inl (hn h0)
  rcases h with h | ⟨b, off, e, hc⟩
  · exact .inl h
  · refine .inr ⟨b, off, e, fun j u hu => ?_⟩
    have h1 := hc j u hu
    have h2 := lt_of_cell h1
    rw [World.cell?_of_block (w := w) (a := ⟨b, off + j, none⟩) (hg.block b h2 (by intro e'; injection e' with e'; exact ho b off e e'))]
    exact h1
theorem IsPn.grown {w w' : World} {L : Pn} {p q : Pl} {G : Nat} (h : IsPn w L p q) (hg : w.grownBy w' (some G)) (ho : PnOff G L p q) : IsPn w' L p q :=
  { h with targets := h.targets.grown hg ho.1 (fun e => by rw [List.length_eq_zero_iff.1 e]; rfl), data := h.data.grown hg ho.2 (fun e => by rw [List.length_eq_zero_iff.1 e]; rfl) }
theorem IsDk.grown {w w' : World} {D : Dk} {p q : Pl} {G : Nat} (h : IsDk w D p q) (hg : w.grownBy w' (some G)) (ho : DkOff G D p q) : IsDk w' D p q :=
  { h with cache := h.cache.grown hg ho.1 (fun e => by rw [List.length_eq_zero_iff.1 e]; rfl), bad := h.bad.grown hg ho.2 (fun e => by rw [List.length_eq_zero_iff.1 e]; rfl) }
theorem grown_of {w w' : World} (h : Below w.heap.size w w') (G : Nat) : w.grownBy w' (some G) := ⟨h.os, h.tape, h.output, h.size, fun k hk _ => h.block k hk⟩
theorem grown_trans {a b c : World} {G : Nat} (h : a.grownBy b (some G)) (k : b.grownBy c (some G)) : a.grownBy c (some G) :=
  ⟨k.os.trans h.os, k.tape.trans h.tape, k.output.trans h.output, Nat.le_trans h.size k.size, fun j hj hne => (k.block j (Nat.lt_of_lt_of_le hj h.size) hne).trans (h.block j hj hne)⟩
theorem grown_belowG {a b : World} {G B : Nat} (h : a.grownBy b (some G)) (hB : B ≤ G) (hs : B ≤ a.heap.size) : Below B a b := ⟨h.os, h.tape, h.output, h.size, fun k hk => h.block k (by omega) (by intro e; injection e with e; omega)⟩
theorem Blk.grown {a b : World} {G k : Nat} {t : TypeId} {cs : Array Value} (h : Blk a k t cs) (hg : a.grownBy b (some G)) (hk : k ≠ G) : Blk b k t cs := h.kept hg (by intro e; injection e with e; exact hk e)
theorem grown_set {w w' : World} {g : Nat} (h : w.grownBy w' (some g)) (o : Nat) (v : Value) : w.grownBy (w'.setCell ⟨g, o, none⟩ v) (some g) :=
  ⟨h.os, h.tape, h.output, by simpa using h.size, fun k hk hne => (Below.heap_setCell w' ⟨g, o, none⟩ v k (fun e => hne (by rw [e]))).trans (h.block k hk hne)⟩
theorem grown_set6 {w w' : World} {g : Nat} (h : w.grownBy w' (some g)) (v0 v1 v2 v3 v4 v5 : Value) :
    w.grownBy ((((((w'.setCell ⟨g, 0, none⟩ v0).setCell ⟨g, 1, none⟩ v1).setCell ⟨g, 2, none⟩ v2).setCell ⟨g, 3, none⟩ v3).setCell ⟨g, 4, none⟩ v4).setCell ⟨g, 5, none⟩ v5) (some g) :=
  grown_set (grown_set (grown_set (grown_set (grown_set (grown_set h 0 v0) 1 v1) 2 v2) 3 v3) 4 v4) 5 v5
theorem grown_then {w w1 w2 : World} {g : Nat} (h : w.grownBy w1 (some g)) (h2 : Below w1.heap.size w1 w2) : w.grownBy w2 (some g) :=
  ⟨h2.os.trans h.os, h2.tape.trans h.tape, h2.output.trans h.output, Nat.le_trans h.size h2.size, fun k hk hne => (h2.block k (Nat.lt_of_lt_of_le hk h.size)).trans (h.block k hk hne)⟩
theorem grown_refl (w : World) (g : Nat) : w.grownBy w (some g) := ⟨rfl, rfl, rfl, Nat.le_refl _, fun _ _ _ => rfl⟩
section
variable {P : Program} {Q : Exit → Act → World → Prop}
theorem oper_calls {o : Oper} {a : Act} {w w' : World} {f : FuncId} {args : Array Value} {K : Act → World → Prop} (hr : (execOp a.eval o).run P w = .ok (.enter f args) w')
    (h : Calls P f args w' fun e w'' => ∃ v, e = .returned v ∧ K (a.put o.dst v) w'') : o.wp P a w K Q := by
  simp only [Oper.wp, hr, Oper.upon]
  refine h.mono ?_
  rintro e w'' ⟨v, rfl, hv⟩
  exact hv
end
end Go.Proofs.YtjhnaeomaigimaaGreatDoor
