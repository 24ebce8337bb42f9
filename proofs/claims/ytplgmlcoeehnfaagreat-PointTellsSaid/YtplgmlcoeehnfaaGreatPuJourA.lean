/- Package jour: places, and steps on a device. Package jour: steps on a device, one after another. -/
import Derived.Test.YtplgmlcoeehnfaaGreatPuJourPlain
import Derived.Test.YtplgmlcoeehnfaaGreatPuSuper1
import Derived.Test.YtplgmlcoeehnfaaGreatPuLay2
set_option linter.unusedVariables false
namespace Go.Proofs.YtplgmlcoeehnfaaGreat
open Go.RowKit Go.Shelf
attribute [local go_sem] bs_mk bs_append bs_extract bs_size bs_toList bs_get
end Go.Proofs.YtplgmlcoeehnfaaGreat
set_option linter.unusedVariables false
namespace Go.Proofs.YtplgmlcoeehnfaaGreat
open Go.RowKit Go.Shelf
attribute [local go_sem] bs_mk bs_append bs_extract bs_size bs_toList bs_get
/-- A step: flushing, sectors that are written, a plan that is laid. -/
inductive Stp where
  | flush
  | rows (G1 G2 : Nat) (k : Int) (l : List (List UInt8))
  | laid (G : Nat) (L : Pn)
def Stp.run : Stp → Dk → Dk × Int
  | .flush, D => D.flush
  | .rows _ _ k l, D => Dk.layIn (rowsFrom k l) D
  | .laid _ L, D => Pn.lay D L
theorem Stp.fit (s : Stp) {D : Dk} (h : D.fit = true) : (s.run D).1.fit = true := by
  cases s with
  | flush => exact Dk.flush_fit h
  | rows G1 G2 k l => exact Dk.layIn_fit h
  | laid G L => exact Dk.layIn_fit h
theorem grown_set {w w' : World} {g : Nat} (h : w.grownBy w' (some g)) (o : Nat) (v : Value) : w.grownBy (w'.setCell ⟨g, o, none⟩ v) (some g) :=
  ⟨h.os, h.tape, h.output, by simpa using h.size, fun k hk hne => (Below.heap_setCell w' ⟨g, o, none⟩ v k (fun e => hne (by rw [e]))).trans (h.block k hk hne)⟩
theorem grown_then {w w1 w2 : World} {g : Nat} (h : w.grownBy w1 (some g)) (h2 : Below w1.heap.size w1 w2) : w.grownBy w2 (some g) :=
  ⟨h2.os.trans h.os, h2.tape.trans h.tape, h2.output.trans h.output, Nat.le_trans h.size h2.size, fun k hk hne => (h2.block k (Nat.lt_of_lt_of_le hk h.size)).trans (h.block k hk hne)⟩
theorem grown_refl (w : World) (g : Nat) : w.grownBy w (some g) := ⟨rfl, rfl, rfl, Nat.le_refl _, fun _ _ _ => rfl⟩
def Stp.val : Stp → Value
  | .flush => .func (.func 78) #[] #[]
  | .rows G1 G2 _ _ => .func (.func 142) #[] #[.pointer (some ⟨G1, 0, none⟩), .pointer (some ⟨G2, 0, none⟩)]
  | .laid G _ => .func (.func 144) #[] #[.pointer (some ⟨G, 0, none⟩)]
/-- What a step needs in memory. -/
def Stp.ready (w : World) : Stp → Prop
  | .flush => True
  | .rows G1 G2 k l => ∃ A c, Blk w G1 26 #[.slice A l.length c] ∧ Blk w G2 3 #[.int .i64 k] ∧ Cells w A (strCells l) ∧ (0 ≤ k ∧ k ≤ 1000000) ∧ l.length ≤ 1000000 ∧ ∀ s ∈ l, s.length ≤ 9223372036854775807
  | .laid G L => ∃ p q : Pl, Blk w G 28 #[.slice p.a L.targets.length p.c, .slice q.a L.data.length q.c] ∧ IsPn w L p q ∧ L.targets.length = L.data.length ∧ L.targets.length ≤ 1000000
end Go.Proofs.YtplgmlcoeehnfaaGreat
