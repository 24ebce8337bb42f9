/- The document's ref11: a table that has nothing. -/
import Derived.Test.YtplgmlcoeehnfaaGreatPuTable9
import Derived.Test.YtplgmlcoeehnfaaGreatPuRegs
set_option linter.unusedVariables false
set_option linter.unusedSimpArgs false
namespace Go.Proofs.YtplgmlcoeehnfaaGreat
open Go.RowKit Go.Shelf
attribute [local go_sem] bs_mk bs_append bs_extract bs_size bs_toList bs_get
/-- A row of 64 zeros. -/
def Zr (W : World) (g : Nat) : Prop := ∀ j, j < 64 → W.cell? ⟨g, j, none⟩ = some (.int .u8 0)
theorem zr_new (W : World) (t : TypeId) : Zr (W.alloc (.cells (madeCells #[.int .u8 0] 64) t)) W.heap.size := fun j hj => by
  have h := (Blk.new W t (madeCells #[.int .u8 0] 64)).cell j
  rw [h]
  simp [madeCells, hj, Nat.mod_one]
theorem zr_alloc {W : World} {g : Nat} (h : Zr W g) (o : Obj) : Zr (W.alloc o) g := fun j hj => cell_below ((Below.refl _ _).alloc (Nat.le_refl _) o) (h j hj)
theorem zr_at {W : World} {t : TypeId} {g : Nat} (h : g = W.heap.size) : Zr (W.alloc (.cells (madeCells #[.int .u8 0] 64) t)) g := h ▸ zr_new W t
theorem zr_at2 {W : World} {t : TypeId} {g : Nat} {o : Obj} (h : g = W.heap.size) : Zr ((W.alloc (.cells (madeCells #[.int .u8 0] 64) t)).alloc o) g := zr_alloc (zr_at h) o
theorem zr_drew {W : World} {g : Nat} (h : Zr W g) : Zr W.drew g := h
theorem zr_at_d {W : World} {t : TypeId} {g : Nat} (h : g = W.heap.size) : Zr (W.alloc (.cells (madeCells #[.int .u8 0] 64) t)).drew g := zr_drew (zr_at h)
theorem zr_at2_d {W : World} {t : TypeId} {g : Nat} {o : Obj} (h : g = W.heap.size) : Zr ((W.alloc (.cells (madeCells #[.int .u8 0] 64) t)).alloc o).drew g := zr_drew (zr_at2 h)
theorem zr_conv {W : World} {g : Nat} (h : Zr W g) : (convert 170 9 (.slice (some ⟨g, 0, none⟩) 64 64)).run Tryz.prog W = .ok (.string (bs (List.replicate 64 0))) W := by
  have := run_convert_bytes_back (P := Tryz.prog) W 170 9 5 ⟨g, 0, none⟩ 64 (List.replicate 64 0) Tryz.underlying170 Tryz.underlying5 Tryz.underlying9 (fun j hj => by
    have h2 := h j (by simpa using hj)
    have e : (⟨g, 0, none⟩ : Addr).add j = ⟨g, j, none⟩ := by by_cases hz : j = 0 <;> simp [Addr.add, hz]
    rw [e, h2, List.getElem_replicate]; rfl)
  exact this
theorem zr_make (W : World) : (Instr.makeSlice 170 (.int .i64 64) (.int .i64 64)).run Tryz.prog W = .ok (.slice (some ⟨W.heap.size, 0, none⟩) 64 64) (W.alloc (.cells (madeCells #[.int .u8 0] 64) 5)) := by
  obtain ⟨i0, hi, hz0, hz1, hz2⟩ := info_parts Tryz.infoByte
  have := run_make_rowN (P := Tryz.prog) 170 5 i0 (.int .u8 0) Tryz.underlying170 hi hz0 .i64 .i64 64 64 (Nat.le_refl _) (by rw [hz2]; omega) (by omega) W
  rw [hz1] at this
  exact this
section
variable {P : Program} {ops : Array Oper} {Q : Exit → Act → World → Prop} {md : Region.Mode} {S : World → Prop} {late : Nat → Bool}
end

attribute [local go_sem] zr_at zr_at2 zr_at_d zr_at2_d zr_alloc zr_conv zr_make
end Go.Proofs.YtplgmlcoeehnfaaGreat
