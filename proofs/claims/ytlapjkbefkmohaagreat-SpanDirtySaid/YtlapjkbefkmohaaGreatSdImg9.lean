/- Package jour: places, and steps on a device. Package jour: steps on a device, one after another. Images in memory. An image's first sector: the plain laws. Nothing of the program's steps stands here. Package super, its writing and reading; the document's. Package ref13: the example's image (plain). -/
import Derived.Test.YtlapjkbefkmohaaGreatSdJourPlain
import Derived.Test.YtlapjkbefkmohaaGreatSdPlan8
import Derived.Test.YtlapjkbefkmohaaGreatSdLay2
import Derived.Test.YtlapjkbefkmohaaGreatSdBlk3
import Derived.Test.YtlapjkbefkmohaaGreatSdPacks
import Derived.Test.YtlapjkbefkmohaaGreatSdPlain1
import Derived.Shelf.Strings.Trim
import Derived.Test.YtlapjkbefkmohaaGreatSdRegs
import Derived.Test.YtlapjkbefkmohaaGreatSdDev2
import Derived.Test.YtlapjkbefkmohaaGreatShelf
import Derived.Laws.EntriesVeiled
set_option linter.unusedVariables false
namespace Go.Proofs.YtlapjkbefkmohaaGreat
open Go.RowKit Go.Shelf
attribute [local go_sem] bs_mk bs_append bs_extract bs_size bs_toList bs_get
abbrev jval (j : Jr) : Value := .agg #[.int .u64 j.seq, .int .i64 j.pos]
theorem jrPlace_no {pos size : Int} (h : pos < 0 ∨ size < 0 ∨ 81 < size ∨ 81 - size < pos) : jrPlace pos size = 0 := by unfold jrPlace; rw [if_pos h]
theorem jrPlace_yes {pos size : Int} (h : ¬ (pos < 0 ∨ size < 0 ∨ 81 < size ∨ 81 - size < pos)) : jrPlace pos size = pos := by unfold jrPlace; rw [if_neg h]
theorem r7_place (pos size : Int) (h1 : -9223372036854775808 ≤ pos ∧ pos ≤ 9223372036854775807) (h2 : -9223372036854775808 ≤ size ∧ size ≤ 9223372036854775807) (w : World) :
 Calls Tryz.prog 90 #[.int .i64 pos, .int .i64 size] w fun e w' => e = .returned (.int .i64 (jrPlace pos size)) ∧ Below w.heap.size w w' := by
 by_cases a1 : pos < 0
 · have Hw := hid (jrPlace_no (pos := pos) (size := size) (.inl a1))
   go_enter Tryz.func90, Tryz.ntmps90
   go_wp2_with fail
   go_ret
   exact ⟨by rw [Hw.out]; rfl, Below.refl _ _⟩
 by_cases a2 : size < 0
 · have Hw := hid (jrPlace_no (pos := pos) (size := size) (.inr (.inl a2)))
   go_enter Tryz.func90, Tryz.ntmps90
   go_wp2_with fail
   go_ret
   exact ⟨by rw [Hw.out]; rfl, Below.refl _ _⟩
 by_cases a3 : 81 < size
 · have Hw := hid (jrPlace_no (pos := pos) (size := size) (.inr (.inr (.inl a3))))
   go_enter Tryz.func90, Tryz.ntmps90
   go_wp2_with fail
   go_ret
   exact ⟨by rw [Hw.out]; rfl, Below.refl _ _⟩
 have w8 := i64w (x := 81 - size) ⟨by omega, by omega⟩
 by_cases a4 : 81 - size < pos
 · have Hw := hid (jrPlace_no (pos := pos) (size := size) (.inr (.inr (.inr a4))))
   go_enter Tryz.func90, Tryz.ntmps90
   go_wp2_with fail
   go_ret
   exact ⟨by rw [Hw.out]; rfl, Below.refl _ _⟩
 · have Hw := hid (jrPlace_yes (pos := pos) (size := size) (by omega))
   go_enter Tryz.func90, Tryz.ntmps90
   go_wp2_with fail
   go_ret
   exact ⟨by rw [Hw.out]; rfl, Below.refl _ _⟩
theorem jrFit_no {j : Jr} (h : j.seq = 0 ∨ 4611686018427387904 < j.seq ∨ j.pos < 0 ∨ 81 < j.pos) : jrFit j = false := by
 rw [← Bool.not_eq_true, jrFit_iff]; omega
theorem jrFit_yes {j : Jr} (h : ¬ (j.seq = 0 ∨ 4611686018427387904 < j.seq ∨ j.pos < 0 ∨ 81 < j.pos)) : jrFit j = true := jrFit_iff.2 (by omega)
theorem r7_fit (j : Jr) (h1 : j.seq < 18446744073709551616) (h2 : -9223372036854775808 ≤ j.pos ∧ j.pos ≤ 9223372036854775807) (w : World) :
 Calls Tryz.prog 46 #[jval j] w fun e w' => e = .returned (.bool (jrFit j)) ∧ Below w.heap.size w w' := by
 have x0 := Blk.new w 30 #[.int .u64 j.seq, .int .i64 j.pos]
 have hb := (Below.refl w.heap.size w).alloc (Nat.le_refl _) (.cells #[.int .u64 j.seq, .int .i64 j.pos] 30)
 have k0 := blk2 x0
 have Hno := hid (@jrFit_no j)
 have Hyes := hid (@jrFit_yes j)
 obtain ⟨s, p⟩ := j
 simp only at h1 h2
 by_cases a1 : s = 0
 · have Hw := hid (Hno.out (.inl a1))
   subst a1
   go_enter Tryz.func46, Tryz.ntmps46
   go_wp2_with fail
   go_ret
   exact ⟨by rw [Hw.out]; rfl, hb⟩
 by_cases a2 : 4611686018427387904 < s
 · have Hw := hid (Hno.out (.inr (.inl a2)))
   have a2' : (4611686018427387904 : Int) < (s : Int) := by omega
   have a1' : (1 : Int) ≤ (s : Int) := by omega
   go_enter Tryz.func46, Tryz.ntmps46
   go_wp2_with fail
   go_ret
   exact ⟨by rw [Hw.out]; rfl, hb⟩
 by_cases a3 : p < 0
 · have Hw := hid (Hno.out (.inr (.inr (.inl a3))))
   have a3' : decide (0 ≤ p) = false := decide_eq_false (by omega)
   have a2' : (s : Int) ≤ 4611686018427387904 := by omega
   have a1' : (1 : Int) ≤ (s : Int) := by omega
   go_enter Tryz.func46, Tryz.ntmps46
   go_wp2_with fail
   go_ret
   exact ⟨by rw [Hw.out]; rfl, hb⟩
 by_cases a4 : 81 < p
 · have Hw := hid (Hno.out (.inr (.inr (.inr a4))))
   have a4' : decide (p ≤ 81) = false := decide_eq_false (by omega)
   have a2' : (s : Int) ≤ 4611686018427387904 := by omega
   have a1' : (1 : Int) ≤ (s : Int) := by omega
   go_enter Tryz.func46, Tryz.ntmps46
   go_wp2_with fail
   go_ret
   exact ⟨by rw [Hw.out]; rfl, hb⟩
 · have Hw := hid (Hyes.out (by simp only; omega))
   have a4' : decide (p ≤ 81) = true := decide_eq_true (by omega)
   have a2' : (s : Int) ≤ 4611686018427387904 := by omega
   have a1' : (1 : Int) ≤ (s : Int) := by omega
   go_enter Tryz.func46, Tryz.ntmps46
   go_wp2_with fail
   go_ret
   exact ⟨by rw [Hw.out]; rfl, hb⟩
end Go.Proofs.YtlapjkbefkmohaaGreat
set_option linter.unusedVariables false
namespace Go.Proofs.YtlapjkbefkmohaaGreat
open Go.RowKit Go.Shelf
attribute [local go_sem] bs_mk bs_append bs_extract bs_size bs_toList bs_get
/-- A step: flushing, sectors that are written, a plan that is laid. -/
inductive Stp where
 | flush
 | rows (G1 G2 : Nat) (k : Int) (l : List (List UInt8))
 | laid (G : Nat) (L : Pn)
def Stp.run : Stp → Dk → Dk × Int
 | .flush, D => D.flush
 | .rows _ _ k l, D => Dk.layIn (rowsFrom k l) D
 | .laid _ L, D => Pn.lay D L
theorem Stp.fit (s : Stp) {D : Dk} (h : D.fit = true) : (s.run D).1.fit = true := by
 cases s with
 | flush => exact Dk.flush_fit h
 | rows G1 G2 k l => exact Dk.layIn_fit h
 | laid G L => exact Dk.layIn_fit h
theorem blk6 {w : World} {g : Nat} {t : TypeId} {a b c d e f : Value} (h : Blk w g t #[a, b, c, d, e, f]) :
 w.cell? ⟨g, 0, none⟩ = some a ∧ w.cell? ⟨g, 1, none⟩ = some b ∧ w.cell? ⟨g, 2, none⟩ = some c ∧ w.cell? ⟨g, 3, none⟩ = some d ∧ w.cell? ⟨g, 4, none⟩ = some e ∧ w.cell? ⟨g, 5, none⟩ = some f :=
 ⟨h.cell 0, h.cell 1, h.cell 2, h.cell 3, h.cell 4, h.cell 5⟩
end Go.Proofs.YtlapjkbefkmohaaGreat

set_option linter.unusedVariables false
namespace Go.Proofs.YtlapjkbefkmohaaGreat
open Go.RowKit Go.Shelf
attribute [local go_sem] bs_mk bs_append bs_extract bs_size bs_toList bs_get
/-- A row of bitmaps stands in memory. -/
structure IsMs (w : World) (l : List Dm) (r : Pl) : Prop where
 row : Cells w r.a (dmRows l)
 nil : r.a = none → r.c = 0
 cap : l.length ≤ r.c
 max : r.c ≤ maxLen
 bits : ∀ m ∈ l, m.bits.length = 64
 name : ∀ m ∈ l, m.name.length ≤ maxLen
def MsOff (g : Nat) (l : List Dm) (r : Pl) : Prop := Off g r.a l.length
theorem IsMs.below {w w' : World} {l : List Dm} {r : Pl} (h : IsMs w l r) (hb : Below w.heap.size w w') : IsMs w' l r := { h with row := h.row.below hb }
theorem IsMs.off {w : World} {l : List Dm} {r : Pl} (h : IsMs w l r) {a : Addr} (ho : MsOff a.block l r) (v : Value) : IsMs (w.setCell a v) l r :=
 { h with row := h.row.off ho (fun e => by rw [List.length_eq_zero_iff.1 e]; rfl) v }
theorem IsMs.apart {w : World} {l : List Dm} {r : Pl} (h : IsMs w l r) {g : Nat} (hg : w.heap.size ≤ g) : MsOff g l r := off_below h.row (by rw [dmRows_length h.bits]; omega) hg
theorem isMs_nil (w : World) : IsMs w [] ⟨none, 0⟩ := ⟨.inl rfl, fun _ => rfl, Nat.le_refl _, Nat.zero_le _, fun _ h => (by cases h), fun _ h => (by cases h)⟩
theorem isMs_own {w : World} {base : Nat} {e : TypeId} {v : Value} {l : List Dm} (h : w.ownsRow base e 66 v l.length (dmRows l)) (h64 : ∀ m ∈ l, m.bits.length = 64) (hn : ∀ m ∈ l, m.name.length ≤ maxLen) :
 ∃ r : Pl, v = .slice r.a l.length r.c ∧ IsMs w l r ∧ ∀ g, g < base → MsOff g l r := by
 obtain ⟨A, c, rfl, h1, h2, h3⟩ := own_slice h
 refine ⟨⟨A, c⟩, rfl, ⟨Cells.of_own h, h3, h1, h2, h64, hn⟩, fun g hg => .inr (own_beyond h hg)⟩
/-- The image's value stands in memory. -/
abbrev imval (x : Im) (p q r : Pl) : Value := .agg #[.string (bs x.d.data), .slice p.a x.d.cache.length p.c, .int .i64 x.d.fuse, .bool x.d.off, .slice q.a x.d.bad.length q.c, .int .i64 x.g, .int .i64 x.h, .int .u64 x.j.seq, .int .i64 x.j.pos, .slice r.a x.maps.length r.c, .bool x.br]
structure IsIm (w : World) (x : Im) (p q r : Pl) : Prop where
 d : IsDk w x.d p q
 m : IsMs w x.maps r
def ImOff (g : Nat) (x : Im) (p q r : Pl) : Prop := DkOff g x.d p q ∧ MsOff g x.maps r
theorem IsIm.below {w w' : World} {x : Im} {p q r : Pl} (h : IsIm w x p q r) (hb : Below w.heap.size w w') : IsIm w' x p q r := ⟨h.d.below hb, h.m.below hb⟩
theorem IsIm.off {w : World} {x : Im} {p q r : Pl} (h : IsIm w x p q r) {a : Addr} (ho : ImOff a.block x p q r) (v : Value) : IsIm (w.setCell a v) x p q r := ⟨h.d.off ho.1 v, h.m.off ho.2 v⟩
theorem IsIm.apart {w : World} {x : Im} {p q r : Pl} (h : IsIm w x p q r) {g : Nat} (hg : w.heap.size ≤ g) : ImOff g x p q r := ⟨h.d.apart hg, h.m.apart hg⟩
/-- The call hands back an image and a number. -/
def RetIm (B : Nat) (x : Im) (p q r : Pl) (X : Im × Int) (e : Ending) (w : World) : Prop :=
 ∃ p' q' r', e = .returned (.tuple #[imval X.1 p' q' r', .int .i64 X.2]) ∧ IsIm w X.1 p' q' r' ∧ ∀ g, g < B → ImOff g x p q r → ImOff g X.1 p' q' r'
theorem blk11 {w : World} {g : Nat} {t : TypeId} {a0 a1 a2 a3 a4 a5 a6 a7 a8 a9 a10 : Value} (h : Blk w g t #[a0, a1, a2, a3, a4, a5, a6, a7, a8, a9, a10]) :
 w.cell? ⟨g, 0, none⟩ = some a0 ∧ w.cell? ⟨g, 1, none⟩ = some a1 ∧ w.cell? ⟨g, 2, none⟩ = some a2 ∧ w.cell? ⟨g, 3, none⟩ = some a3 ∧ w.cell? ⟨g, 4, none⟩ = some a4 ∧ w.cell? ⟨g, 5, none⟩ = some a5 ∧
 w.cell? ⟨g, 6, none⟩ = some a6 ∧ w.cell? ⟨g, 7, none⟩ = some a7 ∧ w.cell? ⟨g, 8, none⟩ = some a8 ∧ w.cell? ⟨g, 9, none⟩ = some a9 ∧ w.cell? ⟨g, 10, none⟩ = some a10 :=
 ⟨h.cell 0, h.cell 1, h.cell 2, h.cell 3, h.cell 4, h.cell 5, h.cell 6, h.cell 7, h.cell 8, h.cell 9, h.cell 10⟩
theorem keep11 {P : World → Prop} {g : Nat} (h : ∀ (W : World) (o : Nat) (v : Value), P W → P (W.setCell ⟨g, o, none⟩ v)) {W : World} (hP : P W) (v0 v1 v2 v3 v4 v5 v6 v7 v8 v9 v10 : Value) : P (((((((((((W.setCell ⟨g, 0, none⟩ v0).setCell ⟨g, 1, none⟩ v1).setCell ⟨g, 2, none⟩ v2).setCell ⟨g, 3, none⟩ v3).setCell ⟨g, 4, none⟩ v4).setCell ⟨g, 5, none⟩ v5).setCell ⟨g, 6, none⟩ v6).setCell ⟨g, 7, none⟩ v7).setCell ⟨g, 8, none⟩ v8).setCell ⟨g, 9, none⟩ v9).setCell ⟨g, 10, none⟩ v10) :=
 h _ 10 v10 (h _ 9 v9 (h _ 8 v8 (h _ 7 v7 (h _ 6 v6 (h _ 5 v5 (h _ 4 v4 (h _ 3 v3 (h _ 2 v2 (h _ 1 v1 (h _ 0 v0 hP))))))))))
theorem blk_set11 {W : World} {g : Nat} {t : TypeId} {a0 a1 a2 a3 a4 a5 a6 a7 a8 a9 a10 : Value} (h : Blk W g t #[a0, a1, a2, a3, a4, a5, a6, a7, a8, a9, a10]) (v0 v1 v2 v3 v4 v5 v6 v7 v8 v9 v10 : Value) : Blk (((((((((((W.setCell ⟨g, 0, none⟩ v0).setCell ⟨g, 1, none⟩ v1).setCell ⟨g, 2, none⟩ v2).setCell ⟨g, 3, none⟩ v3).setCell ⟨g, 4, none⟩ v4).setCell ⟨g, 5, none⟩ v5).setCell ⟨g, 6, none⟩ v6).setCell ⟨g, 7, none⟩ v7).setCell ⟨g, 8, none⟩ v8).setCell ⟨g, 9, none⟩ v9).setCell ⟨g, 10, none⟩ v10) g t #[v0, v1, v2, v3, v4, v5, v6, v7, v8, v9, v10] := by
 have := ((((((((((h.set 0 v0).set 1 v1).set 2 v2).set 3 v3).set 4 v4).set 5 v5).set 6 v6).set 7 v7).set 8 v8).set 9 v9).set 10 v10
 simpa using this
theorem below11 {B : Nat} {w W : World} {g : Nat} (h : Below B w W) (hg : B ≤ g) (v0 v1 v2 v3 v4 v5 v6 v7 v8 v9 v10 : Value) : Below B w (((((((((((W.setCell ⟨g, 0, none⟩ v0).setCell ⟨g, 1, none⟩ v1).setCell ⟨g, 2, none⟩ v2).setCell ⟨g, 3, none⟩ v3).setCell ⟨g, 4, none⟩ v4).setCell ⟨g, 5, none⟩ v5).setCell ⟨g, 6, none⟩ v6).setCell ⟨g, 7, none⟩ v7).setCell ⟨g, 8, none⟩ v8).setCell ⟨g, 9, none⟩ v9).setCell ⟨g, 10, none⟩ v10) :=
 keep11 (P := fun W => Below B w W) (fun W o v h => h.setCell (p := ⟨g, o, none⟩) hg v) h v0 v1 v2 v3 v4 v5 v6 v7 v8 v9 v10
theorem blk_off11 {W : World} {g k : Nat} {t : TypeId} {cs : Array Value} (h : Blk W k t cs) (hk : k ≠ g) (v0 v1 v2 v3 v4 v5 v6 v7 v8 v9 v10 : Value) : Blk (((((((((((W.setCell ⟨g, 0, none⟩ v0).setCell ⟨g, 1, none⟩ v1).setCell ⟨g, 2, none⟩ v2).setCell ⟨g, 3, none⟩ v3).setCell ⟨g, 4, none⟩ v4).setCell ⟨g, 5, none⟩ v5).setCell ⟨g, 6, none⟩ v6).setCell ⟨g, 7, none⟩ v7).setCell ⟨g, 8, none⟩ v8).setCell ⟨g, 9, none⟩ v9).setCell ⟨g, 10, none⟩ v10) k t cs :=
 keep11 (P := fun W => Blk W k t cs) (fun W o v h => h.other (a := ⟨g, o, none⟩) hk v) h v0 v1 v2 v3 v4 v5 v6 v7 v8 v9 v10
theorem IsDk.off11 {W : World} {D : Dk} {p q : Pl} (h : IsDk W D p q) {g : Nat} (ho : DkOff g D p q) (v0 v1 v2 v3 v4 v5 v6 v7 v8 v9 v10 : Value) : IsDk (((((((((((W.setCell ⟨g, 0, none⟩ v0).setCell ⟨g, 1, none⟩ v1).setCell ⟨g, 2, none⟩ v2).setCell ⟨g, 3, none⟩ v3).setCell ⟨g, 4, none⟩ v4).setCell ⟨g, 5, none⟩ v5).setCell ⟨g, 6, none⟩ v6).setCell ⟨g, 7, none⟩ v7).setCell ⟨g, 8, none⟩ v8).setCell ⟨g, 9, none⟩ v9).setCell ⟨g, 10, none⟩ v10) D p q :=
 keep11 (P := fun W => IsDk W D p q) (fun W o v h => h.off (a := ⟨g, o, none⟩) ho v) h v0 v1 v2 v3 v4 v5 v6 v7 v8 v9 v10
theorem IsPn.off11 {W : World} {D : Pn} {p q : Pl} (h : IsPn W D p q) {g : Nat} (ho : PnOff g D p q) (v0 v1 v2 v3 v4 v5 v6 v7 v8 v9 v10 : Value) : IsPn (((((((((((W.setCell ⟨g, 0, none⟩ v0).setCell ⟨g, 1, none⟩ v1).setCell ⟨g, 2, none⟩ v2).setCell ⟨g, 3, none⟩ v3).setCell ⟨g, 4, none⟩ v4).setCell ⟨g, 5, none⟩ v5).setCell ⟨g, 6, none⟩ v6).setCell ⟨g, 7, none⟩ v7).setCell ⟨g, 8, none⟩ v8).setCell ⟨g, 9, none⟩ v9).setCell ⟨g, 10, none⟩ v10) D p q :=
 keep11 (P := fun W => IsPn W D p q) (fun W o v h => h.off (a := ⟨g, o, none⟩) ho v) h v0 v1 v2 v3 v4 v5 v6 v7 v8 v9 v10
theorem IsMs.off11 {W : World} {l : List Dm} {r : Pl} (h : IsMs W l r) {g : Nat} (ho : MsOff g l r) (v0 v1 v2 v3 v4 v5 v6 v7 v8 v9 v10 : Value) : IsMs (((((((((((W.setCell ⟨g, 0, none⟩ v0).setCell ⟨g, 1, none⟩ v1).setCell ⟨g, 2, none⟩ v2).setCell ⟨g, 3, none⟩ v3).setCell ⟨g, 4, none⟩ v4).setCell ⟨g, 5, none⟩ v5).setCell ⟨g, 6, none⟩ v6).setCell ⟨g, 7, none⟩ v7).setCell ⟨g, 8, none⟩ v8).setCell ⟨g, 9, none⟩ v9).setCell ⟨g, 10, none⟩ v10) l r :=
 keep11 (P := fun W => IsMs W l r) (fun W o v h => h.off (a := ⟨g, o, none⟩) ho v) h v0 v1 v2 v3 v4 v5 v6 v7 v8 v9 v10
theorem ext11 {w : World} {g : Nat} {t : TypeId} {a0 a1 a2 a3 a4 a5 a6 a7 a8 a9 a10 : Value} (h : Blk w g t #[a0, a1, a2, a3, a4, a5, a6, a7, a8, a9, a10]) (x : Ext w) :
 x.world.cell? ⟨g, 0, none⟩ = some a0 ∧ x.world.cell? ⟨g, 1, none⟩ = some a1 ∧ x.world.cell? ⟨g, 2, none⟩ = some a2 ∧ x.world.cell? ⟨g, 3, none⟩ = some a3 ∧ x.world.cell? ⟨g, 4, none⟩ = some a4 ∧ x.world.cell? ⟨g, 5, none⟩ = some a5 ∧
 x.world.cell? ⟨g, 6, none⟩ = some a6 ∧ x.world.cell? ⟨g, 7, none⟩ = some a7 ∧ x.world.cell? ⟨g, 8, none⟩ = some a8 ∧ x.world.cell? ⟨g, 9, none⟩ = some a9 ∧ x.world.cell? ⟨g, 10, none⟩ = some a10 :=
 ⟨x.cell (h.cell 0), x.cell (h.cell 1), x.cell (h.cell 2), x.cell (h.cell 3), x.cell (h.cell 4), x.cell (h.cell 5), x.cell (h.cell 6), x.cell (h.cell 7), x.cell (h.cell 8), x.cell (h.cell 9), x.cell (h.cell 10)⟩
/-- A cell of a row of one's own is written. -/
theorem own_set {w : World} {base : Nat} {e : TypeId} {size n : Nat} {g cap : Nat} {xs : List Value} (h : w.ownsRow base e size (.slice (some ⟨g, 0, none⟩) n cap) n xs) (j : Nat) (hj : j < xs.length) (u : Value) :
 (w.setCell ⟨g, j, none⟩ u).ownsRow base e size (.slice (some ⟨g, 0, none⟩) n cap) n (xs.set j u) := by
 refine ⟨by rw [List.length_set]; exact h.1, ?_⟩
 rcases h.2 with ⟨h', _⟩ | ⟨g', cap', cur, hv, hb, hh, h1, h2, h3, h4⟩
 · cases h'
 · injection hv with a b c
   injection a with a
   injection a with a _
   subst a; subst c
   refine .inr ⟨g, cap, cur.setIfInBounds j u, rfl, hb, Blk.set (t := e) hh j u, h1, h2, by rw [Array.size_setIfInBounds]; exact h3, ?_⟩
   rw [Array.toList_setIfInBounds, List.take_set, h4]
theorem own_frozen {w : World} {base : Nat} {e : TypeId} {size n : Nat} {g cap : Nat} {xs : List Value} (h : w.ownsRow base e size (.slice (some ⟨g, 0, none⟩) n cap) n xs) (j : Nat) : w.frozen? ⟨g, j, none⟩ = false := by
 rcases h.2 with ⟨h', _⟩ | ⟨g', cap', cur, hv, hb, hh, _⟩
 · cases h'
 · injection hv with a b c
   injection a with a
   injection a with a _
   subst a
   exact Blk.frozen (t := e) hh j
theorem own_cell {w : World} {base : Nat} {e : TypeId} {size n : Nat} {g cap : Nat} {xs : List Value} (h : w.ownsRow base e size (.slice (some ⟨g, 0, none⟩) n cap) n xs) (j : Nat) (hj : j < xs.length) : w.cell? ⟨g, j, none⟩ = some xs[j] := by
 rcases Cells.of_own h with h0 | ⟨b, off, he, hc⟩
 · rw [h0] at hj; simp at hj
 · injection he with he
   injection he with h1 h2
   subst h1; subst h2
   rw [← hc j xs[j] (List.getElem?_eq_getElem hj), Nat.zero_add]
theorem dmRows_setBit (l : List Dm) (h64 : ∀ m ∈ l, m.bits.length = 64) (i k : Nat) (hi : i < l.length) (hk : k < 64) (b : Bool) : (dmRows l).set (i * 66 + (2 + k)) (.bool b) = dmRows (l.set i { l[i] with bits := l[i].bits.set k b }) := by
 induction l generalizing i with
 | nil => simp at hi
 | cons x l ih =>
  have hx := dmCells_length (h64 x (by simp))
  have e : dmRows (x :: l) = dmCells x ++ dmRows l := rfl
  cases i with
  | zero =>
   rw [e, Nat.zero_mul, Nat.zero_add, List.set_append, if_pos (by omega), List.set_cons_zero]
   show (dmCells x).set (2 + k) (.bool b) ++ dmRows l = dmCells _ ++ dmRows l
   congr 1
   rw [show 2 + k = k + 1 + 1 by omega]
   simp [dmCells, List.map_set]
  | succ i =>
   rw [e, List.set_append, if_neg (by omega), hx, show (i + 1) * 66 + (2 + k) - 66 = i * 66 + (2 + k) by omega, ih (fun m hm => h64 m (by simp [hm])) i (by simpa using hi), List.set_cons_succ]
   rfl
end Go.Proofs.YtlapjkbefkmohaaGreat

set_option linter.unusedVariables false
namespace Go.Proofs.YtlapjkbefkmohaaGreat
open Go.RowKit Go.Shelf

def sumOf (l : List UInt8) : List UInt8 := be 4 (crcOf l)
def headOf (g h : Nat) : List UInt8 := magic4 ++ be 2 g ++ be 2 h
def supOf (g h : Nat) : List UInt8 := headOf g h ++ sumOf (headOf g h) ++ List.replicate 52 0
def writeW (g h : Int) : List UInt8 := if geomOk g h then supOf g.toNat h.toNat else []
def writeE (g h : Int) : Int := if geomOk g h then 0 else 25

theorem headOf_length (g h : Nat) : (headOf g h).length = 8 := by simp [headOf, be_length, magic4]
theorem sumOf_length (l : List UInt8) : (sumOf l).length = 4 := be_length _ _
end Go.Proofs.YtlapjkbefkmohaaGreat

set_option linter.unusedVariables false
namespace Go.Proofs.YtlapjkbefkmohaaGreat
open Go.RowKit Go.Shelf
attribute [local go_sem] bs_mk bs_append bs_extract bs_size bs_toList bs_get
theorem i64u64w {x : Int} (h0 : 0 ≤ x) (h1 : x < 9223372036854775808) : IntKind.wrap .u64 x = x := by
 simp [IntKind.wrap, IntKind.bits, IntKind.signed]; omega
set_option maxRecDepth 100000 in
theorem r4_write (g h : Int) (w : World) : Calls Tryz.prog 49 #[gval g h] w fun e w' => e = .returned (.tuple #[.string (bs (writeW g h)), .int .i64 (writeE g h)]) ∧ Below w.heap.size w w' := by
 have hb := (Below.refl w.heap.size w).alloc (Nat.le_refl _) (.cells #[.int .i64 g, .int .i64 h] 27)
 have x0 := Blk.new w 27 #[.int .i64 g, .int .i64 h]
 have hf := fun W => r4_fit g h W
 cases hk : geomOk g h with
 | false =>
  have Hw := hid (show writeW g h = [] ∧ writeE g h = 25 by simp [writeW, writeE, hk])
  rw [hk] at hf
  go_enter Tryz.func49, Tryz.ntmps49
  go_wp2_with fail
  go_at_call 42
  refine (hf _).mono ?_
  rintro e w1 ⟨rfl, hb1⟩
  go_wp2_with fail
  go_ret2
  rw [Hw.out.1, Hw.out.2]
  exact ⟨rfl, bt hb hb1⟩
 | true =>
  have hg := geomOk_iff.1 hk
  rw [hk] at hf
  obtain ⟨g, rfl⟩ := Int.eq_ofNat_of_zero_le (show 0 ≤ g by omega)
  obtain ⟨h, rfl⟩ := Int.eq_ofNat_of_zero_le (show 0 ≤ h by omega)
  have Hw := hid (show writeW g h = headOf g h ++ sumOf (headOf g h) ++ List.replicate 52 0 ∧ writeE g h = 0 by unfold writeW writeE; rw [if_pos hk, if_pos hk]; exact ⟨rfl, rfl⟩)
  have w1e := i64u64w (x := g) (by omega) (by omega)
  have w2e := i64u64w (x := h) (by omega) (by omega)
  have hh : headOf g h = 67 :: 79 :: 70 :: 49 :: (be 2 g ++ be 2 h) := rfl
  have hl := headOf_length g h
  have hsl := sumOf_length (headOf g h)
  have lg := be_length 2 g
  have lh := be_length 2 h
  go_enter Tryz.func49, Tryz.ntmps49
  go_wp2_with fail
  go_at_call 42
  refine (hf _).mono ?_
  rintro e w1 ⟨rfl, hb1⟩
  have b1 := bt hb hb1
  have x1 := x0.below hb1 x0.lt
  have K1 := ext2 x1
  have p1 := fun e : Ext w1 => rput_ok g 2 (by omega) (by omega) (by omega) e.world
  have p2 := fun e : Ext w1 => rput_ok h 2 (by omega) (by omega) (by omega) e.world
  go_wp2_with fail
  refine wp_region_ext mixed (by kernel_rfl) ?_
  repeat (go_big_quiet_step ((first | (go_at_call 74; with_reducible exact ext_of (p1 _)) | (go_at_call 74; with_reducible exact ext_of (p2 _)))))
  refine wpQuiet_nil ?_
  rintro w2 ⟨pq_, hpq_⟩
  have hb2 := pq_.below
  rw [← hpq_] at hb2
  clear hpq_ pq_
  rw [← hh]
  clear hh
  generalize headOf g h = H at *
  have hO := fun W => r2_of H (by omega) W
  have hB := fun W => r2_bytes (crcOf H) (crcMore_lt _ _) W
  have hsd : sumOf H = be 4 (crcOf H) := rfl
  rw [← hsd] at hB
  clear hsd
  generalize sumOf H = R at *
  have hP := fun W => rpad_ok (H ++ R) (by rw [List.length_append, hl, hsl]; decide) 64 (by rw [List.length_append]; omega) (by omega) W
  rw [show ((64 : Int).toNat - (H ++ R).length) = 52 by rw [List.length_append, hl, hsl]; rfl] at hP
  generalize List.replicate 52 (0 : UInt8) = Zr at *
  rw [List.append_assoc] at hP
  go_wp2_with fail
  go_at_call 57
  refine (hO _).mono ?_
  rintro e w3 ⟨rfl, rfl⟩
  go_wp2_with fail
  go_at_call 56
  refine (hB _).mono ?_
  rintro e w4 ⟨rfl, hb4⟩
  go_wp2_with fail
  go_at_call 75
  refine (hP _).mono ?_
  rintro e w5 ⟨rfl, hb5⟩
  go_wp2_with fail
  go_ret2
  rw [Hw.out.1, Hw.out.2, List.append_assoc]
  exact ⟨rfl, bt (bt (bt b1 hb2) hb4) hb5⟩
theorem r4_sectors (g h : Int) (w : World) : Calls Tryz.prog 45 #[gval g h] w fun e w' => e = .returned (.int .i64 (if geomOk g h then 96 + 2 * h else 0)) ∧ Below w.heap.size w w' := by
 have hb := (Below.refl w.heap.size w).alloc (Nat.le_refl _) (.cells #[.int .i64 g, .int .i64 h] 27)
 have x0 := Blk.new w 27 #[.int .i64 g, .int .i64 h]
 have hf := fun W => r4_fit g h W
 cases hk : geomOk g h with
 | true =>
  rw [hk] at hf
  have hb' := geomOk_iff.1 hk
  go_enter Tryz.func45, Tryz.ntmps45
  go_wp2_with fail
  go_at_call 42
  refine (hf _).mono ?_
  rintro e w1 ⟨rfl, hb1⟩
  have y0 := (x0.below hb1 x0.lt).cell 1
  have y1 := (x0.below hb1 x0.lt).cell 0
  go_wp2_with fail
  go_ret
  exact ⟨rfl, bt hb hb1⟩
 | false =>
  rw [hk] at hf
  go_enter Tryz.func45, Tryz.ntmps45
  go_wp2_with fail
  go_at_call 42
  refine (hf _).mono ?_
  rintro e w1 ⟨rfl, hb1⟩
  go_wp2_with fail
  go_ret
  exact ⟨rfl, bt hb hb1⟩
end Go.Proofs.YtlapjkbefkmohaaGreat

set_option linter.unusedVariables false
namespace Go.Proofs.YtlapjkbefkmohaaGreat
open Go.RowKit Go.Shelf
def smD0 : Dk := Dk.blank 112
def smQ0 : Pn := (Pn.set Pn.none 0 (writeW 20 8)).1
def smQ : Pn := (Pn.rtSet smQ0 0 1).1
def smP : Pn := (Pn.cntAdd smD0 smQ 0 1).1
def smD1 : Dk := (Pn.lay smD0 smP).1
def smD : Dk := smD1.flush.1
def smI : Im := ⟨smD, 20, 8, ⟨1, 0⟩, [], false⟩
set_option maxRecDepth 100000 in
theorem ev_small : smD0.fit = true ∧ writeE 20 8 = 0 ∧ (Pn.set Pn.none 0 (writeW 20 8)).2 = 0 ∧ (Pn.rtSet smQ0 0 1).2 = 0 ∧ (Pn.cntAdd smD0 smQ 0 1).2 = 0 ∧ (Pn.lay smD0 smP).2 = 0 ∧ smD1.fit = true ∧ smD1.flush.2 = 0 ∧ smD.fit = true := by decide +kernel
end Go.Proofs.YtlapjkbefkmohaaGreat
