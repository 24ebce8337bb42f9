/- Package plan: a plan with a sector more (a new one). -/
import Derived.Test.YtjhnaeomaigimaaGreatDoorPlan4
import Derived.Test.YtjhnaeomaigimaaGreatDoorRegs
import Derived.Deep.RegionLaw
import Derived.Deep.AppendLies
import Derived.Deep.RegionHeld3
import Derived.Deep.DeepCutAuto
import Derived.Deep.CutBlock
set_option linter.unusedVariables false
namespace Go.Proofs.YtjhnaeomaigimaaGreatDoor
open Go.RowKit Go.Shelf
attribute [local go_sem] bs_mk bs_append bs_extract bs_size bs_toList bs_get
/-- Both slices have grown, and stand in the box. -/
def SetGrown (w1 W : World) (g : Nat) (L : Pn) (k : Int) (s : List UInt8) (v : Value) : Prop := ∃ gg1 cap1 gg2 cap2, v = .pointer (some ⟨g, 0, none⟩) ∧ Blk W g 28 #[.slice (some ⟨gg1, 0, none⟩) (L.targets.length + 1) cap1, .slice (some ⟨gg2, 0, none⟩) (L.data.length + 1) cap2] ∧
  W.ownsRow w1.heap.size 3 1 (.slice (some ⟨gg1, 0, none⟩) (L.targets.length + 1) cap1) (L.targets.length + 1) (intCells L.targets ++ [.int .i64 k]) ∧ W.ownsRow w1.heap.size 9 1 (.slice (some ⟨gg2, 0, none⟩) (L.data.length + 1) cap2) (L.data.length + 1) (strCells L.data ++ [.string (bs s)]) ∧ Below w1.heap.size w1 W
theorem set_mid {w1 W2 : World} {L : Pn} {k : Int} {s : List UInt8} {g gg1 gg2 cap1 cap2 : Nat} {c0 c1 : Value} (hg : w1.heap.size ≤ g)
    (O1 : W2.ownsRow w1.heap.size 3 1 (.slice (some ⟨gg1, 0, none⟩) (L.targets.length + 1) cap1) (L.targets.length + 1) (intCells L.targets ++ [.int .i64 k])) (O2 : W2.ownsRow w1.heap.size 9 1 (.slice (some ⟨gg2, 0, none⟩) (L.data.length + 1) cap2) (L.data.length + 1) (strCells L.data ++ [.string (bs s)]))
    (QC : Blk W2 g 28 #[c0, c1]) (BW2 : Below w1.heap.size w1 W2) :
    SetGrown w1 ((W2.setCell ⟨g, 0, none⟩ (.slice (some ⟨gg1, 0, none⟩) (L.targets.length + 1) cap1)).setCell ⟨g, 1, none⟩ (.slice (some ⟨gg2, 0, none⟩) (L.data.length + 1) cap2)) g L k s (.pointer (some ⟨g, 0, none⟩)) := by
  have P1 := ownsRow_setCell_other (ownsRow_setCell_other O1 (a := ⟨g, 0, none⟩) (own_box O1 QC (by decide)).symm (.slice (some ⟨gg1, 0, none⟩) (L.targets.length + 1) cap1)) (a := ⟨g, 1, none⟩) (own_box O1 QC (by decide)).symm (.slice (some ⟨gg2, 0, none⟩) (L.data.length + 1) cap2)
  have P2 := ownsRow_setCell_other (ownsRow_setCell_other O2 (a := ⟨g, 0, none⟩) (own_box O2 QC (by decide)).symm (.slice (some ⟨gg1, 0, none⟩) (L.targets.length + 1) cap1)) (a := ⟨g, 1, none⟩) (own_box O2 QC (by decide)).symm (.slice (some ⟨gg2, 0, none⟩) (L.data.length + 1) cap2)
  refine ⟨gg1, cap1, gg2, cap2, rfl, ?_, P1, P2, (BW2.setCell (p := ⟨g, 0, none⟩) hg _).setCell (p := ⟨g, 1, none⟩) hg _⟩
  have := (QC.set 0 (.slice (some ⟨gg1, 0, none⟩) (L.targets.length + 1) cap1)).set 1 (.slice (some ⟨gg2, 0, none⟩) (L.data.length + 1) cap2)
  simpa using this
/-- While the slices grow: what is known of the box and of both. -/
structure SetSt (w1 W : World) (g : Nat) (L : Pn) (k : Int) (s : List UInt8) (v1 v2 : Value) (n1 n2 : Nat) (xs1 xs2 : List Value) (c1 c2 : Value) : Prop where
  r1 : W.ownsRow w1.heap.size 3 1 v1 n1 xs1
  r2 : W.ownsRow w1.heap.size 9 1 v2 n2 xs2
  qb : Blk W g 28 #[c1, c2]
  bw : Below w1.heap.size w1 W
section
variable {w1 W W' : World} {g : Nat} {L : Pn} {k : Int} {s : List UInt8} {v1 v2 : Value} {n1 n2 : Nat} {xs1 xs2 : List Value} {c1 c2 : Value}
theorem SetSt.alloc (h : SetSt w1 W g L k s v1 v2 n1 n2 xs1 xs2 c1 c2) (o : Obj) : SetSt w1 (W.alloc o) g L k s v1 v2 n1 n2 xs1 xs2 c1 c2 := ⟨h.r1.alloc o, h.r2.alloc o, h.qb.alloc o, h.bw.alloc h.bw.size o⟩
theorem SetSt.grow1 (h : SetSt w1 W g L k s v1 v2 n1 n2 xs1 xs2 c1 c2) (gr : W.grownBy W' v1.ownBlock) {v : Value} {n : Nat} {xs : List Value} (h' : W'.ownsRow w1.heap.size 3 1 v n xs) : SetSt w1 W' g L k s v v2 n n2 xs xs2 c1 c2 :=
  ⟨h', h.r2.kept gr (own_apart h.r2 h.r1 (by decide)), h.qb.kept gr (own_box h.r1 h.qb (by decide)), h.bw.trans (grown_below h.r1 gr h.bw.size)⟩
theorem SetSt.grow2 (h : SetSt w1 W g L k s v1 v2 n1 n2 xs1 xs2 c1 c2) (gr : W.grownBy W' v2.ownBlock) {v : Value} {n : Nat} {xs : List Value} (h' : W'.ownsRow w1.heap.size 9 1 v n xs) : SetSt w1 W' g L k s v1 v n1 n xs1 xs c1 c2 :=
  ⟨h.r1.kept gr (own_apart h.r1 h.r2 (by decide)), h', h.qb.kept gr (own_box h.r2 h.qb (by decide)), h.bw.trans (grown_below h.r2 gr h.bw.size)⟩
end
theorem set_end {w w1 W : World} {L : Pn} {p q : Pl} {k : Int} {s : List UInt8} {gg1 gg2 cap1 cap2 : Nat} {u v : Value} (hL : IsPn w L p q) (hk : -9223372036854775808 ≤ k ∧ k ≤ 9223372036854775807) (hs : s.length = 64) (hlt : w.heap.size + 1 < w1.heap.size) (hbw : Below w.heap.size w w1)
    (z : Blk W (w.heap.size + 1) 28 #[u, v]) (P1 : W.ownsRow w1.heap.size 3 1 (.slice (some ⟨gg1, 0, none⟩) (L.targets.length + 1) cap1) (L.targets.length + 1) (intCells L.targets ++ [.int .i64 k])) (P2 : W.ownsRow w1.heap.size 9 1 (.slice (some ⟨gg2, 0, none⟩) (L.data.length + 1) cap2) (L.data.length + 1) (strCells L.data ++ [.string (bs s)]))
    (BW : Below w1.heap.size w1 W) :
    IsPn ((W.setCell ⟨w.heap.size + 1, 0, none⟩ (.slice (some ⟨gg1, 0, none⟩) (L.targets.length + 1) cap1)).setCell ⟨w.heap.size + 1, 1, none⟩ (.slice (some ⟨gg2, 0, none⟩) (L.data.length + 1) cap2)) ⟨L.targets ++ [k], L.data ++ [s]⟩ ⟨some ⟨gg1, 0, none⟩, cap1⟩ ⟨some ⟨gg2, 0, none⟩, cap2⟩ ∧
    Blk ((W.setCell ⟨w.heap.size + 1, 0, none⟩ (.slice (some ⟨gg1, 0, none⟩) (L.targets.length + 1) cap1)).setCell ⟨w.heap.size + 1, 1, none⟩ (.slice (some ⟨gg2, 0, none⟩) (L.data.length + 1) cap2)) (w.heap.size + 1) 28 #[(.slice (some ⟨gg1, 0, none⟩) (L.targets.length + 1) cap1), (.slice (some ⟨gg2, 0, none⟩) (L.data.length + 1) cap2)] ∧
    Below w.heap.size w ((W.setCell ⟨w.heap.size + 1, 0, none⟩ (.slice (some ⟨gg1, 0, none⟩) (L.targets.length + 1) cap1)).setCell ⟨w.heap.size + 1, 1, none⟩ (.slice (some ⟨gg2, 0, none⟩) (L.data.length + 1) cap2)) ∧
    ∀ g, g < w.heap.size → PnOff g L p q → PnOff g ⟨L.targets ++ [k], L.data ++ [s]⟩ ⟨some ⟨gg1, 0, none⟩, cap1⟩ ⟨some ⟨gg2, 0, none⟩, cap2⟩ := by
  obtain ⟨_, _, s1, u1, u2, u3⟩ := own_slice P1
  injection s1 with s1 _ s1'
  subst s1; subst s1'
  obtain ⟨_, _, s2, v1, v2, v3⟩ := own_slice P2
  injection s2 with s2 _ s2'
  subst s2; subst s2'
  have c1 := ((Cells.of_own P1).setCell (p := ⟨w.heap.size + 1, 0, none⟩) (own_beyond P1 hlt) (.slice (some ⟨gg1, 0, none⟩) (L.targets.length + 1) cap1)).setCell (p := ⟨w.heap.size + 1, 1, none⟩) (own_beyond P1 hlt) (.slice (some ⟨gg2, 0, none⟩) (L.data.length + 1) cap2)
  have c2 := ((Cells.of_own P2).setCell (p := ⟨w.heap.size + 1, 0, none⟩) (own_beyond P2 hlt) (.slice (some ⟨gg1, 0, none⟩) (L.targets.length + 1) cap1)).setCell (p := ⟨w.heap.size + 1, 1, none⟩) (own_beyond P2 hlt) (.slice (some ⟨gg2, 0, none⟩) (L.data.length + 1) cap2)
  rw [show intCells L.targets ++ [Value.int .i64 k] = intCells (L.targets ++ [k]) by simp [intCells]] at c1
  rw [show strCells L.data ++ [Value.string (bs s)] = strCells (L.data ++ [s]) by simp [strCells]] at c2
  have bb := hbw.trans (BW.mono (by omega))
  refine ⟨⟨c1, c2, u3, v3, by simpa using u1, by simpa using v1, u2, v2, fun x hx => ?_, fun x hx => ?_⟩, ?_, (bb.setCell (p := ⟨w.heap.size + 1, 0, none⟩) (by simp) (.slice (some ⟨gg1, 0, none⟩) (L.targets.length + 1) cap1)).setCell (p := ⟨w.heap.size + 1, 1, none⟩) (by simp) (.slice (some ⟨gg2, 0, none⟩) (L.data.length + 1) cap2), fun g hg _ => ⟨?_, ?_⟩⟩
  · rcases List.mem_append.1 hx with h | h
    · exact hL.ats x h
    · simp at h; subst h; exact hk
  · rcases List.mem_append.1 hx with h | h
    · exact hL.strs x h
    · simp at h; subst h; omega
  · have := (z.set 0 (.slice (some ⟨gg1, 0, none⟩) (L.targets.length + 1) cap1)).set 1 (.slice (some ⟨gg2, 0, none⟩) (L.data.length + 1) cap2)
    simpa using this
  · have := off_own (g := g) P1 (by omega); simpa using this
  · have := off_own (g := g) P2 (by omega); simpa using this
set_option maxRecDepth 100000 in
set_option maxHeartbeats 4000000 in
theorem pl_set_new (L : Pn) (p q : Pl) (w : World) (hL : IsPn w L p q) (k : Int) (s : List UInt8) (h1 : sectorOk k = true) (h2 : s.length = 64) (ht : L.targets.length ≤ 1000000) (hd : L.data.length ≤ 1000000) (he : L.targets.length = L.data.length) (hk : -9223372036854775808 ≤ k ∧ k ≤ 9223372036854775807) (hm : k ∉ L.targets) (hfull : ¬ 24 ≤ L.targets.length) :
    Calls Tryz.prog 44 #[pval L p q, .int .i64 k, .string (bs s)] w fun e w' => RetPn w.heap.size L p q (L.set k s) e w' ∧ Below w.heap.size w w' := by
  have ho := fun W => pl_outside k W
  rw [h1] at ho
  have n0 : ((s.length : Int) != 64) = false := by simp; omega
  have hc1 := fun (W : World) (hb : Below w.heap.size w W) => clone_ints p.a L.targets p.c W (hL.targets.below hb) (by omega) hL.pn
  have hc2 := fun (W : World) (hb : Below w.heap.size w W) => clone_strs q.a L.data q.c W (hL.data.below hb) (by omega) hL.qn
  obtain ⟨A1, c1⟩ := p
  obtain ⟨A2, c2⟩ := q
  simp only at hc1 hc2
  have x0 := (Blk.new w 28 #[.slice A1 L.targets.length c1, .slice A2 L.data.length c2]).alloc (.cells #[.slice none 0 0, .slice none 0 0] 28)
  have b0 := below_two w (.cells #[.slice A1 L.targets.length c1, .slice A2 L.data.length c2] 28) (.cells #[.slice none 0 0, .slice none 0 0] 28)
  have z0 := Blk.new (w.alloc (.cells #[.slice A1 L.targets.length c1, .slice A2 L.data.length c2] 28)) 28 #[.slice none 0 0, .slice none 0 0]
  simp only [World.size_alloc] at z0
  have He := hid he
  clear he
  have Hsz := hid (show ((w.alloc (.cells #[.slice A1 L.targets.length c1, .slice A2 L.data.length c2] 28)).alloc (.cells #[.slice none 0 0, .slice none 0 0] 28)).heap.size = w.heap.size + 2 by simp)
  go_enter Tryz.func44, Tryz.ntmps44
  go_wp2_with fail
  go_at_call 94
  refine (ho _).mono ?_
  rintro e w1 ⟨rfl, rfl⟩
  go_upto_region 5 with fail
  generalize (w.alloc (.cells #[.slice A1 L.targets.length c1, .slice A2 L.data.length c2] 28)).alloc (.cells #[.slice none 0 0, .slice none 0 0] 28) = w1 at *
  have y0 := blk2 x0
  have s0 : (w1.drew.cell? ⟨w.heap.size, 0, none⟩ = some (.slice A1 L.targets.length c1) ∧ w1.drew.cell? ⟨w.heap.size, 1, none⟩ = some (.slice A2 L.data.length c2)) ∧ Below w.heap.size w w1.drew ∧ Below w1.heap.size w1 w1.drew := ⟨y0, b0.drew, (Below.refl _ _).drew⟩
  go_cut [8] (fun s8 wx => SetMade w1 wx L s8)
  case first =>
    go_region_held3 (fun W => (W.cell? ⟨w.heap.size, 0, none⟩ = some (.slice A1 L.targets.length c1) ∧ W.cell? ⟨w.heap.size, 1, none⟩ = some (.slice A2 L.data.length c2)) ∧ Below w.heap.size w W ∧ Below w1.heap.size w1 W)
      (first | exact s0 | exact ⟨y0, b0, Below.refl _ _⟩ | exact set_held (s0) hbl1 | exact set_held (s0) hbl2 | exact set_held (s0) ((Below.refl _ _).alloc (Nat.le_refl _) _) | exact set_held (set_held (s0) hbl1) hbl2 | exact set_held (set_held (s0) hbl2) hbl1 | exact set_held (set_held (s0) hbl1) ((Below.refl _ _).alloc (Nat.le_refl _) _) | exact set_held (set_held (s0) ((Below.refl _ _).alloc (Nat.le_refl _) _)) hbl1 | exact set_held (set_held (s0) hbl2) ((Below.refl _ _).alloc (Nat.le_refl _) _) | exact set_held (set_held (s0) ((Below.refl _ _).alloc (Nat.le_refl _) _)) hbl2 | exact set_held (set_held (set_held (s0) hbl1) hbl2) ((Below.refl _ _).alloc (Nat.le_refl _) _) | exact set_held (set_held (set_held (s0) hbl1) ((Below.refl _ _).alloc (Nat.le_refl _) _)) hbl2 | exact set_held (set_held (set_held (s0) ((Below.refl _ _).alloc (Nat.le_refl _) _)) hbl1) hbl2 | exact set_held (set_held (set_held (s0) hbl2) hbl1) ((Below.refl _ _).alloc (Nat.le_refl _) _) | exact set_held (set_held (set_held (s0) hbl2) ((Below.refl _ _).alloc (Nat.le_refl _) _)) hbl1 | exact set_held (set_held (set_held (s0) ((Below.refl _ _).alloc (Nat.le_refl _) _)) hbl2) hbl1 | exact set_held2 (set_held (set_held (set_held (s0) hbl1) ((Below.refl _ _).alloc (Nat.le_refl _) _)) hbl2) (by first | (have z : w1.heap.size ≤ W1.heap.size := hbl1.size; have z0 := Hsz.out; omega) | (have z : w1.heap.size ≤ W2.heap.size := hbl2.size; have z0 := Hsz.out; omega) | (have z : w1.drew.heap.size = w1.heap.size := rfl; have z0 := Hsz.out; omega)) (by first | (have z : w1.heap.size ≤ W1.heap.size := hbl1.size; have z0 := Hsz.out; omega) | (have z : w1.heap.size ≤ W2.heap.size := hbl2.size; have z0 := Hsz.out; omega) | (have z : w1.drew.heap.size = w1.heap.size := rfl; have z0 := Hsz.out; omega)) (by first | (have z : w1.heap.size ≤ W1.heap.size := hbl1.size; have z0 := Hsz.out; omega) | (have z : w1.heap.size ≤ W2.heap.size := hbl2.size; have z0 := Hsz.out; omega) | (have z : w1.drew.heap.size = w1.heap.size := rfl; have z0 := Hsz.out; omega)) | exact set_held2 (set_held (set_held (set_held (s0) ((Below.refl _ _).alloc (Nat.le_refl _) _)) hbl1) hbl2) (by first | (have z : w1.heap.size ≤ W1.heap.size := hbl1.size; have z0 := Hsz.out; omega) | (have z : w1.heap.size ≤ W2.heap.size := hbl2.size; have z0 := Hsz.out; omega) | (have z : w1.drew.heap.size = w1.heap.size := rfl; have z0 := Hsz.out; omega)) (by first | (have z : w1.heap.size ≤ W1.heap.size := hbl1.size; have z0 := Hsz.out; omega) | (have z : w1.heap.size ≤ W2.heap.size := hbl2.size; have z0 := Hsz.out; omega) | (have z : w1.drew.heap.size = w1.heap.size := rfl; have z0 := Hsz.out; omega)) (by first | (have z : w1.heap.size ≤ W1.heap.size := hbl1.size; have z0 := Hsz.out; omega) | (have z : w1.heap.size ≤ W2.heap.size := hbl2.size; have z0 := Hsz.out; omega) | (have z : w1.drew.heap.size = w1.heap.size := rfl; have z0 := Hsz.out; omega)) | exact set_held2 (set_held (set_held (set_held (s0) hbl2) ((Below.refl _ _).alloc (Nat.le_refl _) _)) hbl1) (by first | (have z : w1.heap.size ≤ W1.heap.size := hbl1.size; have z0 := Hsz.out; omega) | (have z : w1.heap.size ≤ W2.heap.size := hbl2.size; have z0 := Hsz.out; omega) | (have z : w1.drew.heap.size = w1.heap.size := rfl; have z0 := Hsz.out; omega)) (by first | (have z : w1.heap.size ≤ W1.heap.size := hbl1.size; have z0 := Hsz.out; omega) | (have z : w1.heap.size ≤ W2.heap.size := hbl2.size; have z0 := Hsz.out; omega) | (have z : w1.drew.heap.size = w1.heap.size := rfl; have z0 := Hsz.out; omega)) (by first | (have z : w1.heap.size ≤ W1.heap.size := hbl1.size; have z0 := Hsz.out; omega) | (have z : w1.heap.size ≤ W2.heap.size := hbl2.size; have z0 := Hsz.out; omega) | (have z : w1.drew.heap.size = w1.heap.size := rfl; have z0 := Hsz.out; omega)) | exact set_held2 (set_held (set_held (set_held (s0) ((Below.refl _ _).alloc (Nat.le_refl _) _)) hbl2) hbl1) (by first | (have z : w1.heap.size ≤ W1.heap.size := hbl1.size; have z0 := Hsz.out; omega) | (have z : w1.heap.size ≤ W2.heap.size := hbl2.size; have z0 := Hsz.out; omega) | (have z : w1.drew.heap.size = w1.heap.size := rfl; have z0 := Hsz.out; omega)) (by first | (have z : w1.heap.size ≤ W1.heap.size := hbl1.size; have z0 := Hsz.out; omega) | (have z : w1.heap.size ≤ W2.heap.size := hbl2.size; have z0 := Hsz.out; omega) | (have z : w1.drew.heap.size = w1.heap.size := rfl; have z0 := Hsz.out; omega)) (by first | (have z : w1.heap.size ≤ W1.heap.size := hbl1.size; have z0 := Hsz.out; omega) | (have z : w1.heap.size ≤ W2.heap.size := hbl2.size; have z0 := Hsz.out; omega) | (have z : w1.drew.heap.size = w1.heap.size := rfl; have z0 := Hsz.out; omega)))
      (first | (go_at_call 95; refine (hc1 _ (by first | exact s0.2.1 | exact (set_held (s0) hbl2).2.1 | exact (set_held (s0) ((Below.refl _ _).alloc (Nat.le_refl _) _)).2.1 | exact (set_held (set_held (s0) hbl2) ((Below.refl _ _).alloc (Nat.le_refl _) _)).2.1 | exact (set_held (set_held (s0) ((Below.refl _ _).alloc (Nat.le_refl _) _)) hbl2).2.1)).mono ?_; rintro e W1 ⟨v1, rfl, hown1, hbl1⟩; obtain ⟨B1, e1, rfl, f1, g1, i1⟩ := own_slice hown1; first | (have qb1 : Blk W1 w1.heap.size 28 #[.slice none 0 0, .slice none 0 0] := (Blk.new w1.drew 28 #[.slice none 0 0, .slice none 0 0]).below hbl1 (Blk.new w1.drew 28 #[.slice none 0 0, .slice none 0 0]).lt; have qc1 := blk2 qb1; have qf1 := qb1.frozen) | (have qb1 := (Blk.new W2 28 #[.slice none 0 0, .slice none 0 0]).below hbl1 (Blk.new W2 28 #[.slice none 0 0, .slice none 0 0]).lt; have qc1 := blk2 qb1; have qf1 := qb1.frozen) | (have qb1 := qb2.below hbl1 qb2.lt; have qc1 := blk2 qb1; have qf1 := qb1.frozen) | skip) | (go_at_call 96; refine (hc2 _ (by first | exact s0.2.1 | exact (set_held (s0) hbl1).2.1 | exact (set_held (s0) ((Below.refl _ _).alloc (Nat.le_refl _) _)).2.1 | exact (set_held (set_held (s0) hbl1) ((Below.refl _ _).alloc (Nat.le_refl _) _)).2.1 | exact (set_held (set_held (s0) ((Below.refl _ _).alloc (Nat.le_refl _) _)) hbl1).2.1)).mono ?_; rintro e W2 ⟨v2, rfl, hown2, hbl2⟩; obtain ⟨B2, e2, rfl, f2, g2, i2⟩ := own_slice hown2; first | (have qb2 : Blk W2 w1.heap.size 28 #[.slice none 0 0, .slice none 0 0] := (Blk.new w1.drew 28 #[.slice none 0 0, .slice none 0 0]).below hbl2 (Blk.new w1.drew 28 #[.slice none 0 0, .slice none 0 0]).lt; have qc2 := blk2 qb2; have qf2 := qb2.frozen) | (have qb2 := (Blk.new W1 28 #[.slice none 0 0, .slice none 0 0]).below hbl2 (Blk.new W1 28 #[.slice none 0 0, .slice none 0 0]).lt; have qc2 := blk2 qb2; have qf2 := qb2.frozen) | (have qb2 := qb1.below hbl2 qb1.lt; have qc2 := blk2 qb2; have qf2 := qb2.frozen) | skip))

    · go_wp2_with fail
      go_meet
      have z1 : w1.heap.size ≤ W1.heap.size := hbl1.size
      have z2 : W1.heap.size ≤ W2.heap.size := hbl2.size
      exact ⟨W2.heap.size, B1, e1, B2, e2, rfl, by omega, Blk.new W2 _ _, own_below (own_below hown1 hbl2) ((Below.refl _ _).alloc (Nat.le_refl _) _), own_base (own_below hown2 ((Below.refl _ _).alloc (Nat.le_refl _) _)) z1, (set_held (set_held (s0) hbl1) hbl2).2.2.alloc (by omega) _⟩
    · go_wp2_with fail
      go_meet
      have z1 : w1.heap.size ≤ W1.heap.size := hbl1.size
      have qb : Blk ((W2.setCell ⟨W1.heap.size, 0, none⟩ (.slice B1 L.targets.length e1)).setCell ⟨W1.heap.size, 1, none⟩ (.slice B2 L.data.length e2)) W1.heap.size 28 #[.slice B1 L.targets.length e1, .slice B2 L.data.length e2] := by
        have := (qb2.set 0 (.slice B1 L.targets.length e1)).set 1 (.slice B2 L.data.length e2)
        simpa using this
      have r1 := own_below (own_below hown1 ((Below.refl _ _).alloc (Nat.le_refl _) (.cells #[.slice none 0 0, .slice none 0 0] 28))) hbl2
      have nb : Value.ownBlock (.slice B1 L.targets.length e1) ≠ some W1.heap.size := fun e => by have := (hown1.lt _ e).2; omega
      have r2 := own_base (base := w1.heap.size) (ownsRow_setCell_below (ownsRow_setCell_below hown2 (a := ⟨W1.heap.size, 0, none⟩) (by simp) (.slice B1 L.targets.length e1)) (a := ⟨W1.heap.size, 1, none⟩) (by simp) (.slice B2 L.data.length e2)) (by simp; omega)
      exact ⟨W1.heap.size, B1, e1, B2, e2, rfl, z1, qb, ownsRow_setCell_other (ownsRow_setCell_other r1 (a := ⟨W1.heap.size, 0, none⟩) nb (.slice B1 L.targets.length e1)) (a := ⟨W1.heap.size, 1, none⟩) nb (.slice B2 L.data.length e2), r2,
        ((set_held (set_held (set_held (s0) hbl1) ((Below.refl _ _).alloc (Nat.le_refl _) _)) hbl2).2.2.setCell (p := ⟨W1.heap.size, 0, none⟩) z1 _).setCell (p := ⟨W1.heap.size, 1, none⟩) z1 _⟩
    · go_wp2_with fail
      go_meet
      have z1 : w1.heap.size + 1 ≤ W1.heap.size := by have := hbl1.size; simpa using this
      have qb : Blk ((W2.setCell ⟨w1.heap.size, 0, none⟩ (.slice B1 L.targets.length e1)).setCell ⟨w1.heap.size, 1, none⟩ (.slice B2 L.data.length e2)) w1.heap.size 28 #[.slice B1 L.targets.length e1, .slice B2 L.data.length e2] := by
        have := (qb2.set 0 (.slice B1 L.targets.length e1)).set 1 (.slice B2 L.data.length e2)
        simpa using this
      have r1 := own_base (base := w1.heap.size) (ownsRow_setCell_below (ownsRow_setCell_below (own_below hown1 hbl2) (a := ⟨w1.heap.size, 0, none⟩) (by simp) (.slice B1 L.targets.length e1)) (a := ⟨w1.heap.size, 1, none⟩) (by simp) (.slice B2 L.data.length e2)) (by simp)
      have r2 := own_base (base := w1.heap.size) (ownsRow_setCell_below (ownsRow_setCell_below hown2 (a := ⟨w1.heap.size, 0, none⟩) (by simp; omega) (.slice B1 L.targets.length e1)) (a := ⟨w1.heap.size, 1, none⟩) (by simp; omega) (.slice B2 L.data.length e2)) (by omega)
      exact ⟨w1.heap.size, B1, e1, B2, e2, rfl, Nat.le_refl _, qb, r1, r2,
        ((set_held (set_held (set_held (s0) ((Below.refl _ _).alloc (Nat.le_refl _) _)) hbl1) hbl2).2.2.setCell (p := ⟨w1.heap.size, 0, none⟩) (Nat.le_refl _) _).setCell (p := ⟨w1.heap.size, 1, none⟩) (Nat.le_refl _) _⟩
  case rest =>
    clear hc1 hc2
    obtain ⟨g, B1, e1, B2, e2, rfl, hg, qb, r1, r2, hB⟩ := hcut
    have hz := Hsz.out
    have Hz := hid hz
    have x1 := x0.below hB (by omega)
    have z1 := z0.below hB (by omega)
    have b1 := b0.trans (hB.mono (by omega) : Below w.heap.size w1 wc)
    have ng1 : ¬ w.heap.size = g := by omega
    have ng2 : ¬ w.heap.size + 1 = g := by omega
    have ng3 : ¬ g = w.heap.size := by omega
    have ng4 : ¬ g = w.heap.size + 1 := by omega
    clear hz
    have hix := index_any A1 L.targets c1 k wc (hL.below b1).targets (by omega) L.data
    have k1 := blk2 x1
    have k2 := blk2 z1
    have k3 := blk2 qb
    have k4 := z1.frozen
    rw [show (⟨L.targets, L.data⟩ : Pn).find k = -1 from Pn.find_out hm] at hix
    have Hw := hid (show L.set k s = (⟨L.targets ++ [k], L.data ++ [s]⟩, 0) by rw [Pn.set, if_neg (by rw [h1]; simp), if_neg (by omega), if_neg hm, if_neg hfull])
    obtain ⟨i1, j1, iz1, iz2, iz3⟩ := info_parts Tryz.infoIntP
    obtain ⟨i2, j2, jz1, jz2, jz3⟩ := info_parts Tryz.infoStrP
    go_wp2_with fail
    go_at_call 97
    refine hix.mono ?_
    rintro e w3 ⟨rfl, rfl⟩
    go_upto_block 1 with fail
    go_cut [8] (fun s8 wx => SetGrown w1 wx g L k s s8)
    case first =>
      go_wp2_with fail
      have s0 : w3.drew.cell? ⟨g, 0, none⟩ = some (.slice B1 L.targets.length e1) ∧ w3.drew.cell? ⟨g, 1, none⟩ = some (.slice B2 L.data.length e2) := k3
      have BW0 : Below w3.heap.size w3 w3.drew := (Below.refl _ _).drew
      have neb : ∀ b, w3.heap.size ≤ b → some b ≠ Value.ownBlock (.slice B1 L.targets.length e1) := fun b hb h => by have := (r1.lt b h.symm).2; omega
      have st : SetSt w1 w3.drew g L k s (.slice B1 L.targets.length e1) (.slice B2 L.data.length e2) L.targets.length L.data.length (intCells L.targets) (strCells L.data) (.slice B1 L.targets.length e1) (.slice B2 L.data.length e2) :=
        ⟨own_below r1 BW0, own_below r2 BW0, qb.drew, hB.drew⟩
      clear hix ho x0 y0 z1 x1 k1 k2 k3 k4
      refine wp_region_late (S := fun W => W.cell? ⟨g, 0, none⟩ = some (.slice B1 L.targets.length e1) ∧ W.cell? ⟨g, 1, none⟩ = some (.slice B2 L.data.length e2)) (late := fun i => i == 11 || i == 12 || i == 13) (by kernel_rfl) ?_
      simp only [List.size_toArray, List.length_cons, List.length_nil, Nat.reduceAdd, Array.replicate_succ, Array.replicate_zero, List.push_toArray, List.nil_append, List.cons_append]
      refine wpLate_take0 (i := 0) (oi := _) (v := .pointer (some ⟨g, 0, none⟩)) (d := some 30) rfl rfl (by kernel_rfl) (by kernel_rfl) (by kernel_rfl) (fun _ _ _ h => h) rfl (fun W => by rfl) ?_
      simp only [Act.put, List.setIfInBounds_toArray, List.set_cons_zero, List.set_cons_succ]
      refine wpLate_take (i := 1) (oi := _) (v := .slice B1 L.targets.length e1) (d := some 31) rfl rfl (by kernel_rfl) (by kernel_rfl) (by kernel_rfl) (by kernel_rfl) (fun _ _ _ h => h) rfl (fun W hW => by have h := hW.1; go_simp) s0 ?_
      simp only [Act.put, List.setIfInBounds_toArray, List.set_cons_zero, List.set_cons_succ]
      refine wpLate_take0 (i := 2) (oi := _) (v := .int .i64 k) (d := some 32) rfl rfl (by kernel_rfl) (by kernel_rfl) (by kernel_rfl) (fun _ _ _ h => h) rfl (fun W => by rfl) ?_
      simp only [Act.put, List.setIfInBounds_toArray, List.set_cons_zero, List.set_cons_succ]
      refine wpLate_take0 (i := 5) (oi := _) (v := .pointer (some ⟨g, 1, none⟩)) (d := some 35) rfl rfl (by kernel_rfl) (by kernel_rfl) (by kernel_rfl) (fun _ _ _ h => h) rfl (fun W => by rfl) ?_
      simp only [Act.put, List.setIfInBounds_toArray, List.set_cons_zero, List.set_cons_succ]
      refine wpLate_take (i := 6) (oi := _) (v := .slice B2 L.data.length e2) (d := some 36) rfl rfl (by kernel_rfl) (by kernel_rfl) (by kernel_rfl) (by kernel_rfl) (fun _ _ _ h => h) rfl (fun W hW => by have h := hW.2; go_simp) s0 ?_
      simp only [Act.put, List.setIfInBounds_toArray, List.set_cons_zero, List.set_cons_succ]
      refine wpLate_take0 (i := 7) (oi := _) (v := .string (bs s)) (d := some 37) rfl rfl (by kernel_rfl) (by kernel_rfl) (by kernel_rfl) (fun _ _ _ h => h) rfl (fun W => by rfl) ?_
      simp only [Act.put, List.setIfInBounds_toArray, List.set_cons_zero, List.set_cons_succ]
      refine wpLate_two (i := 3) (k := 8) (by kernel_rfl) rfl rfl rfl rfl (fun K hK => ?_) (fun K hK => ?_)
      · refine oper_ran (v := .slice (some ⟨(w3.drew).heap.size, 0, none⟩) 1 1) (w' := (w3.drew).alloc (.cells #[.int .i64 k] 3)) (by go_simp) ?_
        show K (Act.put _ (some 33) _) _
        refine hK _ _ (fun _ _ => blk2 (st.alloc (.cells #[.int .i64 k] 3)).qb) ?_
        simp only [Act.put, List.setIfInBounds_toArray, List.set_cons_zero, List.set_cons_succ]
        have st1 := st.alloc (.cells #[.int .i64 k] 3)
        refine wpLate_two (i := 4) (k := 8) (by kernel_rfl) rfl rfl rfl rfl (fun K hK => ?_) (fun K hK => ?_)
        · refine wp_append_lies _ (.tmp 31) (.tmp 33) 23 rfl w1.heap.size 3 i1 (.int .i64 0) 1 8 Tryz.underlying23 j1 iz1 iz2 iz3 rfl (by decide) _ L.targets.length (intCells L.targets) rfl st1.r1 ⟨w3.drew.heap.size, 0, none⟩ 1 1 [.int .i64 k] rfl rfl (World.news_of_block (Blk.new w3.drew 3 #[.int .i64 k])) (by simp [Value.oneCell']) (by omega) (by unfold maxLen; omega) (by omega) st1.bw.size _ rfl ?_
          intro gg1 cap1 W1 h1 gr1 _ _
          have gr1 : (w3.drew.alloc (.cells #[.int .i64 k] 3)).grownBy W1 (Value.slice B1 L.targets.length e1).ownBlock := gr1
          have st2 := st1.grow1 gr1 h1
          show K (Act.put _ (some 34) _) _
          refine hK _ _ (fun _ _ => blk2 st2.qb) ?_
          simp only [Act.put, List.setIfInBounds_toArray, List.set_cons_zero, List.set_cons_succ]
          refine wpLate_take0 (i := 10) (oi := _) (v := .pointer (some ⟨g, 0, none⟩)) (d := some 40) rfl rfl (by kernel_rfl) (by kernel_rfl) (by kernel_rfl) (fun _ _ _ h => h) rfl (fun W => by rfl) ?_
          simp only [Act.put, List.setIfInBounds_toArray, List.set_cons_zero, List.set_cons_succ]
          refine wpLate_one (i := 8) (by kernel_rfl) rfl rfl (fun K hK => ?_)
          refine oper_ran (v := .slice (some ⟨(W1).heap.size, 0, none⟩) 1 1) (w' := (W1).alloc (.cells #[.string (bs s)] 9)) (by go_simp) ?_
          show K (Act.put _ (some 38) _) _
          refine hK _ _ (fun _ _ => blk2 (st2.alloc (.cells #[.string (bs s)] 9)).qb) ?_
          simp only [Act.put, List.setIfInBounds_toArray, List.set_cons_zero, List.set_cons_succ]
          have st3 := st2.alloc (.cells #[.string (bs s)] 9)
          refine wpLate_one (i := 9) (by kernel_rfl) rfl rfl (fun K hK => ?_)
          refine wp_append_lies _ (.tmp 36) (.tmp 38) 26 rfl w1.heap.size 9 i2 (.string ⟨#[]⟩) 1 16 Tryz.underlying26 j2 jz1 jz2 jz3 rfl (by decide) _ L.data.length (strCells L.data) rfl st3.r2 ⟨W1.heap.size, 0, none⟩ 1 1 [.string (bs s)] rfl rfl (World.news_of_block (Blk.new W1 9 #[.string (bs s)])) (by simp [Value.oneCell']) (by omega) (by unfold maxLen; omega) (by omega) st3.bw.size _ rfl ?_
          intro gg2 cap2 W2 h2 gr2 _ _
          have gr2 : (W1.alloc (.cells #[.string (bs s)] 9)).grownBy W2 (Value.slice B2 L.data.length e2).ownBlock := gr2
          have st4 := st3.grow2 gr2 h2
          show K (Act.put _ (some 39) _) _
          refine hK _ _ (fun _ _ => blk2 st4.qb) ?_
          simp only [Act.put, List.setIfInBounds_toArray, List.set_cons_zero, List.set_cons_succ]
          have u0 := blk2 st4.qb
          have uf := st4.qb.frozen
          have qq := st4.qb.set 0 (Value.slice (some ⟨gg1, 0, none⟩) (L.targets.length + 1) cap1)
          have uf2 := qq.frozen
          have u1 := blk2 qq
          refine wpLate_one (i := 11) (by kernel_rfl) rfl rfl (fun K hK => ?_)
          refine oper_skip (w' := (W2).setCell ⟨g, 0, none⟩ (Value.slice (some ⟨gg1, 0, none⟩) (L.targets.length + 1) cap1)) (by go_simp) ?_
          show K (Act.put _ none _) _
          refine hK _ _ (fun h => by cases h) ?_
          try simp only [Act.put, List.setIfInBounds_toArray, List.set_cons_zero, List.set_cons_succ]
          refine wpLate_take0 (i := 12) (oi := _) (v := .pointer (some ⟨g, 1, none⟩)) (d := some 41) rfl rfl (by kernel_rfl) (by kernel_rfl) (by kernel_rfl) (fun _ _ _ h => h) rfl (fun W => by rfl) ?_
          simp only [Act.put, List.setIfInBounds_toArray, List.set_cons_zero, List.set_cons_succ]
          refine wpLate_one (i := 13) (by kernel_rfl) rfl rfl (fun K hK => ?_)
          refine oper_skip (w' := ((W2).setCell ⟨g, 0, none⟩ (Value.slice (some ⟨gg1, 0, none⟩) (L.targets.length + 1) cap1)).setCell ⟨g, 1, none⟩ (Value.slice (some ⟨gg2, 0, none⟩) (L.data.length + 1) cap2)) (by go_simp) ?_
          show K (Act.put _ none _) _
          refine hK _ _ (fun h => by cases h) ?_
          try simp only [Act.put, List.setIfInBounds_toArray, List.set_cons_zero, List.set_cons_succ]
          refine wpLate_done (by kernel_rfl) ?_ _
          go_wp2_with fail
          go_meet
          exact set_mid hg st4.r1 st4.r2 st4.qb st4.bw
        · refine oper_ran (v := .slice (some ⟨(w3.drew.alloc (.cells #[.int .i64 k] 3)).heap.size, 0, none⟩) 1 1) (w' := (w3.drew.alloc (.cells #[.int .i64 k] 3)).alloc (.cells #[.string (bs s)] 9)) (by go_simp) ?_
          show K (Act.put _ (some 38) _) _
          refine hK _ _ (fun _ _ => blk2 (st1.alloc (.cells #[.string (bs s)] 9)).qb) ?_
          simp only [Act.put, List.setIfInBounds_toArray, List.set_cons_zero, List.set_cons_succ]
          have st2 := st1.alloc (.cells #[.string (bs s)] 9)
          refine wpLate_one (i := 4) (by kernel_rfl) rfl rfl (fun K hK => ?_)
          refine wp_append_lies _ (.tmp 31) (.tmp 33) 23 rfl w1.heap.size 3 i1 (.int .i64 0) 1 8 Tryz.underlying23 j1 iz1 iz2 iz3 rfl (by decide) _ L.targets.length (intCells L.targets) rfl st2.r1 ⟨w3.drew.heap.size, 0, none⟩ 1 1 [.int .i64 k] rfl rfl (World.news_of_block ((Blk.new w3.drew 3 #[.int .i64 k]).alloc (.cells #[.string (bs s)] 9))) (by simp [Value.oneCell']) (by omega) (by unfold maxLen; omega) (by omega) st2.bw.size _ rfl ?_
          intro gg1 cap1 W1 h1 gr1 _ _
          have gr1 : ((w3.drew.alloc (.cells #[.int .i64 k] 3)).alloc (.cells #[.string (bs s)] 9)).grownBy W1 (Value.slice B1 L.targets.length e1).ownBlock := gr1
          have st3 := st2.grow1 gr1 h1
          show K (Act.put _ (some 34) _) _
          refine hK _ _ (fun _ _ => blk2 st3.qb) ?_
          simp only [Act.put, List.setIfInBounds_toArray, List.set_cons_zero, List.set_cons_succ]
          refine wpLate_take0 (i := 10) (oi := _) (v := .pointer (some ⟨g, 0, none⟩)) (d := some 40) rfl rfl (by kernel_rfl) (by kernel_rfl) (by kernel_rfl) (fun _ _ _ h => h) rfl (fun W => by rfl) ?_
          simp only [Act.put, List.setIfInBounds_toArray, List.set_cons_zero, List.set_cons_succ]
          refine wpLate_one (i := 9) (by kernel_rfl) rfl rfl (fun K hK => ?_)
          refine wp_append_lies _ (.tmp 36) (.tmp 38) 26 rfl w1.heap.size 9 i2 (.string ⟨#[]⟩) 1 16 Tryz.underlying26 j2 jz1 jz2 jz3 rfl (by decide) _ L.data.length (strCells L.data) rfl st3.r2 ⟨(w3.drew.alloc (.cells #[.int .i64 k] 3)).heap.size, 0, none⟩ 1 1 [.string (bs s)] rfl rfl (World.news_of_block ((Blk.new (w3.drew.alloc (.cells #[.int .i64 k] 3)) 9 #[.string (bs s)]).kept gr1 (neb _ (by simp)))) (by simp [Value.oneCell']) (by omega) (by unfold maxLen; omega) (by omega) st3.bw.size _ rfl ?_
          intro gg2 cap2 W2 h2 gr2 _ _
          have gr2 : (W1).grownBy W2 (Value.slice B2 L.data.length e2).ownBlock := gr2
          have st4 := st3.grow2 gr2 h2
          show K (Act.put _ (some 39) _) _
          refine hK _ _ (fun _ _ => blk2 st4.qb) ?_
          simp only [Act.put, List.setIfInBounds_toArray, List.set_cons_zero, List.set_cons_succ]
          have u0 := blk2 st4.qb
          have uf := st4.qb.frozen
          have qq := st4.qb.set 0 (Value.slice (some ⟨gg1, 0, none⟩) (L.targets.length + 1) cap1)
          have uf2 := qq.frozen
          have u1 := blk2 qq
          refine wpLate_one (i := 11) (by kernel_rfl) rfl rfl (fun K hK => ?_)
          refine oper_skip (w' := (W2).setCell ⟨g, 0, none⟩ (Value.slice (some ⟨gg1, 0, none⟩) (L.targets.length + 1) cap1)) (by go_simp) ?_
          show K (Act.put _ none _) _
          refine hK _ _ (fun h => by cases h) ?_
          try simp only [Act.put, List.setIfInBounds_toArray, List.set_cons_zero, List.set_cons_succ]
          refine wpLate_take0 (i := 12) (oi := _) (v := .pointer (some ⟨g, 1, none⟩)) (d := some 41) rfl rfl (by kernel_rfl) (by kernel_rfl) (by kernel_rfl) (fun _ _ _ h => h) rfl (fun W => by rfl) ?_
          simp only [Act.put, List.setIfInBounds_toArray, List.set_cons_zero, List.set_cons_succ]
          refine wpLate_one (i := 13) (by kernel_rfl) rfl rfl (fun K hK => ?_)
          refine oper_skip (w' := ((W2).setCell ⟨g, 0, none⟩ (Value.slice (some ⟨gg1, 0, none⟩) (L.targets.length + 1) cap1)).setCell ⟨g, 1, none⟩ (Value.slice (some ⟨gg2, 0, none⟩) (L.data.length + 1) cap2)) (by go_simp) ?_
          show K (Act.put _ none _) _
          refine hK _ _ (fun h => by cases h) ?_
          try simp only [Act.put, List.setIfInBounds_toArray, List.set_cons_zero, List.set_cons_succ]
          refine wpLate_done (by kernel_rfl) ?_ _
          go_wp2_with fail
          go_meet
          exact set_mid hg st4.r1 st4.r2 st4.qb st4.bw
      · refine oper_ran (v := .slice (some ⟨(w3.drew).heap.size, 0, none⟩) 1 1) (w' := (w3.drew).alloc (.cells #[.string (bs s)] 9)) (by go_simp) ?_
        show K (Act.put _ (some 38) _) _
        refine hK _ _ (fun _ _ => blk2 (st.alloc (.cells #[.string (bs s)] 9)).qb) ?_
        simp only [Act.put, List.setIfInBounds_toArray, List.set_cons_zero, List.set_cons_succ]
        have st1 := st.alloc (.cells #[.string (bs s)] 9)
        refine wpLate_one (i := 3) (by kernel_rfl) rfl rfl (fun K hK => ?_)
        refine oper_ran (v := .slice (some ⟨(w3.drew.alloc (.cells #[.string (bs s)] 9)).heap.size, 0, none⟩) 1 1) (w' := (w3.drew.alloc (.cells #[.string (bs s)] 9)).alloc (.cells #[.int .i64 k] 3)) (by go_simp) ?_
        show K (Act.put _ (some 33) _) _
        refine hK _ _ (fun _ _ => blk2 (st1.alloc (.cells #[.int .i64 k] 3)).qb) ?_
        simp only [Act.put, List.setIfInBounds_toArray, List.set_cons_zero, List.set_cons_succ]
        have st2 := st1.alloc (.cells #[.int .i64 k] 3)
        refine wpLate_one (i := 4) (by kernel_rfl) rfl rfl (fun K hK => ?_)
        refine wp_append_lies _ (.tmp 31) (.tmp 33) 23 rfl w1.heap.size 3 i1 (.int .i64 0) 1 8 Tryz.underlying23 j1 iz1 iz2 iz3 rfl (by decide) _ L.targets.length (intCells L.targets) rfl st2.r1 ⟨(w3.drew.alloc (.cells #[.string (bs s)] 9)).heap.size, 0, none⟩ 1 1 [.int .i64 k] rfl rfl (World.news_of_block (Blk.new (w3.drew.alloc (.cells #[.string (bs s)] 9)) 3 #[.int .i64 k])) (by simp [Value.oneCell']) (by omega) (by unfold maxLen; omega) (by omega) st2.bw.size _ rfl ?_
        intro gg1 cap1 W1 h1 gr1 _ _
        have gr1 : ((w3.drew.alloc (.cells #[.string (bs s)] 9)).alloc (.cells #[.int .i64 k] 3)).grownBy W1 (Value.slice B1 L.targets.length e1).ownBlock := gr1
        have st3 := st2.grow1 gr1 h1
        show K (Act.put _ (some 34) _) _
        refine hK _ _ (fun _ _ => blk2 st3.qb) ?_
        simp only [Act.put, List.setIfInBounds_toArray, List.set_cons_zero, List.set_cons_succ]
        refine wpLate_take0 (i := 10) (oi := _) (v := .pointer (some ⟨g, 0, none⟩)) (d := some 40) rfl rfl (by kernel_rfl) (by kernel_rfl) (by kernel_rfl) (fun _ _ _ h => h) rfl (fun W => by rfl) ?_
        simp only [Act.put, List.setIfInBounds_toArray, List.set_cons_zero, List.set_cons_succ]
        refine wpLate_one (i := 9) (by kernel_rfl) rfl rfl (fun K hK => ?_)
        refine wp_append_lies _ (.tmp 36) (.tmp 38) 26 rfl w1.heap.size 9 i2 (.string ⟨#[]⟩) 1 16 Tryz.underlying26 j2 jz1 jz2 jz3 rfl (by decide) _ L.data.length (strCells L.data) rfl st3.r2 ⟨w3.drew.heap.size, 0, none⟩ 1 1 [.string (bs s)] rfl rfl (World.news_of_block (((Blk.new w3.drew 9 #[.string (bs s)]).alloc (.cells #[.int .i64 k] 3)).kept gr1 (neb _ (Nat.le_refl _)))) (by simp [Value.oneCell']) (by omega) (by unfold maxLen; omega) (by omega) st3.bw.size _ rfl ?_
        intro gg2 cap2 W2 h2 gr2 _ _
        have gr2 : (W1).grownBy W2 (Value.slice B2 L.data.length e2).ownBlock := gr2
        have st4 := st3.grow2 gr2 h2
        show K (Act.put _ (some 39) _) _
        refine hK _ _ (fun _ _ => blk2 st4.qb) ?_
        simp only [Act.put, List.setIfInBounds_toArray, List.set_cons_zero, List.set_cons_succ]
        have u0 := blk2 st4.qb
        have uf := st4.qb.frozen
        have qq := st4.qb.set 0 (Value.slice (some ⟨gg1, 0, none⟩) (L.targets.length + 1) cap1)
        have uf2 := qq.frozen
        have u1 := blk2 qq
        refine wpLate_one (i := 11) (by kernel_rfl) rfl rfl (fun K hK => ?_)
        refine oper_skip (w' := (W2).setCell ⟨g, 0, none⟩ (Value.slice (some ⟨gg1, 0, none⟩) (L.targets.length + 1) cap1)) (by go_simp) ?_
        show K (Act.put _ none _) _
        refine hK _ _ (fun h => by cases h) ?_
        try simp only [Act.put, List.setIfInBounds_toArray, List.set_cons_zero, List.set_cons_succ]
        refine wpLate_take0 (i := 12) (oi := _) (v := .pointer (some ⟨g, 1, none⟩)) (d := some 41) rfl rfl (by kernel_rfl) (by kernel_rfl) (by kernel_rfl) (fun _ _ _ h => h) rfl (fun W => by rfl) ?_
        simp only [Act.put, List.setIfInBounds_toArray, List.set_cons_zero, List.set_cons_succ]
        refine wpLate_one (i := 13) (by kernel_rfl) rfl rfl (fun K hK => ?_)
        refine oper_skip (w' := ((W2).setCell ⟨g, 0, none⟩ (Value.slice (some ⟨gg1, 0, none⟩) (L.targets.length + 1) cap1)).setCell ⟨g, 1, none⟩ (Value.slice (some ⟨gg2, 0, none⟩) (L.data.length + 1) cap2)) (by go_simp) ?_
        show K (Act.put _ none _) _
        refine hK _ _ (fun h => by cases h) ?_
        try simp only [Act.put, List.setIfInBounds_toArray, List.set_cons_zero, List.set_cons_succ]
        refine wpLate_done (by kernel_rfl) ?_ _
        go_wp2_with fail
        go_meet
        exact set_mid hg st4.r1 st4.r2 st4.qb st4.bw
    case rest =>
      obtain ⟨gg1, cap1, gg2, cap2, rfl, qd, O1, O2, hBB⟩ := hcut
      have hz := Hz.out
      have lt1 : w.heap.size + 1 < w1.heap.size := by omega
      have z2 := z0.below hBB lt1
      obtain ⟨D1, D2, D3, D4⟩ := set_end hL hk h2 lt1 b0 z2 O1 O2 hBB
      clear hz z1 k2 k4 x1 k1
      have k5 := blk2 z2
      have k6 := z2.frozen
      have k7 := blk2 qd
      clear hix ho x0 y0
      go_wp2_with fail
      rw [Hw.out]
      have yy := blk2 D2
      refine bodyPost_ret (v := .tuple #[pval ⟨L.targets ++ [k], L.data ++ [s]⟩ ⟨some ⟨gg1, 0, none⟩, cap1⟩ ⟨some ⟨gg2, 0, none⟩, cap2⟩, .int .i64 0]) (by simp [results, Tryz.results44, go_sem, yy]) rfl ?_
      exact ⟨⟨_, _, rfl, D1, D4⟩, D3⟩
end Go.Proofs.YtjhnaeomaigimaaGreatDoor
