/- Package cofferdamlaw06: the example. -/
import Derived.Test.YtkiokdphjfkocaaLaw06a
set_option linter.unusedVariables false
namespace Go.Proofs.Ytkiokdphjfkocaa
open Go.RowKit Go.Shelf
attribute [local go_sem] bs_mk bs_append bs_extract bs_size bs_toList bs_get
def zb (i : Nat) : List UInt8 := List.replicate i 0
theorem zb_length (i : Nat) : (zb i).length = i := by simp [zb]
theorem zb_succ (i : Nat) : zb i ++ [0] = zb (i + 1) := by simp [zb, List.replicate_succ']
theorem zb_zero : zb 0 = [] := rfl
theorem zb_read : txRead [zb 64] = (Tx.zero, 14) := by
  have : hcount (zb 64) = 0 := hcount_no (.inr (.inl (by decide)))
  rw [txRead_cons this, if_pos rfl]
def ex06 : Tx := ⟨7, ⟨[3], [zb 64]⟩⟩
theorem ex06_ok : ex06.Ok := by
  refine ⟨⟨rfl, by decide, ?_, ?_⟩, by simp [ex06]⟩
  · intro i h
    have : i = 0 := by simp [ex06] at h; omega
    subst this
    exact ⟨rfl, rfl⟩
  · intro i h
    have : i = 0 := by simp [ex06] at h; omega
    subst this
    exact zb_length 64
theorem ex06_write : ex06.write = (ex06.rows, 0) := by unfold Tx.write; rw [if_pos ex06_ok]
theorem ex06_len : ex06.rows.length = 3 := (Tx.rows_length ex06_ok).trans (by decide)
theorem ex06_top : ex06.rows[0]'(by rw [ex06_len]; decide) = ex06.top := rfl
theorem ex06_magic : ex06.top.take 4 = [67, 79, 70, 74] := (headRow_cut _ _ _ ex06.head_length).1
attribute [local go_sem] zb_succ
set_option maxRecDepth 100000 in
theorem awake06 (w : World) : Calls Try.prog 9 #[] w fun e w' => e = .returned (.bool true) ∧ Below w.heap.size w w' := by
  have hsz1 := fun W => tx_size 1 (by unfold okI; omega) W
  have hsz17 := fun W => tx_size 17 (by unfold okI; omega) W
  rw [show txSizeI 1 = 3 by decide] at hsz1
  rw [show txSizeI 17 = 20 by decide] at hsz17
  have hc := fun W => tx_count ex06.top (by rw [Tx.top_length]; decide) W
  rw [Tx.top_count ex06_ok, show ex06.plan.targets.length = 1 from rfl] at hc
  have htl := ex06.top_length
  have Hmg := hid ex06_magic
  go_enter Try.func9, Try.ntmps9
  go_wp2_with fail
  go_loopw [1, 6] (fun s x W => ∃ i : Nat, i ≤ 64 ∧ s = .string (bs (zb i)) ∧ x = .int .i64 i ∧ W = w) (fun _ x _ => 64 - (intOf x).toNat)
  case atStart => exact ⟨0, by omega, by rw [zb_zero]; rfl, rfl, rfl⟩
  case round =>
    obtain ⟨i, hi, rfl, rfl, rfl⟩ := hrel
    by_cases hlt : i < 64
    · have hxl : ¬ 9223372036854775807 < (zb i).length + 1 := by rw [zb_length]; omega
      go_wp2_with fail
      go_roundw
      case rel => exact ⟨i + 1, by omega, rfl, by go_num, trivial⟩
      case measure => simp [intOf]; omega
    · obtain rfl : i = 64 := by omega
      have hzl := zb_length 64
      have hrd := fun W (hW : Cells W (some ⟨wr.heap.size, 0, none⟩) (strCells [zb 64])) => tx_read [zb 64] (some ⟨wr.heap.size, 0, none⟩) 1 W hW (by decide) (by decide) (by decide) (fun s hs => by obtain rfl := List.mem_singleton.1 hs; rw [hzl]; decide)
      rw [zb_read] at hrd
      have Hwr := hid (fun (W : World) (p q : Pl) (hL : IsPn W ⟨[3], [zb 64]⟩ p q) => ex06_write ▸ tx_write ex06 p q W hL (by decide))
      generalize zb 64 = z at *
      have hc0 := cells_new wr [.string (bs z)] 9
      go_wp2_with fail
      go_at_call 12
      refine (hrd _ hc0).mono ?_
      rintro e w1 ⟨⟨p, q, rfl, hpn⟩, hb1⟩
      have b1 := bt ((Below.refl wr.heap.size wr).alloc (Nat.le_refl _) (.cells #[.string (bs z)] 9)) hb1
      have hX : (.cells #[.int .u64 (Tx.zero.seq : Int), .slice p.a Tx.zero.plan.targets.length p.c, .slice q.a Tx.zero.plan.data.length q.c] 28 : Obj) = .cells #[.int .u64 0, .slice p.a 0 p.c, .slice q.a 0 q.c] 28 := rfl
      have b3 := ((b1.alloc b1.size (.cells #[.int .u64 (Tx.zero.seq : Int), .slice p.a Tx.zero.plan.targets.length p.c, .slice q.a Tx.zero.plan.data.length q.c] 28)).alloc (Nat.le_trans b1.size (by simp)) (.cells #[.int .i64 3] 3)).alloc (Nat.le_trans b1.size (by simp; omega)) (.cells #[.string (bs z)] 9)
      have ci := (cells_new (w1.alloc (.cells #[.int .u64 (Tx.zero.seq : Int), .slice p.a Tx.zero.plan.targets.length p.c, .slice q.a Tx.zero.plan.data.length q.c] 28)) [.int .i64 3] 3).below ((Below.refl _ _).alloc (Nat.le_refl _) (.cells #[.string (bs z)] 9))
      have cs := cells_new ((w1.alloc (.cells #[.int .u64 (Tx.zero.seq : Int), .slice p.a Tx.zero.plan.targets.length p.c, .slice q.a Tx.zero.plan.data.length q.c] 28)).alloc (.cells #[.int .i64 3] 3)) [.string (bs z)] 9
      simp only [World.size_alloc] at ci cs
      have hpn' := Hwr.out _ ⟨some ⟨w1.heap.size + 1, 0, none⟩, 1⟩ ⟨some ⟨w1.heap.size + 1 + 1, 0, none⟩, 1⟩ ⟨ci, cs, (fun h => by cases h), (fun h => by cases h), Nat.le_refl 1, Nat.le_refl 1, (show 1 ≤ maxLen by decide), (show 1 ≤ maxLen by decide), (fun x hx => by obtain rfl := List.mem_singleton.1 hx; decide), (fun s hs => by obtain rfl := List.mem_singleton.1 hs; rw [hzl]; decide)⟩
      clear Hwr hX
      go_wp2_with fail
      go_at_call 10
      refine hpn'.mono ?_
      rintro e w2 ⟨⟨v, rfl, own⟩, hb2⟩
      have b4 := bt b3 hb2
      simp only at own
      rw [ex06_len] at own
      obtain ⟨C, d, rfl, hd, _⟩ := own_slice own
      obtain ⟨pb, po, rfl, hcell⟩ := (Cells.of_own own).str (i := 0) (by rw [ex06_len]; decide)
      have hcell := hcell 0 (by rw [ex06_len]; decide)
      rw [ex06_top, Nat.add_zero] at hcell
      have hmg := Hmg.out
      clear b3 ci cs hpn' own b1 hpn hrd
      generalize ex06.top = T at *
      go_wp2_with fail
      go_at_call 16
      refine (hsz1 _).mono ?_
      rintro e w3 ⟨rfl, hb3⟩
      have hcell := cell_below hb3 hcell
      have b5 := bt b4 hb3
      go_wp2_with fail
      go_at_call 16
      refine (hsz17 _).mono ?_
      rintro e w4 ⟨rfl, hb4⟩
      have hcell := cell_below hb4 hcell
      have b6 := bt b5 hb4
      go_wp2_with fail
      go_at_call 18
      refine (hc _).mono ?_
      rintro e w5 ⟨rfl, hb5⟩
      go_wp2_with fail
      go_ret
      exact ⟨rfl, bt b6 hb5⟩
end Go.Proofs.Ytkiokdphjfkocaa
