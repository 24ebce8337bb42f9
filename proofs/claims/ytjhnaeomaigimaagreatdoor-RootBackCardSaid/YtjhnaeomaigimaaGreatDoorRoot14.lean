/- Package root: bytes as a dirty bitmap. -/
import Derived.Test.YtjhnaeomaigimaaGreatDoorRoot13
set_option linter.unusedVariables false
namespace Go.Proofs.YtjhnaeomaigimaaGreatDoor
open Go.RowKit Go.Shelf
attribute [local go_sem] bs_mk bs_append bs_extract bs_size bs_toList bs_get
/-- The bits that are read so far. -/
def bitsTo (t : List UInt8) (n : Nat) : List Bool := (List.range n).map (Dm.bitAt t) ++ List.replicate (64 - n) false
theorem bitsTo_length (t : List UInt8) {n : Nat} (h : n ≤ 64) : (bitsTo t n).length = 64 := by simp [bitsTo]; omega
theorem bitsTo_set (t : List UInt8) {n : Nat} (h : n < 64) : (bitsTo t n).set n (Dm.bitAt t n) = bitsTo t (n + 1) := by
  unfold bitsTo
  rw [List.set_append, if_neg (by simp), List.length_map, List.length_range, Nat.sub_self, List.range_succ, List.map_append, show 64 - n = (64 - (n + 1)) + 1 by omega, List.replicate_succ, List.set_cons_zero, List.append_assoc]
  rfl
theorem bitsTo_all (t : List UInt8) : bitsTo t 64 = (List.range 64).map (Dm.bitAt t) := by simp [bitsTo]
theorem bit_and (v : UInt8) {s : Nat} (hs : s < 8) : (Go.bits .and .u8 (v.toNat : Int) ((2 ^ s : Nat) : Int) != 0) = v.toNat.testBit s := by
  have hv := v.toNat_lt
  have hp : 2 ^ s < 256 := Nat.pow_lt_pow_right (a := 2) (by omega) hs
  rw [u8_and_nat _ _ (by omega) hp, nat_bit, Nat.testBit_eq_decide_div_mod_eq]
  have h2 : v.toNat / 2 ^ s % 2 = 0 ∨ v.toNat / 2 ^ s % 2 = 1 := by omega
  rcases h2 with h | h
  · rw [h]; simp
  · rw [h, Nat.one_mul, decide_eq_true rfl]; exact bne_iff_ne.2 (by have : 0 < 2 ^ s := Nat.two_pow_pos s; omega)
def Dm.read (t : List UInt8) : Dm := ⟨(toNameR (t.take 8)).1, decide (t.getD 8 0 = 1), (List.range 64).map (Dm.bitAt t)⟩
theorem Dm.read_bits (t : List UInt8) : (Dm.read t).bits.length = 64 := by simp [Dm.read]
set_option maxRecDepth 100000 in
set_option maxHeartbeats 1000000 in
theorem rt_readMap (t : List UInt8) (ht : t.length = 64) (w : World) : Calls Tryz.prog 115 #[.string (bs t)] w fun e w' => e = .returned (dmval (Dm.read t)) ∧ Below w.heap.size w w' := by
  have cn := fun W => toName_any (t.take 8) (by rw [List.length_take]; unfold maxLen; omega) W
  have Hrd := hid (show Dm.read t = ⟨(toNameR (t.take 8)).1, decide (t.getD 8 0 = 1), bitsTo t 64⟩ by rw [Dm.read, bitsTo_all])
  generalize toNameR (t.take 8) = NE at *
  obtain ⟨nm, en⟩ := NE
  simp only at cn Hrd
  have h8 : ((((t[8]'(by omega)).toNat : Nat) : Int) == 1) = decide (t.getD 8 0 = 1) := by
    rw [List.getD_eq_getElem?_getD, List.getElem?_eq_getElem (by omega), Option.getD_some]
    generalize t[8]'(by omega) = c
    by_cases h : c = 1
    · subst h; rfl
    · rw [decide_eq_false h, beq_eq_false_iff_ne]
      intro h2; apply h; apply UInt8.toNat_inj.1; show c.toNat = 1; omega
  generalize decide (t.getD 8 0 = 1) = us at *
  have a36 := Tryz.dm_agg
  have z36 := Tryz.dm_siz
  have zc := Tryz.dm_zeros
  have Hbit := hid (fun (n : Nat) (h : n < 64) => show Dm.bitAt t n = ((t[16 + n / 8]'(by omega)).toNat).testBit (n % 8) by rw [Dm.bitAt, List.getD_eq_getElem?_getD, List.getElem?_eq_getElem (by omega)]; rfl)
  have hB := Below.refl w.heap.size w
  have r := Blk.new w 36 (dmCells Dm.zero).toArray
  have rk := Tryz.dm_all Dm.zero rfl r
  have rkf := r.frozen
  have hB_1 := hB.alloc hB.size (.cells (dmCells Dm.zero).toArray 36)
  have v := Blk.new (w.alloc (.cells (dmCells Dm.zero).toArray 36)) 36 (dmCells Dm.zero).toArray
  simp only [World.size_alloc] at v
  have vk := Tryz.dm_all Dm.zero rfl v
  have vkf := v.frozen
  have hB_2 := hB_1.alloc hB_1.size (.cells (dmCells Dm.zero).toArray 36)
  have r_3 := r.alloc (.cells (dmCells Dm.zero).toArray 36)
  have rk_3 := Tryz.dm_all Dm.zero rfl r_3
  have rkf_3 := r_3.frozen
  go_enter Tryz.func115, Tryz.ntmps115
  go_wp2_with fail
  go_at_call 149
  refine ((cn _)).mono ?_
  rintro e w1 ⟨rfl, hb1⟩
  replace hB := bt hB_2 hb1
  replace r := r_3.below hb1 r_3.lt
  replace rk := Tryz.dm_all Dm.zero rfl r
  replace rkf := r.frozen
  replace v := v.below hb1 v.lt
  replace vk := Tryz.dm_all Dm.zero rfl v
  replace vkf := v.frozen
  clear hB_1 hB_2 rk_3 rkf_3 r_3
  go_wp2_with fail
  have v1 := blk_duse (blk_dname v nm) us
  have r1 := (r.other (a := ⟨w.heap.size + 1, 0, none⟩) (by show w.heap.size ≠ w.heap.size + 1; omega) (.string (bs nm))).other (a := ⟨w.heap.size + 1, 1, none⟩) (by show w.heap.size ≠ w.heap.size + 1; omega) (.bool us)
  have hB1 := ((hB).setCell (p := ⟨w.heap.size + 1, 0, none⟩) (by show w.heap.size ≤ w.heap.size + 1; omega) (.string (bs nm))).setCell (p := ⟨w.heap.size + 1, 1, none⟩) (by show w.heap.size ≤ w.heap.size + 1; omega) (.bool us)
  go_loopw [16] (fun k W => ∃ n : Nat, n ≤ 64 ∧ k = .int .i64 n ∧ Blk W (w.heap.size + 1) 36 (dmCells ⟨nm, us, bitsTo t n⟩).toArray ∧ Blk W w.heap.size 36 (dmCells Dm.zero).toArray ∧ Below w.heap.size w W) (fun k _ => 64 - (intOf k).toNat)
  case atStart => exact ⟨0, Nat.zero_le _, rfl, v1, r1, hB1⟩
  case round =>
    clear vk vkf rk rkf v r hB v1 r1 hB1
    obtain ⟨n, hn, rfl, v, r, hB⟩ := hrel
    by_cases hlt : n < 64
    · obtain ⟨j, hj⟩ : ∃ j : Nat, 16 + n / 8 = j := ⟨_, rfl⟩
      obtain ⟨s, hs⟩ : ∃ s : Nat, n % 8 = s := ⟨_, rfl⟩
      have hb := Hbit.out n hlt
      have e2 := and7 ⟨n, hlt⟩
      simp only at e2
      have hj64 : j < t.length := by omega
      have hj65 : ((j : Nat) : Int) < 64 := by omega
      have hs8 : s < 8 := by omega
      have hs8' : ((s : Nat) : Int) ≤ 8 := by omega
      have e1 : (16 : Int) + (n : Int) / 8 = (j : Int) := by omega
      have hlen := bitsTo_length t (n := n) (by omega)
      obtain ⟨o, c0⟩ : ∃ o, wr.cell? ⟨w.heap.size + 1, 2 + n, none⟩ = some (.bool o) := ⟨_, v.bit n (by show n < (bitsTo t n).length; omega)⟩
      have f0 := v.frozen (2 + n)
      have v1 := blk_bit v n (Dm.bitAt t n)
      rw [bitsTo_set t hlt] at v1
      have r1 := r.other (a := ⟨w.heap.size + 1, 2 + n, none⟩) (by show w.heap.size ≠ w.heap.size + 1; omega) (.bool (Dm.bitAt t n))
      have hB1 := hB.setCell (p := ⟨w.heap.size + 1, 2 + n, none⟩) (by show w.heap.size ≤ w.heap.size + 1; omega) (.bool (Dm.bitAt t n))
      have hp : 2 ^ s < 256 := Nat.pow_lt_pow_right (a := 2) (by omega) hs8
      have e3 : IntKind.u8.wrap ((2 : Int) ^ s) = ((2 ^ s : Nat) : Int) := by
        rw [IntKind.wrap_u8', show ((2 : Int) ^ s) = ((2 ^ s : Nat) : Int) by simp]
        exact Int.emod_eq_of_lt (Int.natCast_nonneg _) (Int.ofNat_lt.2 hp)
      have e4 := bit_and (t[j]'hj64) hs8
      rw [show (t[j]'hj64).toNat.testBit s = Dm.bitAt t n by rw [hb]; subst hj hs; rfl] at e4
      rw [hs] at e2
      generalize 2 ^ s = p at *
      generalize Dm.bitAt t n = b at *
      have V1 := hid v1
      clear hj hs hb v v1 Hbit hlen hn
      go_wp2_with fail
      go_region
      go_wp2_with fail
      go_roundw
      case rel => exact ⟨n + 1, by omega, by go_num, V1.out.drew, r1.drew, hB1.drew⟩
      case measure => simp [intOf]; omega
    · obtain rfl : n = 64 := by omega
      rw [← Hrd.out] at v
      have hM := Dm.read_bits t
      obtain ⟨M, hMe⟩ : ∃ M, Dm.read t = M := ⟨_, rfl⟩
      rw [hMe] at v hM
      have Hm := hid hMe
      clear hMe
      have vk := Tryz.dm_all M hM v
      have st := Tryz.dm_put (a := Dm.zero) M hM rfl r
      have hl := dm_len hM
      clear Hrd Hbit
      go_wp2_with fail
      have r1 := blk_setD (a := Dm.zero) r M rfl hM
      have yy := Tryz.dm_all M hM r1
      have b8 := below_setD hB (g := w.heap.size) (by omega) M
      refine bodyPost_ret (v := dmval M) (by simp [results, Tryz.results115, go_sem, yy, a36, z36]) rfl ?_
      rw [Hm.out]
      exact ⟨rfl, b8⟩
end Go.Proofs.YtjhnaeomaigimaaGreatDoor
