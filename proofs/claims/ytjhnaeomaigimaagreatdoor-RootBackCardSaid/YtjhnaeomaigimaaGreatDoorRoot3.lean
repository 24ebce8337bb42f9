/- Package root: snapshots as bytes, and bytes as snapshots. -/
import Derived.Test.YtjhnaeomaigimaaGreatDoorRoots
import Derived.Test.YtjhnaeomaigimaaGreatDoorRootPlain
import Derived.Test.YtjhnaeomaigimaaGreatDoorOpens2
import Derived.Test.YtjhnaeomaigimaaGreatDoorRef03
set_option linter.unusedVariables false
namespace Go.Proofs.YtjhnaeomaigimaaGreatDoor
open Go.RowKit Go.Shelf
attribute [local go_sem] bs_mk bs_append bs_extract bs_size bs_toList bs_get
theorem blk3 {w : World} {g : Nat} {t : TypeId} {a b c : Value} (h : Blk w g t #[a, b, c]) : w.cell? ⟨g, 0, none⟩ = some a ∧ w.cell? ⟨g, 1, none⟩ = some b ∧ w.cell? ⟨g, 2, none⟩ = some c := ⟨h.cell 0, h.cell 1, h.cell 2⟩
theorem ext3 {w : World} {g : Nat} {t : TypeId} {a b c : Value} (h : Blk w g t #[a, b, c]) (x : Ext w) : x.world.cell? ⟨g, 0, none⟩ = some a ∧ x.world.cell? ⟨g, 1, none⟩ = some b ∧ x.world.cell? ⟨g, 2, none⟩ = some c := ⟨x.cell (h.cell 0), x.cell (h.cell 1), x.cell (h.cell 2)⟩
theorem blk_set3 {w : World} {g : Nat} {t : TypeId} {a b c : Value} (h : Blk w g t #[a, b, c]) (u v x : Value) : Blk (((w.setCell ⟨g, 0, none⟩ u).setCell ⟨g, 1, none⟩ v).setCell ⟨g, 2, none⟩ x) g t #[u, v, x] := by
  have := ((h.set 0 u).set 1 v).set 2 x
  simpa using this
theorem blk_off3 {w : World} {g k : Nat} {t : TypeId} {cs : Array Value} (h : Blk w k t cs) (hk : k ≠ g) (u v x : Value) : Blk (((w.setCell ⟨g, 0, none⟩ u).setCell ⟨g, 1, none⟩ v).setCell ⟨g, 2, none⟩ x) k t cs :=
  ((h.other (a := ⟨g, 0, none⟩) hk u).other (a := ⟨g, 1, none⟩) hk v).other (a := ⟨g, 2, none⟩) hk x
theorem below_set3 {B : Nat} {w0 w : World} {g : Nat} (h : Below B w0 w) (hg : B ≤ g) (u v x : Value) : Below B w0 (((w.setCell ⟨g, 0, none⟩ u).setCell ⟨g, 1, none⟩ v).setCell ⟨g, 2, none⟩ x) :=
  ((h.setCell (p := ⟨g, 0, none⟩) hg u).setCell (p := ⟨g, 1, none⟩) hg v).setCell (p := ⟨g, 2, none⟩) hg x
theorem IsPn.off3 {w : World} {L : Pn} {p q : Pl} (h : IsPn w L p q) {g : Nat} (ho : PnOff g L p q) (u v x : Value) : IsPn (((w.setCell ⟨g, 0, none⟩ u).setCell ⟨g, 1, none⟩ v).setCell ⟨g, 2, none⟩ x) L p q :=
  ((h.off (a := ⟨g, 0, none⟩) ho u).off (a := ⟨g, 1, none⟩) ho v).off (a := ⟨g, 2, none⟩) ho x
theorem IsDk.off3 {w : World} {D : Dk} {p q : Pl} (h : IsDk w D p q) {g : Nat} (ho : DkOff g D p q) (u v x : Value) : IsDk (((w.setCell ⟨g, 0, none⟩ u).setCell ⟨g, 1, none⟩ v).setCell ⟨g, 2, none⟩ x) D p q :=
  ((h.off (a := ⟨g, 0, none⟩) ho u).off (a := ⟨g, 1, none⟩) ho v).off (a := ⟨g, 2, none⟩) ho x
theorem u64w_nonneg (x : Int) : 0 ≤ IntKind.u64.wrap x := by simp [IntKind.wrap, IntKind.bits, IntKind.signed]; omega
theorem u64w_lt (x : Int) : IntKind.u64.wrap x < 18446744073709551616 := by simp [IntKind.wrap, IntKind.bits, IntKind.signed]; omega
theorem repeat_zeros (c : Nat) : Lib.repeatL [0] c = List.replicate c 0 := by
  induction c with
  | zero => simp [Lib.repeatL]
  | succ c ih => simp [Lib.repeatL, ih, List.replicate_succ]
theorem rt_out (k : Int) (w : World) : Calls Tryz.prog 43 #[.int .i64 k] w fun e w' => e = .returned (.bool (decide (k < 0 ∨ 256 ≤ k))) ∧ w' = w := by
  by_cases h0 : k < 0
  · have h1 : decide (k < 0) = true := decide_eq_true h0
    have Hw := hid (show decide (k < 0 ∨ 256 ≤ k) = true from decide_eq_true (.inl h0))
    clear h0
    go_enter Tryz.func43, Tryz.ntmps43
    go_wp2_with fail
    go_ret
    exact ⟨by rw [Hw.out]; rfl, rfl⟩
  · have h1 : decide (k < 0) = false := decide_eq_false h0
    by_cases h : 256 ≤ k
    · have h2 : decide (256 ≤ k) = true := decide_eq_true h
      have Hw := hid (show decide (k < 0 ∨ 256 ≤ k) = true from decide_eq_true (.inr h))
      clear h0 h
      go_enter Tryz.func43, Tryz.ntmps43
      go_wp2_with fail
      go_ret
      exact ⟨by rw [Hw.out]; rfl, rfl⟩
    · have h2 : decide (256 ≤ k) = false := decide_eq_false h
      have Hw := hid (show decide (k < 0 ∨ 256 ≤ k) = false from decide_eq_false (by omega))
      clear h0 h
      go_enter Tryz.func43, Tryz.ntmps43
      go_wp2_with fail
      go_ret
      exact ⟨by rw [Hw.out]; rfl, rfl⟩
theorem rt_outB (k : Int) (w : World) : Calls Tryz.prog 43 #[.int .i64 k] w fun e w' => e = .returned (.bool (decide (k < 0 ∨ 256 ≤ k))) ∧ Below w.heap.size w w' := by
  refine (rt_out k w).mono ?_
  rintro e w' ⟨rfl, rfl⟩
  exact ⟨rfl, Below.refl _ _⟩
theorem rt_zeros (n : Nat) (hn : n ≤ 100) (w : World) : Calls Tryz.prog 102 #[.int .i64 n] w fun e w' => e = .returned (.string (bs (List.replicate n 0))) ∧ Below w.heap.size w w' := by
  have hrep := fun W => Tryz.strings_Repeat (bs [0]) n W (by omega) (by rw [bs_size]; simp; omega)
  rw [bs_list, repeat_zeros, bs_mk] at hrep
  generalize List.replicate n (0 : UInt8) = Z at *
  have hB := Below.refl w.heap.size w
  go_enter Tryz.func102, Tryz.ntmps102
  go_wp2_with fail
  go_at_call 93
  refine ((hrep _)).mono ?_
  rintro e w1 ⟨rfl, hb1⟩
  replace hB := bt hB hb1
  go_wp2_with fail
  go_ret
  exact ⟨rfl, hB⟩
theorem rt_num (s : List UInt8) (n : Nat) (hs : s.length = n) (hn : n ≤ 64) (a k : Nat) (ha : a + k ≤ n) (h1 : 1 ≤ k) (h2 : k ≤ 8) (w : World) :
    Calls Tryz.prog 68 #[.string (bs s), .int .i64 a, .int .i64 k] w fun e w' => e = .returned (.int .u64 (un (cut s a k) : Nat)) ∧ Below w.heap.size w w' := by
  have ht := fun W => take_any (s.drop a) (by rw [List.length_drop]; unfold maxLen; omega) (k : Nat) W
  rw [takeR_in (s.drop a) k h1 h2 (by rw [List.length_drop]; omega)] at ht
  have Hc := hid (show cut s a k = (s.drop a).take k from rfl)
  have e1 : List.drop a (List.take s.length s) = s.drop a := by rw [List.take_of_length_le (by omega)]
  have e2 : List.drop a (List.take n s) = s.drop a := by rw [List.take_of_length_le (by omega)]
  have h0 : a ≤ n := by omega
  have h3 : ¬ n < a := by omega
  rw [Hc.out]
  have hB := Below.refl w.heap.size w
  go_enter Tryz.func68, Tryz.ntmps68
  go_wp2_with fail
  go_at_call 112
  refine ((ht _)).mono ?_
  rintro e w1 ⟨rfl, hb1⟩
  replace hB := bt hB hb1
  go_wp2_with fail
  go_ret
  exact ⟨rfl, hB⟩
theorem rt_readSnap (s : List UInt8) (hs : s.length = 16) (w : World) :
    Calls Tryz.prog 103 #[.string (bs s)] w fun e w' => e = .returned (snval ⟨un (s.take 4), un (cut s 4 2), (toNameR (s.drop 8)).1⟩) ∧ Below w.heap.size w w' := by
  have c1 := fun W => toName_any (s.drop 8) (by rw [List.length_drop]; unfold maxLen; omega) W
  have c2 := fun W => rt_num s 16 hs (by decide) 0 4 (by decide) (by decide) (by decide) W
  have c3 := fun W => rt_num s 16 hs (by decide) 4 2 (by decide) (by decide) (by decide) W
  have hc0 : cut s 0 4 = s.take 4 := rfl
  rw [hc0] at c2
  have l4 : (s.take 4).length = 4 := by rw [List.length_take]; omega
  have l2 : (cut s 4 2).length = 2 := cut_length (by omega)
  have b4 := un_lt (s.take 4)
  have b2 := un_lt (cut s 4 2)
  rw [l4] at b4
  rw [l2] at b2
  have p4 : (256 : Nat) ^ 4 = 4294967296 := by decide
  have p2 : (256 : Nat) ^ 2 = 65536 := by decide
  rw [p4] at b4
  rw [p2] at b2
  have e1 : List.drop 8 (List.take 16 s) = s.drop 8 := by rw [List.take_of_length_le (by omega)]
  generalize toNameR (s.drop 8) = N at *
  obtain ⟨N, en⟩ := N
  generalize s.drop 8 = T at *
  generalize un (s.take 4) = a at *
  generalize un (cut s 4 2) = b at *
  have u1 := u32w (x := (a : Int)) ⟨by omega, by omega⟩
  have u2 := i64w (x := (b : Int)) ⟨by omega, by omega⟩
  clear l4 l2 p4 p2 hc0
  simp only at c1
  have hB := Below.refl w.heap.size w
  have r := Blk.new w 33 #[.int .u32 0, .int .i64 0, .string (bs [])]
  have rk := blk3 r
  have rkf := r.frozen
  have hB_1 := hB.alloc hB.size (.cells #[.int .u32 0, .int .i64 0, .string (bs [])] 33)
  go_enter Tryz.func103, Tryz.ntmps103
  go_wp2_with fail
  go_at_call 149
  refine ((c1 _)).mono ?_
  rintro e w1 ⟨rfl, hb1⟩
  replace hB := bt hB_1 hb1
  replace r := r.below hb1 r.lt
  replace rk := blk3 r
  replace rkf := r.frozen
  clear hB_1
  go_wp2_with fail
  go_at_call 68
  refine ((c2 _)).mono ?_
  rintro e w2 ⟨rfl, hb2⟩
  replace hB := bt hB hb2
  replace r := r.below hb2 r.lt
  replace rk := blk3 r
  replace rkf := r.frozen
  go_wp2_with fail
  go_at_call 68
  refine ((c3 _)).mono ?_
  rintro e w3 ⟨rfl, hb3⟩
  replace hB := bt hB hb3
  replace r := r.below hb3 r.lt
  replace rk := blk3 r
  replace rkf := r.frozen
  go_wp2_with fail
  have yy := blk3 (blk_set3 r (.int .u32 a) (.int .i64 b) (.string (bs N)))
  have b8 := below_set3 hB (g := w.heap.size) (Nat.le_refl _) (.int .u32 a) (.int .i64 b) (.string (bs N))
  refine bodyPost_ret (v := snval ⟨a, b, N⟩) (by simp [results, Tryz.results103, go_sem, yy]) rfl ?_
  exact ⟨rfl, b8⟩
theorem r10_clus (k : Int) (w : World) : Calls Tryz.prog 46 #[.int .i64 k] w fun e w' => e = .returned (.bool (decide (0 ≤ k ∧ k < 256))) ∧ Below w.heap.size w w' := by
  by_cases h0 : 0 ≤ k
  · have h1 : decide (0 ≤ k) = true := decide_eq_true h0
    by_cases h : k < 256
    · have h2 : decide (k < 256) = true := decide_eq_true h
      have Hw := hid (show decide (0 ≤ k ∧ k < 256) = true from decide_eq_true ⟨h0, h⟩)
      clear h0 h
      go_enter Tryz.func46, Tryz.ntmps46
      go_wp2_with fail
      go_ret
      exact ⟨by rw [Hw.out]; rfl, Below.refl _ _⟩
    · have h2 : decide (k < 256) = false := decide_eq_false h
      have Hw := hid (show decide (0 ≤ k ∧ k < 256) = false from decide_eq_false (by omega))
      clear h0 h
      go_enter Tryz.func46, Tryz.ntmps46
      go_wp2_with fail
      go_ret
      exact ⟨by rw [Hw.out]; rfl, Below.refl _ _⟩
  · have h1 : decide (0 ≤ k) = false := decide_eq_false h0
    have Hw := hid (show decide (0 ≤ k ∧ k < 256) = false from decide_eq_false (by omega))
    clear h0
    go_enter Tryz.func46, Tryz.ntmps46
    go_wp2_with fail
    go_ret
    exact ⟨by rw [Hw.out]; rfl, Below.refl _ _⟩
--WRITESNAP
set_option maxRecDepth 100000 in
theorem rt_writeSnap_zero (w : World) : Calls Tryz.prog 49 #[snval Sn.zero] w fun e w' => e = .returned (.tuple #[.string (bs (List.replicate 16 0)), .bool true]) ∧ Below w.heap.size w w' := by
  have c := fun W => rt_zeros 16 (by decide) W
  rw [show ((16 : Nat) : Int) = 16 from rfl] at c
  generalize List.replicate 16 (0 : UInt8) = T at *
  have hB := Below.refl w.heap.size w
  have x := Blk.new w 33 #[.int .u32 0, .int .i64 0, .string (bs [])]
  have xk := blk3 x
  have hB_1 := hB.alloc hB.size (.cells #[.int .u32 0, .int .i64 0, .string (bs [])] 33)
  go_enter Tryz.func49, Tryz.ntmps49
  go_wp2_with fail
  go_at_call 102
  refine ((c _)).mono ?_
  rintro e w1 ⟨rfl, hb1⟩
  replace hB := bt hB_1 hb1
  replace x := x.below hb1 x.lt
  replace xk := blk3 x
  clear hB_1
  go_wp2_with fail
  go_ret2
  exact ⟨rfl, hB⟩
set_option maxRecDepth 100000 in
theorem rt_writeSnap_1 (id : Nat) (l1 : Int) (name : List UInt8) (hidd : id < 4294967296) (h1 : id ≠ 0) (hl1 : okInt l1) (hm : name.length ≤ maxLen) (w : World) : Calls Tryz.prog 49 #[snval ⟨id, l1, name⟩] w fun e w' => (∃ b, e = .returned (.tuple #[.string (bs b), .bool (Sn.ok ⟨id, l1, name⟩)]) ∧ (Sn.ok ⟨id, l1, name⟩ = true → b = Sn.bytes ⟨id, l1, name⟩)) ∧ Below w.heap.size w w' := by
  have hz : (⟨id, l1, name⟩ : Sn) ≠ Sn.zero := fun h => by injection h with a b c; exact h1 a
  have g1 : (((id : Nat) : Int) == 0) = false := by rw [beq_eq_false_iff_ne]; omega
  have cn := fun W => name_any name hm W
  obtain ⟨N, en, hN⟩ : ∃ N en, nameR name = (N, en) := ⟨_, _, rfl⟩
  rw [hN] at cn
  simp only at cn
  obtain ⟨u, hu⟩ : ∃ u : Nat, IntKind.u64.wrap l1 = (u : Int) := ⟨(IntKind.u64.wrap l1).toNat, by have := u64w_nonneg l1; omega⟩
  have hu64 : u < 18446744073709551616 := by have := u64w_lt l1; omega
  have p1 := fun W => put_any ((id : Nat) : Int) 4 (by omega) (by omega) W
  rw [Int.toNat_natCast, show putS id 4 = be 4 id from putS_yes id 4 (by decide) (by decide)] at p1
  have p2 := fun W => put_any ((u : Nat) : Int) 2 (by omega) (by omega) W
  rw [Int.toNat_natCast, show putS u 2 = be 2 u from putS_yes u 2 (by decide) (by decide)] at p2
  have p3 := fun W => rt_zeros 2 (by decide) W
  rw [show ((2 : Nat) : Int) = 2 from rfl] at p3
  have p4 := fun W => rt_outB l1 W
  have u1 := u64w (x := ((id : Nat) : Int)) ⟨by omega, by omega⟩
  have hname : nameOk name = false → en ≠ 0 := fun h => by rw [nameR, if_neg (by rw [h]; simp)] at hN; obtain ⟨_, rfl⟩ := Prod.mk.inj hN; decide
  have hnam2 : nameOk name = true → en = 0 ∧ N = name ++ List.replicate (8 - name.length) 0 := fun h => by rw [nameR, if_pos h] at hN; obtain ⟨a, b⟩ := Prod.mk.inj hN; exact ⟨b.symm, a.symm⟩
  have hok : Sn.ok ⟨id, l1, name⟩ = (nameOk name && (decide (0 ≤ l1) && decide (l1 < 256))) := by
    unfold Sn.ok
    rw [decide_eq_false hz, decide_eq_true (show (id : Nat) ≠ 0 from h1)]
    cases nameOk name <;> simp
  have hby : 0 ≤ l1 → l1 < 256 → nameOk name = true → Sn.bytes ⟨id, l1, name⟩ = be 4 id ++ (be 2 u ++ (List.replicate 2 0 ++ N)) := fun a b c => by
    have hu2 : u = l1.toNat := by rw [u64w ⟨a, by omega⟩] at hu; omega
    rw [Sn.bytes, if_neg hz, (hnam2 c).2, hu2]
    simp only [List.append_assoc]
    rfl
  have hNl : N.length ≤ 8 := by
    cases h : nameOk name with
    | true => rw [(hnam2 h).2]; have := nameOk_len h; simp; omega
    | false => rw [nameR, if_neg (by rw [h]; simp)] at hN; obtain ⟨rfl, _⟩ := Prod.mk.inj hN; simp
  have lb1 := be_length 4 id
  have lb2 := be_length 2 u
  have lb3 : (List.replicate 2 (0 : UInt8)).length = 2 := rfl
  generalize be 4 id = T4 at *
  generalize be 2 u = T2 at *
  generalize List.replicate 2 (0 : UInt8) = T0 at *
  by_cases hen : en = 0
  · subst hen
    have hno : nameOk name = true := by cases h : nameOk name with
      | true => rfl
      | false => exact absurd rfl (hname h)
    have g2 : decide ((0 : Int) < (id : Int)) = true := decide_eq_true (by omega)
    have g3 : decide (0 < id) = true := decide_eq_true (by omega)
    by_cases hl : l1 < 0 ∨ 256 ≤ l1
    · rw [decide_eq_true hl] at p4
      have hk9 : Sn.ok ⟨id, l1, name⟩ = false := by
        rw [hok]
        rcases hl with h | h
        · rw [decide_eq_false (show ¬ 0 ≤ l1 by omega)]; simp
        · rw [decide_eq_false (show ¬ l1 < 256 by omega)]; simp
      have Hk := hid hk9
      clear hk9
      clear hok hname hnam2 hN hl hno hby
      have hB := Below.refl w.heap.size w
      have x := Blk.new w 33 #[.int .u32 id, .int .i64 l1, .string (bs name)]
      have xk := blk3 x
      have hB_1 := hB.alloc hB.size (.cells #[.int .u32 id, .int .i64 l1, .string (bs name)] 33)
      go_enter Tryz.func49, Tryz.ntmps49
      go_wp2_with fail
      go_at_call 79
      refine ((cn _)).mono ?_
      rintro e w1 ⟨rfl, hb1⟩
      replace hB := bt hB_1 hb1
      replace x := x.below hb1 x.lt
      replace xk := blk3 x
      clear hB_1
      go_wp2_with fail
      generalize w1 = V at hB x xk ⊢
      have X3 := ext3 x
      have D1 := fun e : Ext V => p1 e.world
      have D2 := fun e : Ext V => p2 e.world
      have D3 := fun e : Ext V => p3 e.world
      have D4 := fun e : Ext V => p4 e.world
      refine wp_region_ext mixed (by kernel_rfl) ?_
      repeat (go_big_quiet_step (((first | (go_at_call 98; with_reducible exact ext_of (D1 _)) | (go_at_call 98; with_reducible exact ext_of (D2 _)) | (go_at_call 102; with_reducible exact ext_of (D3 _)) | (go_at_call 43; with_reducible exact ext_of (D4 _))))))
      refine wpQuiet_nil ?_
      rintro W9 ⟨pq_, hpq_⟩
      have hb9 := pq_.below
      rw [← hpq_] at hb9
      clear hpq_ pq_
      go_wp2_with fail
      go_ret2
      exact ⟨⟨_, by rw [Hk.out]; rfl, fun h => absurd h (by rw [Hk.out]; simp)⟩, bt hB hb9⟩
    · rw [decide_eq_false hl] at p4
      have Hk := hid (show Sn.ok ⟨id, l1, name⟩ = true by rw [hok, hno, decide_eq_true (by omega), decide_eq_true (by omega)]; rfl)
      have Hb := hid (hby (by omega) (by omega) hno)
      clear hok hname hnam2 hN hl hno hby
      have hB := Below.refl w.heap.size w
      have x := Blk.new w 33 #[.int .u32 id, .int .i64 l1, .string (bs name)]
      have xk := blk3 x
      have hB_1 := hB.alloc hB.size (.cells #[.int .u32 id, .int .i64 l1, .string (bs name)] 33)
      go_enter Tryz.func49, Tryz.ntmps49
      go_wp2_with fail
      go_at_call 79
      refine ((cn _)).mono ?_
      rintro e w1 ⟨rfl, hb1⟩
      replace hB := bt hB_1 hb1
      replace x := x.below hb1 x.lt
      replace xk := blk3 x
      clear hB_1
      go_wp2_with fail
      generalize w1 = V at hB x xk ⊢
      have X3 := ext3 x
      have D1 := fun e : Ext V => p1 e.world
      have D2 := fun e : Ext V => p2 e.world
      have D3 := fun e : Ext V => p3 e.world
      have D4 := fun e : Ext V => p4 e.world
      refine wp_region_ext mixed (by kernel_rfl) ?_
      repeat (go_big_quiet_step (((first | (go_at_call 98; with_reducible exact ext_of (D1 _)) | (go_at_call 98; with_reducible exact ext_of (D2 _)) | (go_at_call 102; with_reducible exact ext_of (D3 _)) | (go_at_call 43; with_reducible exact ext_of (D4 _))))))
      refine wpQuiet_nil ?_
      rintro W9 ⟨pq_, hpq_⟩
      have hb9 := pq_.below
      rw [← hpq_] at hb9
      clear hpq_ pq_
      go_wp2_with fail
      go_ret2
      exact ⟨⟨_, by rw [Hk.out]; rfl, fun _ => Hb.out.symm⟩, bt hB hb9⟩
  · have g2 : (en == 0) = false := by rw [beq_eq_false_iff_ne]; exact hen
    have hk9 : Sn.ok ⟨id, l1, name⟩ = false := by
      rw [hok]
      cases h : nameOk name with
      | true => exact absurd (hnam2 h).1 hen
      | false => rfl
    have Hk := hid hk9
    clear hk9
    clear hok hname hnam2 hN hen hby
    have hB := Below.refl w.heap.size w
    have x := Blk.new w 33 #[.int .u32 id, .int .i64 l1, .string (bs name)]
    have xk := blk3 x
    have hB_1 := hB.alloc hB.size (.cells #[.int .u32 id, .int .i64 l1, .string (bs name)] 33)
    go_enter Tryz.func49, Tryz.ntmps49
    go_wp2_with fail
    go_at_call 79
    refine ((cn _)).mono ?_
    rintro e w1 ⟨rfl, hb1⟩
    replace hB := bt hB_1 hb1
    replace x := x.below hb1 x.lt
    replace xk := blk3 x
    clear hB_1
    go_wp2_with fail
    generalize w1 = V at hB x xk ⊢
    have X3 := ext3 x
    have D1 := fun e : Ext V => p1 e.world
    have D2 := fun e : Ext V => p2 e.world
    have D3 := fun e : Ext V => p3 e.world
    have D4 := fun e : Ext V => p4 e.world
    refine wp_region_ext mixed (by kernel_rfl) ?_
    repeat (go_big_quiet_step (((first | (go_at_call 98; with_reducible exact ext_of (D1 _)) | (go_at_call 98; with_reducible exact ext_of (D2 _)) | (go_at_call 102; with_reducible exact ext_of (D3 _)) | (go_at_call 43; with_reducible exact ext_of (D4 _))))))
    refine wpQuiet_nil ?_
    rintro W9 ⟨pq_, hpq_⟩
    have hb9 := pq_.below
    rw [← hpq_] at hb9
    clear hpq_ pq_
    go_wp2_with fail
    go_ret2
    exact ⟨⟨_, by rw [Hk.out]; rfl, fun h => absurd h (by rw [Hk.out]; simp)⟩, bt hB hb9⟩
set_option maxRecDepth 100000 in
theorem rt_writeSnap_2 (l1 : Int) (name : List UInt8) (h1 : l1 ≠ 0) (hl1 : okInt l1) (hm : name.length ≤ maxLen) (w : World) : Calls Tryz.prog 49 #[snval ⟨0, l1, name⟩] w fun e w' => (∃ b, e = .returned (.tuple #[.string (bs b), .bool (Sn.ok ⟨0, l1, name⟩)]) ∧ (Sn.ok ⟨0, l1, name⟩ = true → b = Sn.bytes ⟨0, l1, name⟩)) ∧ Below w.heap.size w w' := by
  have hz : (⟨0, l1, name⟩ : Sn) ≠ Sn.zero := fun h => by injection h with a b c; exact h1 b
  have g1 : (l1 == 0) = false := by rw [beq_eq_false_iff_ne]; exact h1
  have cn := fun W => name_any name hm W
  obtain ⟨N, en, hN⟩ : ∃ N en, nameR name = (N, en) := ⟨_, _, rfl⟩
  rw [hN] at cn
  simp only at cn
  obtain ⟨u, hu⟩ : ∃ u : Nat, IntKind.u64.wrap l1 = (u : Int) := ⟨(IntKind.u64.wrap l1).toNat, by have := u64w_nonneg l1; omega⟩
  have hu64 : u < 18446744073709551616 := by have := u64w_lt l1; omega
  have p1 := fun W => put_any ((0 : Nat) : Int) 4 (by omega) (by omega) W
  rw [Int.toNat_natCast, show putS 0 4 = be 4 0 from putS_yes 0 4 (by decide) (by decide)] at p1
  have p2 := fun W => put_any ((u : Nat) : Int) 2 (by omega) (by omega) W
  rw [Int.toNat_natCast, show putS u 2 = be 2 u from putS_yes u 2 (by decide) (by decide)] at p2
  have p3 := fun W => rt_zeros 2 (by decide) W
  rw [show ((2 : Nat) : Int) = 2 from rfl] at p3
  have p4 := fun W => rt_outB l1 W
  have u1 := u64w (x := ((0 : Nat) : Int)) ⟨by omega, by omega⟩
  have hname : nameOk name = false → en ≠ 0 := fun h => by rw [nameR, if_neg (by rw [h]; simp)] at hN; obtain ⟨_, rfl⟩ := Prod.mk.inj hN; decide
  have hnam2 : nameOk name = true → en = 0 ∧ N = name ++ List.replicate (8 - name.length) 0 := fun h => by rw [nameR, if_pos h] at hN; obtain ⟨a, b⟩ := Prod.mk.inj hN; exact ⟨b.symm, a.symm⟩
  have hok : Sn.ok ⟨0, l1, name⟩ = (nameOk name && (false)) := by
    unfold Sn.ok
    rw [decide_eq_false hz]
    simp
  have hNl : N.length ≤ 8 := by
    cases h : nameOk name with
    | true => rw [(hnam2 h).2]; have := nameOk_len h; simp; omega
    | false => rw [nameR, if_neg (by rw [h]; simp)] at hN; obtain ⟨rfl, _⟩ := Prod.mk.inj hN; simp
  have lb1 := be_length 4 0
  have lb2 := be_length 2 u
  have lb3 : (List.replicate 2 (0 : UInt8)).length = 2 := rfl
  generalize be 4 0 = T4 at *
  generalize be 2 u = T2 at *
  generalize List.replicate 2 (0 : UInt8) = T0 at *
  by_cases hen : en = 0
  · subst hen
    have hno : nameOk name = true := by cases h : nameOk name with
      | true => rfl
      | false => exact absurd rfl (hname h)
    have Hk := hid (show Sn.ok ⟨0, l1, name⟩ = false by rw [hok]; simp)
    clear hok hname hnam2 hN hno
    have hB := Below.refl w.heap.size w
    have x := Blk.new w 33 #[.int .u32 0, .int .i64 l1, .string (bs name)]
    have xk := blk3 x
    have hB_1 := hB.alloc hB.size (.cells #[.int .u32 0, .int .i64 l1, .string (bs name)] 33)
    go_enter Tryz.func49, Tryz.ntmps49
    go_wp2_with fail
    go_at_call 79
    refine ((cn _)).mono ?_
    rintro e w1 ⟨rfl, hb1⟩
    replace hB := bt hB_1 hb1
    replace x := x.below hb1 x.lt
    replace xk := blk3 x
    clear hB_1
    go_wp2_with fail
    generalize w1 = V at hB x xk ⊢
    have X3 := ext3 x
    have D1 := fun e : Ext V => p1 e.world
    have D2 := fun e : Ext V => p2 e.world
    have D3 := fun e : Ext V => p3 e.world
    have D4 := fun e : Ext V => p4 e.world
    refine wp_region_ext mixed (by kernel_rfl) ?_
    repeat (go_big_quiet_step (((first | (go_at_call 98; with_reducible exact ext_of (D1 _)) | (go_at_call 98; with_reducible exact ext_of (D2 _)) | (go_at_call 102; with_reducible exact ext_of (D3 _)) | (go_at_call 43; with_reducible exact ext_of (D4 _))))))
    refine wpQuiet_nil ?_
    rintro W9 ⟨pq_, hpq_⟩
    have hb9 := pq_.below
    rw [← hpq_] at hb9
    clear hpq_ pq_
    go_wp2_with fail
    go_ret2
    exact ⟨⟨_, by rw [Hk.out]; rfl, fun h => absurd h (by rw [Hk.out]; simp)⟩, bt hB hb9⟩
  · have g2 : (en == 0) = false := by rw [beq_eq_false_iff_ne]; exact hen
    have hk9 : Sn.ok ⟨0, l1, name⟩ = false := by
      rw [hok]
      cases h : nameOk name with
      | true => exact absurd (hnam2 h).1 hen
      | false => rfl
    have Hk := hid hk9
    clear hk9
    clear hok hname hnam2 hN hen
    have hB := Below.refl w.heap.size w
    have x := Blk.new w 33 #[.int .u32 0, .int .i64 l1, .string (bs name)]
    have xk := blk3 x
    have hB_1 := hB.alloc hB.size (.cells #[.int .u32 0, .int .i64 l1, .string (bs name)] 33)
    go_enter Tryz.func49, Tryz.ntmps49
    go_wp2_with fail
    go_at_call 79
    refine ((cn _)).mono ?_
    rintro e w1 ⟨rfl, hb1⟩
    replace hB := bt hB_1 hb1
    replace x := x.below hb1 x.lt
    replace xk := blk3 x
    clear hB_1
    go_wp2_with fail
    generalize w1 = V at hB x xk ⊢
    have X3 := ext3 x
    have D1 := fun e : Ext V => p1 e.world
    have D2 := fun e : Ext V => p2 e.world
    have D3 := fun e : Ext V => p3 e.world
    have D4 := fun e : Ext V => p4 e.world
    refine wp_region_ext mixed (by kernel_rfl) ?_
    repeat (go_big_quiet_step (((first | (go_at_call 98; with_reducible exact ext_of (D1 _)) | (go_at_call 98; with_reducible exact ext_of (D2 _)) | (go_at_call 102; with_reducible exact ext_of (D3 _)) | (go_at_call 43; with_reducible exact ext_of (D4 _))))))
    refine wpQuiet_nil ?_
    rintro W9 ⟨pq_, hpq_⟩
    have hb9 := pq_.below
    rw [← hpq_] at hb9
    clear hpq_ pq_
    go_wp2_with fail
    go_ret2
    exact ⟨⟨_, by rw [Hk.out]; rfl, fun h => absurd h (by rw [Hk.out]; simp)⟩, bt hB hb9⟩
set_option maxRecDepth 100000 in
theorem rt_writeSnap_3 (name : List UInt8) (h1 : name ≠ []) (hm : name.length ≤ maxLen) (w : World) : Calls Tryz.prog 49 #[snval ⟨0, 0, name⟩] w fun e w' => (∃ b, e = .returned (.tuple #[.string (bs b), .bool (Sn.ok ⟨0, 0, name⟩)]) ∧ (Sn.ok ⟨0, 0, name⟩ = true → b = Sn.bytes ⟨0, 0, name⟩)) ∧ Below w.heap.size w w' := by
  have hz : (⟨0, 0, name⟩ : Sn) ≠ Sn.zero := fun h => by injection h with a b c; exact h1 c
  have g1 : (name == []) = false := by cases name with
    | nil => exact absurd rfl h1
    | cons a l => rfl
  have cn := fun W => name_any name hm W
  obtain ⟨N, en, hN⟩ : ∃ N en, nameR name = (N, en) := ⟨_, _, rfl⟩
  rw [hN] at cn
  simp only at cn
  have p1 := fun W => put_any ((0 : Nat) : Int) 4 (by omega) (by omega) W
  rw [Int.toNat_natCast, show putS 0 4 = be 4 0 from putS_yes 0 4 (by decide) (by decide)] at p1
  have p2 := fun W => put_any ((0 : Nat) : Int) 2 (by omega) (by omega) W
  rw [Int.toNat_natCast, show putS 0 2 = be 2 0 from putS_yes 0 2 (by decide) (by decide)] at p2
  have p3 := fun W => rt_zeros 2 (by decide) W
  rw [show ((2 : Nat) : Int) = 2 from rfl] at p3
  have p4 := fun W => rt_outB 0 W
  have u1 := u64w (x := ((0 : Nat) : Int)) ⟨by omega, by omega⟩
  have hname : nameOk name = false → en ≠ 0 := fun h => by rw [nameR, if_neg (by rw [h]; simp)] at hN; obtain ⟨_, rfl⟩ := Prod.mk.inj hN; decide
  have hnam2 : nameOk name = true → en = 0 ∧ N = name ++ List.replicate (8 - name.length) 0 := fun h => by rw [nameR, if_pos h] at hN; obtain ⟨a, b⟩ := Prod.mk.inj hN; exact ⟨b.symm, a.symm⟩
  have hok : Sn.ok ⟨0, 0, name⟩ = (nameOk name && (false)) := by
    unfold Sn.ok
    rw [decide_eq_false hz]
    simp
  have hNl : N.length ≤ 8 := by
    cases h : nameOk name with
    | true => rw [(hnam2 h).2]; have := nameOk_len h; simp; omega
    | false => rw [nameR, if_neg (by rw [h]; simp)] at hN; obtain ⟨rfl, _⟩ := Prod.mk.inj hN; simp
  have lb1 := be_length 4 0
  have lb2 := be_length 2 0
  have lb3 : (List.replicate 2 (0 : UInt8)).length = 2 := rfl
  generalize be 4 0 = T4 at *
  generalize be 2 0 = T2 at *
  generalize List.replicate 2 (0 : UInt8) = T0 at *
  by_cases hen : en = 0
  · subst hen
    have hno : nameOk name = true := by cases h : nameOk name with
      | true => rfl
      | false => exact absurd rfl (hname h)
    have Hk := hid (show Sn.ok ⟨0, 0, name⟩ = false by rw [hok]; simp)
    clear hok hname hnam2 hN hno
    have hB := Below.refl w.heap.size w
    have x := Blk.new w 33 #[.int .u32 0, .int .i64 0, .string (bs name)]
    have xk := blk3 x
    have hB_1 := hB.alloc hB.size (.cells #[.int .u32 0, .int .i64 0, .string (bs name)] 33)
    go_enter Tryz.func49, Tryz.ntmps49
    go_wp2_with fail
    go_at_call 79
    refine ((cn _)).mono ?_
    rintro e w1 ⟨rfl, hb1⟩
    replace hB := bt hB_1 hb1
    replace x := x.below hb1 x.lt
    replace xk := blk3 x
    clear hB_1
    go_wp2_with fail
    generalize w1 = V at hB x xk ⊢
    have X3 := ext3 x
    have D1 := fun e : Ext V => p1 e.world
    have D2 := fun e : Ext V => p2 e.world
    have D3 := fun e : Ext V => p3 e.world
    have D4 := fun e : Ext V => p4 e.world
    refine wp_region_ext mixed (by kernel_rfl) ?_
    repeat (go_big_quiet_step (((first | (go_at_call 98; with_reducible exact ext_of (D1 _)) | (go_at_call 98; with_reducible exact ext_of (D2 _)) | (go_at_call 102; with_reducible exact ext_of (D3 _)) | (go_at_call 43; with_reducible exact ext_of (D4 _))))))
    refine wpQuiet_nil ?_
    rintro W9 ⟨pq_, hpq_⟩
    have hb9 := pq_.below
    rw [← hpq_] at hb9
    clear hpq_ pq_
    go_wp2_with fail
    go_ret2
    exact ⟨⟨_, by rw [Hk.out]; rfl, fun h => absurd h (by rw [Hk.out]; simp)⟩, bt hB hb9⟩
  · have g2 : (en == 0) = false := by rw [beq_eq_false_iff_ne]; exact hen
    have hk9 : Sn.ok ⟨0, 0, name⟩ = false := by
      rw [hok]
      cases h : nameOk name with
      | true => exact absurd (hnam2 h).1 hen
      | false => rfl
    have Hk := hid hk9
    clear hk9
    clear hok hname hnam2 hN hen
    have hB := Below.refl w.heap.size w
    have x := Blk.new w 33 #[.int .u32 0, .int .i64 0, .string (bs name)]
    have xk := blk3 x
    have hB_1 := hB.alloc hB.size (.cells #[.int .u32 0, .int .i64 0, .string (bs name)] 33)
    go_enter Tryz.func49, Tryz.ntmps49
    go_wp2_with fail
    go_at_call 79
    refine ((cn _)).mono ?_
    rintro e w1 ⟨rfl, hb1⟩
    replace hB := bt hB_1 hb1
    replace x := x.below hb1 x.lt
    replace xk := blk3 x
    clear hB_1
    go_wp2_with fail
    generalize w1 = V at hB x xk ⊢
    have X3 := ext3 x
    have D1 := fun e : Ext V => p1 e.world
    have D2 := fun e : Ext V => p2 e.world
    have D3 := fun e : Ext V => p3 e.world
    have D4 := fun e : Ext V => p4 e.world
    refine wp_region_ext mixed (by kernel_rfl) ?_
    repeat (go_big_quiet_step (((first | (go_at_call 98; with_reducible exact ext_of (D1 _)) | (go_at_call 98; with_reducible exact ext_of (D2 _)) | (go_at_call 102; with_reducible exact ext_of (D3 _)) | (go_at_call 43; with_reducible exact ext_of (D4 _))))))
    refine wpQuiet_nil ?_
    rintro W9 ⟨pq_, hpq_⟩
    have hb9 := pq_.below
    rw [← hpq_] at hb9
    clear hpq_ pq_
    go_wp2_with fail
    go_ret2
    exact ⟨⟨_, by rw [Hk.out]; rfl, fun h => absurd h (by rw [Hk.out]; simp)⟩, bt hB hb9⟩
theorem rt_writeSnap (s : Sn) (hi : s.id < 4294967296) (hl : okInt s.l1) (hm : s.name.length ≤ maxLen) (w : World) : Calls Tryz.prog 49 #[snval s] w fun e w' => (∃ b, e = .returned (.tuple #[.string (bs b), .bool s.ok]) ∧ (s.ok = true → b = s.bytes)) ∧ Below w.heap.size w w' := by
  obtain ⟨id, l1, name⟩ := s
  by_cases h1 : id = 0
  · subst h1
    by_cases h2 : l1 = 0
    · subst h2
      by_cases h3 : name = []
      · subst h3
        refine (rt_writeSnap_zero w).mono ?_
        rintro e w' ⟨rfl, hb⟩
        exact ⟨⟨_, rfl, fun _ => rfl⟩, hb⟩
      · exact rt_writeSnap_3 name h3 hm w
    · exact rt_writeSnap_2 l1 name h2 hl hm w
  · exact rt_writeSnap_1 id l1 name hi h1 hl hm w
set_option maxRecDepth 100000 in
theorem r10_snap_zero (w : World) : Calls Tryz.prog 52 #[snval Sn.zero] w fun e w' => e = .returned (.tuple #[.string (bs (List.replicate 16 0)), .bool true]) ∧ Below w.heap.size w w' := by
  have c := fun W => r10_zeros 16 (by decide) W
  rw [show ((16 : Nat) : Int) = 16 from rfl] at c
  generalize List.replicate 16 (0 : UInt8) = T at *
  have hB := Below.refl w.heap.size w
  have x := Blk.new w 33 #[.int .u32 0, .int .i64 0, .string (bs [])]
  have xk := blk3 x
  have hB_1 := hB.alloc hB.size (.cells #[.int .u32 0, .int .i64 0, .string (bs [])] 33)
  go_enter Tryz.func52, Tryz.ntmps52
  go_wp2_with fail
  go_at_call 62
  refine ((c _)).mono ?_
  rintro e w1 ⟨rfl, hb1⟩
  replace hB := bt hB_1 hb1
  replace x := x.below hb1 x.lt
  replace xk := blk3 x
  clear hB_1
  go_wp2_with fail
  go_ret2
  exact ⟨rfl, hB⟩
set_option maxRecDepth 100000 in
theorem r10_snap_1 (id : Nat) (l1 : Int) (name : List UInt8) (hidd : id < 4294967296) (h1 : id ≠ 0) (hl1 : okInt l1) (hm : name.length ≤ maxLen) (w : World) : Calls Tryz.prog 52 #[snval ⟨id, l1, name⟩] w fun e w' => (∃ b, e = .returned (.tuple #[.string (bs b), .bool (Sn.ok ⟨id, l1, name⟩)]) ∧ (Sn.ok ⟨id, l1, name⟩ = true → b = Sn.bytes ⟨id, l1, name⟩)) ∧ Below w.heap.size w w' := by
  have hz : (⟨id, l1, name⟩ : Sn) ≠ Sn.zero := fun h => by injection h with a b c; exact h1 a
  have g1 : (((id : Nat) : Int) == 0) = false := by rw [beq_eq_false_iff_ne]; omega
  have cn := fun W => r3_name name hm W
  obtain ⟨N, en, hN⟩ : ∃ N en, nameR name = (N, en) := ⟨_, _, rfl⟩
  rw [hN] at cn
  simp only at cn
  obtain ⟨u, hu⟩ : ∃ u : Nat, IntKind.u64.wrap l1 = (u : Int) := ⟨(IntKind.u64.wrap l1).toNat, by have := u64w_nonneg l1; omega⟩
  have hu64 : u < 18446744073709551616 := by have := u64w_lt l1; omega
  have p1 := fun W => rput_any ((id : Nat) : Int) 4 (by omega) (by omega) W
  rw [Int.toNat_natCast, show putS id 4 = be 4 id from putS_yes id 4 (by decide) (by decide)] at p1
  have p2 := fun W => rput_any ((u : Nat) : Int) 2 (by omega) (by omega) W
  rw [Int.toNat_natCast, show putS u 2 = be 2 u from putS_yes u 2 (by decide) (by decide)] at p2
  have p3 := fun W => r10_zeros 2 (by decide) W
  rw [show ((2 : Nat) : Int) = 2 from rfl] at p3
  have p4 := fun W => r10_clus l1 W
  have u1 := u64w (x := ((id : Nat) : Int)) ⟨by omega, by omega⟩
  have hname : nameOk name = false → en ≠ 0 := fun h => by rw [nameR, if_neg (by rw [h]; simp)] at hN; obtain ⟨_, rfl⟩ := Prod.mk.inj hN; decide
  have hnam2 : nameOk name = true → en = 0 ∧ N = name ++ List.replicate (8 - name.length) 0 := fun h => by rw [nameR, if_pos h] at hN; obtain ⟨a, b⟩ := Prod.mk.inj hN; exact ⟨b.symm, a.symm⟩
  have hok : Sn.ok ⟨id, l1, name⟩ = (nameOk name && (decide (0 ≤ l1) && decide (l1 < 256))) := by
    unfold Sn.ok
    rw [decide_eq_false hz, decide_eq_true (show (id : Nat) ≠ 0 from h1)]
    cases nameOk name <;> simp
  have hby : 0 ≤ l1 → l1 < 256 → nameOk name = true → Sn.bytes ⟨id, l1, name⟩ = be 4 id ++ (be 2 u ++ (List.replicate 2 0 ++ N)) := fun a b c => by
    have hu2 : u = l1.toNat := by rw [u64w ⟨a, by omega⟩] at hu; omega
    rw [Sn.bytes, if_neg hz, (hnam2 c).2, hu2]
    simp only [List.append_assoc]
    rfl
  have hNl : N.length ≤ 8 := by
    cases h : nameOk name with
    | true => rw [(hnam2 h).2]; have := nameOk_len h; simp; omega
    | false => rw [nameR, if_neg (by rw [h]; simp)] at hN; obtain ⟨rfl, _⟩ := Prod.mk.inj hN; simp
  have lb1 := be_length 4 id
  have lb2 := be_length 2 u
  have lb3 : (List.replicate 2 (0 : UInt8)).length = 2 := rfl
  generalize be 4 id = T4 at *
  generalize be 2 u = T2 at *
  generalize List.replicate 2 (0 : UInt8) = T0 at *
  by_cases hen : en = 0
  · subst hen
    have hno : nameOk name = true := by cases h : nameOk name with
      | true => rfl
      | false => exact absurd rfl (hname h)
    by_cases hl : 0 ≤ l1 ∧ l1 < 256
    · rw [decide_eq_true hl] at p4
      have Hk := hid (show Sn.ok ⟨id, l1, name⟩ = true by rw [hok, hno, decide_eq_true hl.1, decide_eq_true hl.2]; rfl)
      have Hb := hid (hby hl.1 hl.2 hno)
      clear hok hname hnam2 hN hl hno hby
      have hB := Below.refl w.heap.size w
      have x := Blk.new w 33 #[.int .u32 id, .int .i64 l1, .string (bs name)]
      have xk := blk3 x
      have hB_1 := hB.alloc hB.size (.cells #[.int .u32 id, .int .i64 l1, .string (bs name)] 33)
      go_enter Tryz.func52, Tryz.ntmps52
      go_wp2_with fail
      go_at_call 105
      refine ((cn _)).mono ?_
      rintro e w1 ⟨rfl, hb1⟩
      replace hB := bt hB_1 hb1
      replace x := x.below hb1 x.lt
      replace xk := blk3 x
      clear hB_1
      go_wp2_with fail
      go_at_call 46
      refine ((p4 _)).mono ?_
      rintro e w2 ⟨rfl, hb2⟩
      replace hB := bt hB hb2
      replace x := x.below hb2 x.lt
      replace xk := blk3 x
      go_wp2_with fail
      generalize w2 = V at hB x xk ⊢
      have X3 := ext3 x
      have D1 := fun e : Ext V => p1 e.world
      have D2 := fun e : Ext V => p2 e.world
      have D3 := fun e : Ext V => p3 e.world
      refine wp_region_ext mixed (by kernel_rfl) ?_
      repeat (go_big_quiet_step (((first | (go_at_call 100; with_reducible exact ext_of (D1 _)) | (go_at_call 100; with_reducible exact ext_of (D2 _)) | (go_at_call 62; with_reducible exact ext_of (D3 _))))))
      refine wpQuiet_nil ?_
      rintro W9 ⟨pq_, hpq_⟩
      have hb9 := pq_.below
      rw [← hpq_] at hb9
      clear hpq_ pq_
      go_wp2_with fail
      go_ret2
      exact ⟨⟨_, by rw [Hk.out]; rfl, fun _ => Hb.out.symm⟩, bt hB hb9⟩
    · rw [decide_eq_false hl] at p4
      have hk9 : Sn.ok ⟨id, l1, name⟩ = false := by
        rw [hok]
        by_cases h : 0 ≤ l1
        · rw [decide_eq_false (show ¬ l1 < 256 by omega)]; simp
        · rw [decide_eq_false h]; simp
      have Hk := hid hk9
      clear hk9
      clear hok hname hnam2 hN hl hno hby
      have hB := Below.refl w.heap.size w
      have x := Blk.new w 33 #[.int .u32 id, .int .i64 l1, .string (bs name)]
      have xk := blk3 x
      have hB_1 := hB.alloc hB.size (.cells #[.int .u32 id, .int .i64 l1, .string (bs name)] 33)
      go_enter Tryz.func52, Tryz.ntmps52
      go_wp2_with fail
      go_at_call 105
      refine ((cn _)).mono ?_
      rintro e w1 ⟨rfl, hb1⟩
      replace hB := bt hB_1 hb1
      replace x := x.below hb1 x.lt
      replace xk := blk3 x
      clear hB_1
      go_wp2_with fail
      go_at_call 46
      refine ((p4 _)).mono ?_
      rintro e w2 ⟨rfl, hb2⟩
      replace hB := bt hB hb2
      replace x := x.below hb2 x.lt
      replace xk := blk3 x
      go_wp2_with fail
      go_ret2
      exact ⟨⟨_, by rw [Hk.out]; rfl, fun h => absurd h (by rw [Hk.out]; simp)⟩, hB⟩
  · have g2 : (en != 0) = true := bne_iff_ne.2 hen
    have hk9 : Sn.ok ⟨id, l1, name⟩ = false := by
      rw [hok]
      cases h : nameOk name with
      | true => exact absurd (hnam2 h).1 hen
      | false => rfl
    have Hk := hid hk9
    clear hk9
    clear hok hname hnam2 hN hen hby
    have hB := Below.refl w.heap.size w
    have x := Blk.new w 33 #[.int .u32 id, .int .i64 l1, .string (bs name)]
    have xk := blk3 x
    have hB_1 := hB.alloc hB.size (.cells #[.int .u32 id, .int .i64 l1, .string (bs name)] 33)
    go_enter Tryz.func52, Tryz.ntmps52
    go_wp2_with fail
    go_at_call 105
    refine ((cn _)).mono ?_
    rintro e w1 ⟨rfl, hb1⟩
    replace hB := bt hB_1 hb1
    replace x := x.below hb1 x.lt
    replace xk := blk3 x
    clear hB_1
    skip
    go_wp2_with fail
    go_ret2
    exact ⟨⟨_, by rw [Hk.out]; rfl, fun h => absurd h (by rw [Hk.out]; simp)⟩, hB⟩
set_option maxRecDepth 100000 in
theorem r10_snap_2 (l1 : Int) (name : List UInt8) (h1 : l1 ≠ 0) (hl1 : okInt l1) (hm : name.length ≤ maxLen) (w : World) : Calls Tryz.prog 52 #[snval ⟨0, l1, name⟩] w fun e w' => (∃ b, e = .returned (.tuple #[.string (bs b), .bool (Sn.ok ⟨0, l1, name⟩)]) ∧ (Sn.ok ⟨0, l1, name⟩ = true → b = Sn.bytes ⟨0, l1, name⟩)) ∧ Below w.heap.size w w' := by
  have hz : (⟨0, l1, name⟩ : Sn) ≠ Sn.zero := fun h => by injection h with a b c; exact h1 b
  have g1 : (l1 == 0) = false := by rw [beq_eq_false_iff_ne]; exact h1
  have cn := fun W => r3_name name hm W
  obtain ⟨N, en, hN⟩ : ∃ N en, nameR name = (N, en) := ⟨_, _, rfl⟩
  rw [hN] at cn
  simp only at cn
  obtain ⟨u, hu⟩ : ∃ u : Nat, IntKind.u64.wrap l1 = (u : Int) := ⟨(IntKind.u64.wrap l1).toNat, by have := u64w_nonneg l1; omega⟩
  have hu64 : u < 18446744073709551616 := by have := u64w_lt l1; omega
  have p1 := fun W => rput_any ((0 : Nat) : Int) 4 (by omega) (by omega) W
  rw [Int.toNat_natCast, show putS 0 4 = be 4 0 from putS_yes 0 4 (by decide) (by decide)] at p1
  have p2 := fun W => rput_any ((u : Nat) : Int) 2 (by omega) (by omega) W
  rw [Int.toNat_natCast, show putS u 2 = be 2 u from putS_yes u 2 (by decide) (by decide)] at p2
  have p3 := fun W => r10_zeros 2 (by decide) W
  rw [show ((2 : Nat) : Int) = 2 from rfl] at p3
  have p4 := fun W => r10_clus l1 W
  have u1 := u64w (x := ((0 : Nat) : Int)) ⟨by omega, by omega⟩
  have hname : nameOk name = false → en ≠ 0 := fun h => by rw [nameR, if_neg (by rw [h]; simp)] at hN; obtain ⟨_, rfl⟩ := Prod.mk.inj hN; decide
  have hnam2 : nameOk name = true → en = 0 ∧ N = name ++ List.replicate (8 - name.length) 0 := fun h => by rw [nameR, if_pos h] at hN; obtain ⟨a, b⟩ := Prod.mk.inj hN; exact ⟨b.symm, a.symm⟩
  have hok : Sn.ok ⟨0, l1, name⟩ = (nameOk name && (false)) := by
    unfold Sn.ok
    rw [decide_eq_false hz]
    simp
  have hNl : N.length ≤ 8 := by
    cases h : nameOk name with
    | true => rw [(hnam2 h).2]; have := nameOk_len h; simp; omega
    | false => rw [nameR, if_neg (by rw [h]; simp)] at hN; obtain ⟨rfl, _⟩ := Prod.mk.inj hN; simp
  have lb1 := be_length 4 0
  have lb2 := be_length 2 u
  have lb3 : (List.replicate 2 (0 : UInt8)).length = 2 := rfl
  generalize be 4 0 = T4 at *
  generalize be 2 u = T2 at *
  generalize List.replicate 2 (0 : UInt8) = T0 at *
  have Hk := hid (show Sn.ok ⟨0, l1, name⟩ = false by rw [hok]; simp)
  clear hok hname hnam2 hN
  have hB := Below.refl w.heap.size w
  have x := Blk.new w 33 #[.int .u32 0, .int .i64 l1, .string (bs name)]
  have xk := blk3 x
  have hB_1 := hB.alloc hB.size (.cells #[.int .u32 0, .int .i64 l1, .string (bs name)] 33)
  go_enter Tryz.func52, Tryz.ntmps52
  go_wp2_with fail
  go_at_call 105
  refine ((cn _)).mono ?_
  rintro e w1 ⟨rfl, hb1⟩
  replace hB := bt hB_1 hb1
  replace x := x.below hb1 x.lt
  replace xk := blk3 x
  clear hB_1
  skip
  go_wp2_with fail
  go_ret2
  exact ⟨⟨_, by rw [Hk.out]; rfl, fun h => absurd h (by rw [Hk.out]; simp)⟩, hB⟩
set_option maxRecDepth 100000 in
theorem r10_snap_3 (name : List UInt8) (h1 : name ≠ []) (hm : name.length ≤ maxLen) (w : World) : Calls Tryz.prog 52 #[snval ⟨0, 0, name⟩] w fun e w' => (∃ b, e = .returned (.tuple #[.string (bs b), .bool (Sn.ok ⟨0, 0, name⟩)]) ∧ (Sn.ok ⟨0, 0, name⟩ = true → b = Sn.bytes ⟨0, 0, name⟩)) ∧ Below w.heap.size w w' := by
  have hz : (⟨0, 0, name⟩ : Sn) ≠ Sn.zero := fun h => by injection h with a b c; exact h1 c
  have g1 : (name == []) = false := by cases name with
    | nil => exact absurd rfl h1
    | cons a l => rfl
  have cn := fun W => r3_name name hm W
  obtain ⟨N, en, hN⟩ : ∃ N en, nameR name = (N, en) := ⟨_, _, rfl⟩
  rw [hN] at cn
  simp only at cn
  have p1 := fun W => rput_any ((0 : Nat) : Int) 4 (by omega) (by omega) W
  rw [Int.toNat_natCast, show putS 0 4 = be 4 0 from putS_yes 0 4 (by decide) (by decide)] at p1
  have p2 := fun W => rput_any ((0 : Nat) : Int) 2 (by omega) (by omega) W
  rw [Int.toNat_natCast, show putS 0 2 = be 2 0 from putS_yes 0 2 (by decide) (by decide)] at p2
  have p3 := fun W => r10_zeros 2 (by decide) W
  rw [show ((2 : Nat) : Int) = 2 from rfl] at p3
  have p4 := fun W => r10_clus 0 W
  have u1 := u64w (x := ((0 : Nat) : Int)) ⟨by omega, by omega⟩
  have hname : nameOk name = false → en ≠ 0 := fun h => by rw [nameR, if_neg (by rw [h]; simp)] at hN; obtain ⟨_, rfl⟩ := Prod.mk.inj hN; decide
  have hnam2 : nameOk name = true → en = 0 ∧ N = name ++ List.replicate (8 - name.length) 0 := fun h => by rw [nameR, if_pos h] at hN; obtain ⟨a, b⟩ := Prod.mk.inj hN; exact ⟨b.symm, a.symm⟩
  have hok : Sn.ok ⟨0, 0, name⟩ = (nameOk name && (false)) := by
    unfold Sn.ok
    rw [decide_eq_false hz]
    simp
  have hNl : N.length ≤ 8 := by
    cases h : nameOk name with
    | true => rw [(hnam2 h).2]; have := nameOk_len h; simp; omega
    | false => rw [nameR, if_neg (by rw [h]; simp)] at hN; obtain ⟨rfl, _⟩ := Prod.mk.inj hN; simp
  have lb1 := be_length 4 0
  have lb2 := be_length 2 0
  have lb3 : (List.replicate 2 (0 : UInt8)).length = 2 := rfl
  generalize be 4 0 = T4 at *
  generalize be 2 0 = T2 at *
  generalize List.replicate 2 (0 : UInt8) = T0 at *
  have Hk := hid (show Sn.ok ⟨0, 0, name⟩ = false by rw [hok]; simp)
  clear hok hname hnam2 hN
  have hB := Below.refl w.heap.size w
  have x := Blk.new w 33 #[.int .u32 0, .int .i64 0, .string (bs name)]
  have xk := blk3 x
  have hB_1 := hB.alloc hB.size (.cells #[.int .u32 0, .int .i64 0, .string (bs name)] 33)
  go_enter Tryz.func52, Tryz.ntmps52
  go_wp2_with fail
  go_at_call 105
  refine ((cn _)).mono ?_
  rintro e w1 ⟨rfl, hb1⟩
  replace hB := bt hB_1 hb1
  replace x := x.below hb1 x.lt
  replace xk := blk3 x
  clear hB_1
  skip
  go_wp2_with fail
  go_ret2
  exact ⟨⟨_, by rw [Hk.out]; rfl, fun h => absurd h (by rw [Hk.out]; simp)⟩, hB⟩
theorem r10_snap (s : Sn) (hi : s.id < 4294967296) (hl : okInt s.l1) (hm : s.name.length ≤ maxLen) (w : World) : Calls Tryz.prog 52 #[snval s] w fun e w' => (∃ b, e = .returned (.tuple #[.string (bs b), .bool s.ok]) ∧ (s.ok = true → b = s.bytes)) ∧ Below w.heap.size w w' := by
  obtain ⟨id, l1, name⟩ := s
  by_cases h1 : id = 0
  · subst h1
    by_cases h2 : l1 = 0
    · subst h2
      by_cases h3 : name = []
      · subst h3
        refine (r10_snap_zero w).mono ?_
        rintro e w' ⟨rfl, hb⟩
        exact ⟨⟨_, rfl, fun _ => rfl⟩, hb⟩
      · exact r10_snap_3 name h3 hm w
    · exact r10_snap_2 l1 name h2 hl hm w
  · exact r10_snap_1 id l1 name hi h1 hl hm w
end Go.Proofs.YtjhnaeomaigimaaGreatDoor
