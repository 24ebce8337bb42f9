/- TxnByte: with one byte changed a transaction is not read: any transaction, any place, any change. No condition. -/
import Derived.Test.YtkiokdphjfkocaaLaw06a
import Derived.Test.YtkiokdphjfkocaaOpen5
import Derived.Test.YtkiokdphjfkocaaShut
import Derived.Test.YtkiokdphjfkocaaCrcLaw2
import Derived.Laws.BitsAllLaws
set_option linter.unusedVariables false
namespace Go.Proofs.Ytkiokdphjfkocaa.txnByte
open Go.RowKit Go.Shelf Go.WideShapes Go.ChangeShapes Go.ChangeAt
open Go.ChangeMaps (open_string shut_string)
attribute [local go_sem] bs_mk bs_append bs_extract bs_size bs_toList bs_get
set_option maxRecDepth 100000 in
theorem walk_no (t : Tx) (p q : Pl) (z : Int) (y : Nat) (w : World) (hL : IsPn w t.plan p q) (hsq : t.seq < 18446744073709551616) (hy : y < 256) (hg : few t [] = false) :
    Calls Try.prog 5 #[tval t p q, .int .i64 z, .int .u8 y] w fun e w' => e = .returned (.bool true) ∧ Below w.heap.size w w' := by
  have hG := fun (W : World) (hb : Below w.heap.size w W) => few06 t p q [] none 0 W (hL.below hb) (.inl rfl) (Nat.le_refl _) (Nat.zero_le _) (fun s h => by cases h)
  rw [hg] at hG
  clear hL hg
  have hB := Below.refl w.heap.size w
  have x := Blk.new w 28 #[.int .u64 t.seq, .slice p.a t.plan.targets.length p.c, .slice q.a t.plan.data.length q.c]
  have xk := blk3 x
  have hB_1 := hB.alloc hB.size (.cells #[.int .u64 t.seq, .slice p.a t.plan.targets.length p.c, .slice q.a t.plan.data.length q.c] 28)
  go_enter Try.func5, Try.ntmps5
  go_wp2_with fail
  go_at_call 8
  refine ((hG _ hB_1)).mono ?_
  rintro e w1 ⟨rfl, hb1⟩
  replace hB := bt hB_1 hb1
  replace x := x.below hb1 x.lt
  replace xk := blk3 x
  clear hB_1
  go_wp2_with fail
  go_at_call 9
  refine ((awake06 _)).mono ?_
  rintro e w6 ⟨rfl, hb6⟩
  replace hB := bt hB hb6
  replace x := x.below hb6 x.lt
  replace xk := blk3 x
  go_wp2_with fail
  go_ret
  exact ⟨rfl, hB⟩

theorem xor_ne {a b : UInt8} (h : b ≠ 0) : a ≠ a ^^^ b := by
  intro e
  apply h
  have := congrArg (a ^^^ ·) e
  simpa [← UInt8.xor_assoc] using this.symm
set_option maxRecDepth 100000 in
theorem walk_bad (t : Tx) (p q : Pl) (z : Int) (y : Nat) (w : World) (hL : IsPn w t.plan p q) (hsq : t.seq < 18446744073709551616) (hy : y < 256) (hg : few t [] = true) (ht : ¬ t.Ok) :
    Calls Try.prog 5 #[tval t p q, .int .i64 z, .int .u8 y] w fun e w' => e = .returned (.bool true) ∧ Below w.heap.size w w' := by
  have hG := fun (W : World) (hb : Below w.heap.size w W) => few06 t p q [] none 0 W (hL.below hb) (.inl rfl) (Nat.le_refl _) (Nat.zero_le _) (fun s h => by cases h)
  rw [hg] at hG
  have hw : t.write = ([], 25) := by unfold Tx.write; rw [if_neg ht]
  have c1 := fun (W : World) (hb : Below w.heap.size w W) => tx_write t p q W (hL.below hb) hsq
  rw [hw] at c1
  clear hL hg ht hw
  have hB := Below.refl w.heap.size w
  have x := Blk.new w 28 #[.int .u64 t.seq, .slice p.a t.plan.targets.length p.c, .slice q.a t.plan.data.length q.c]
  have xk := blk3 x
  have hB_1 := hB.alloc hB.size (.cells #[.int .u64 t.seq, .slice p.a t.plan.targets.length p.c, .slice q.a t.plan.data.length q.c] 28)
  go_enter Try.func5, Try.ntmps5
  go_wp2_with fail
  go_at_call 8
  refine ((hG _ hB_1)).mono ?_
  rintro e w1 ⟨rfl, hb1⟩
  replace hB := bt hB_1 hb1
  replace x := x.below hb1 x.lt
  replace xk := blk3 x
  clear hB_1
  go_wp2_with fail
  go_at_call 10
  refine ((c1 _ hB)).mono ?_
  rintro e w2 ⟨⟨v1, rfl, own1⟩, hb2⟩
  replace hB := bt hB hb2
  replace x := x.below hb2 x.lt
  replace xk := blk3 x
  simp only at own1
  obtain ⟨C1, d1, rfl, _⟩ := own_slice own1
  go_wp2_with fail
  go_at_call 9
  refine ((awake06 _)).mono ?_
  rintro e w6 ⟨rfl, hb6⟩
  replace hB := bt hB hb6
  replace x := x.below hb6 x.lt
  replace xk := blk3 x
  go_wp2_with fail
  go_ret
  exact ⟨rfl, hB⟩

set_option maxRecDepth 100000 in
theorem walk_zero (t : Tx) (p q : Pl) (z : Int) (y : Nat) (w : World) (hL : IsPn w t.plan p q) (hsq : t.seq < 18446744073709551616) (hy : y < 256) (hg : few t [] = true) (ht : t.Ok) (h0 : y = 0) :
    Calls Try.prog 5 #[tval t p q, .int .i64 z, .int .u8 y] w fun e w' => e = .returned (.bool true) ∧ Below w.heap.size w w' := by
  have hG := fun (W : World) (hb : Below w.heap.size w W) => few06 t p q [] none 0 W (hL.below hb) (.inl rfl) (Nat.le_refl _) (Nat.zero_le _) (fun s h => by cases h)
  rw [hg] at hG
  have hw : t.write = (t.rows, 0) := by unfold Tx.write; rw [if_pos ht]
  have hrl := Tx.rows_length ht
  have hr0 : 0 < t.rows.length := by simp [Tx.rows]
  have c1 := fun (W : World) (hb : Below w.heap.size w W) => tx_write t p q W (hL.below hb) hsq
  rw [hw] at c1
  subst h0
  clear hL hg ht hw hrl
  generalize t.rows = R at *
  have hB := Below.refl w.heap.size w
  have x := Blk.new w 28 #[.int .u64 t.seq, .slice p.a t.plan.targets.length p.c, .slice q.a t.plan.data.length q.c]
  have xk := blk3 x
  have hB_1 := hB.alloc hB.size (.cells #[.int .u64 t.seq, .slice p.a t.plan.targets.length p.c, .slice q.a t.plan.data.length q.c] 28)
  go_enter Try.func5, Try.ntmps5
  go_wp2_with fail
  go_at_call 8
  refine ((hG _ hB_1)).mono ?_
  rintro e w1 ⟨rfl, hb1⟩
  replace hB := bt hB_1 hb1
  replace x := x.below hb1 x.lt
  replace xk := blk3 x
  clear hB_1
  go_wp2_with fail
  go_at_call 10
  refine ((c1 _ hB)).mono ?_
  rintro e w2 ⟨⟨v1, rfl, own1⟩, hb2⟩
  replace hB := bt hB hb2
  replace x := x.below hb2 x.lt
  replace xk := blk3 x
  simp only at own1
  obtain ⟨C1, d1, rfl, _⟩ := own_slice own1
  go_wp2_with fail
  go_at_call 9
  refine ((awake06 _)).mono ?_
  rintro e w6 ⟨rfl, hb6⟩
  replace hB := bt hB hb6
  replace x := x.below hb6 x.lt
  replace xk := blk3 x
  go_wp2_with fail
  go_ret
  exact ⟨rfl, hB⟩

set_option maxRecDepth 100000 in
set_option maxHeartbeats 1000000 in
theorem walk_on (t : Tx) (p q : Pl) (z : Int) (y : Nat) (w : World) (hL : IsPn w t.plan p q) (hsq : t.seq < 18446744073709551616) (hy : y < 256) (hg : few t [] = true) (ht : t.Ok) (h0 : y ≠ 0) (k : Nat) (hk : k < 64 * t.rows.length) (hz : (IntKind.u64.wrap z).tmod ((t.rows.length : Int) * 64) = k) :
    Calls Try.prog 5 #[tval t p q, .int .i64 z, .int .u8 y] w fun e w' => e = .returned (.bool true) ∧ Below w.heap.size w w' := by
  have hG := fun (W : World) (hb : Below w.heap.size w W) => few06 t p q [] none 0 W (hL.below hb) (.inl rfl) (Nat.le_refl _) (Nat.zero_le _) (fun s h => by cases h)
  rw [hg] at hG
  have hw : t.write = (t.rows, 0) := by unfold Tx.write; rw [if_pos ht]
  have hrl := Tx.rows_length ht
  have hr27 : t.rows.length ≤ 27 := by have := write_len t; rw [hw] at this; exact this
  have hi : k / 64 < t.rows.length := by omega
  have hj : k % 64 < 64 := by omega
  have hR64 := Tx.rows_64 ht
  obtain ⟨S, hS⟩ : ∃ S, t.rows[k / 64] = S := ⟨_, rfl⟩
  have hS64 : S.length = 64 := by rw [← hS]; exact hR64 _ (List.getElem_mem hi)
  have hjS : k % 64 < S.length := by omega
  have Hcell := hid (show (strCells t.rows)[k / 64]? = some (Value.string (bs S)) by subst hS; simp [strCells, hi])
  have Hn := hid (show (txRead (t.rows.set (k / 64) (S.set (k % 64) (S[k % 64] ^^^ UInt8.ofNat y)))).2 ≠ 0 by
    subst hS
    refine Tx.byte ht hi hj ?_
    rw [List.getElem?_eq_getElem hjS]
    intro e
    refine xor_ne ?_ (Option.some.inj e)
    intro e
    have := congrArg UInt8.toNat e
    rw [UInt8.toNat_ofNat'] at this
    have e0 : (0 : UInt8).toNat = 0 := rfl
    omega)
  have c1 := fun (W : World) (hb : Below w.heap.size w W) => tx_write t p q W (hL.below hb) hsq
  rw [hw] at c1
  have hr0 : 0 < t.rows.length := by simp [Tx.rows]
  have ek : (k : Int).tdiv 64 = ((k / 64 : Nat) : Int) := by rw [Int.tdiv_eq_ediv_of_nonneg (by omega)]; rfl
  have er : (k : Int).tmod 64 = ((k % 64 : Nat) : Int) := by rw [Int.tmod_eq_emod_of_nonneg (by omega)]; rfl
  have wk := i64w (x := (k : Int)) ⟨by omega, by omega⟩
  have wm := i64w (x := (t.rows.length : Int) * 64) ⟨by omega, by omega⟩
  have wu := u64w (x := (t.rows.length : Int) * 64) ⟨by omega, by omega⟩
  have n0 : ((y : Int) == 0) = false := by simp; omega
  have n0' : ¬ (y : Int) = 0 := by omega
  have nr : ((t.rows.length : Int) == 0) = false := by rw [beq_eq_false_iff_ne]; omega
  have nm : ¬ (t.rows.length : Int) * 64 = 0 := by omega
  clear hL hg ht hw hrl
  generalize t.rows = R at *
  have hx : bits .xor .u8 ((S[k % 64]).toNat : Int) (y : Int) = ((S[k % 64] ^^^ UInt8.ofNat y).toNat : Int) := by
    rw [u8_xor_nat _ _ (UInt8.toNat_lt _) hy]
    simp [UInt8.toNat_xor, UInt8.toNat_ofNat', Nat.mod_eq_of_lt hy]
  clear hS
  have hset : ∀ s ∈ R.set (k / 64) (S.set (k % 64) (S[k % 64] ^^^ UInt8.ofNat y)), s.length ≤ maxLen := fun s hs => by
    rcases List.mem_or_eq_of_mem_set hs with h | h
    · rw [hR64 s h]; decide
    · rw [h, List.length_set, hS64]; decide
  obtain ⟨b, hb⟩ : ∃ b, S[k % 64] ^^^ UInt8.ofNat y = b := ⟨_, rfl⟩
  rw [hb] at hx Hn hset
  obtain ⟨S', hS'⟩ : ∃ S', S.set (k % 64) b = S' := ⟨_, rfl⟩
  rw [hS'] at Hn hset
  have hS'l : S'.length = 64 := by rw [← hS', List.length_set, hS64]
  have HS' := hid hS'
  have Hset := hid (show (strCells R).set (k / 64) (Value.string (bs S')) = strCells (R.set (k / 64) S') by simp [strCells, List.map_set])
  have c3 := fun (W : World) (C : Option Addr) (d : Nat) (hC : Cells W C (strCells (R.set (k / 64) S'))) (hd : R.length ≤ d) (hd2 : d ≤ maxLen) => tx_read (R.set (k / 64) S') C d W hC (by rw [List.length_set]; omega) (by rw [List.length_set]; exact hd) hd2 hset
  simp only [List.length_set] at c3
  generalize R.set (k / 64) S' = R' at *
  generalize hY : txRead R' = Y at *
  obtain ⟨Y, ye⟩ := Y
  have Hye := hid (show (ye != 0) = true by simpa using Hn.out)
  have hye := Hye.out
  have hkl : ((k % 64 : Nat) : Int) < 64 := by omega
  have hkl' : ¬ (64 : Int) ≤ ((k % 64 : Nat) : Int) := by omega
  have hil : ((k / 64 : Nat) : Int) < (R.length : Int) := by omega
  clear hb hS' hset hR64 hY Hn
  generalize hI : k / 64 = i at *
  generalize hJ : k % 64 = j at *
  clear hI hJ
  have hB := Below.refl w.heap.size w
  have x := Blk.new w 28 #[.int .u64 t.seq, .slice p.a t.plan.targets.length p.c, .slice q.a t.plan.data.length q.c]
  have xk := blk3 x
  have hB_1 := hB.alloc hB.size (.cells #[.int .u64 t.seq, .slice p.a t.plan.targets.length p.c, .slice q.a t.plan.data.length q.c] 28)
  go_enter Try.func5, Try.ntmps5
  go_wp2_with fail
  go_at_call 8
  refine ((hG _ hB_1)).mono ?_
  rintro e w1 ⟨rfl, hb1⟩
  replace hB := bt hB_1 hb1
  replace x := x.below hb1 x.lt
  replace xk := blk3 x
  clear hB_1
  have hw1l := hB.size
  go_wp2_with fail
  go_at_call 10
  refine ((c1 _ hB)).mono ?_
  rintro e w2 ⟨⟨v1, rfl, own1⟩, hb2⟩
  replace hB := bt hB hb2
  replace x := x.below hb2 x.lt
  replace xk := blk3 x
  simp only at own1
  obtain ⟨C1, cap, rfl, hcap1, hcap2, _⟩ := own_slice own1
  obtain ⟨g, cap', hv, hg1, hg2⟩ := own1.form hr0
  injection hv with hv1 hv2 hv3
  subst hv1
  clear hv3
  have hc1 := own1.cellAt i (by omega)
  rw [Hcell.out] at hc1
  obtain ⟨q1, q2⟩ := bytesWorld_row2 w2 5 S
  have hcap : 64 ≤ grownCap w2 64 0 5 := grownCap_ge _ _ _ _
  have hcv := fun (W : World) => Lib.run_convert_string_bytes (P := Try.prog) W 9 43 5 (bs S) Try.underlying9 Try.underlying43 Try.underlying5
  simp only [bs_size, hS64] at hcv
  have q5 := (Lib.bytesWorld_size w2 5 (bs S))
  obtain ⟨q3, q4⟩ := q2 j hjS
  have q6 := q2.set j b hjS
  rw [HS'.out] at q6
  have own3 := own_later own1 q1
  have own4 := ownsRow_setCell_other own3 (a := ⟨w2.heap.size, j, none⟩) (by simp [Value.ownBlock]; omega) (.int .u8 (b.toNat : Int))
  have hB4 := (bt hB q1).setCell (p := ⟨w2.heap.size, j, none⟩) (by have := hB.size; omega) (.int .u8 (b.toNat : Int))
  have hcb := run_convert_bytes_back (P := Try.prog) ((Lib.bytesWorld w2 5 (bs S)).setCell ⟨w2.heap.size, j, none⟩ (.int .u8 (b.toNat : Int))) 43 9 5 ⟨w2.heap.size, 0, none⟩ (grownCap w2 64 0 5) S' Try.underlying43 Try.underlying5 Try.underlying9 (fun j hj => by
    have := (q6 j (by have := hj; simp at this ⊢; omega)).1
    rw [add_at, Nat.zero_add]
    exact this)
  rw [hS'l] at hcb
  have hc4 := own4.cellAt i (by omega)
  rw [Hcell.out] at hc4
  have hf4 := own4.frozenAt i
  have own5 := (own4.stored i (.string (bs S'))).1
  rw [Hset.out] at own5
  have cc5 := Cells.of_own own5
  have hB5 := hB4.setCell (p := ⟨g, i, none⟩) (Nat.le_trans hw1l hg1) (.string (bs S'))
  have hg3 : ¬ g = w2.heap.size := by omega
  clear q2 q6 q1 own1 own3
  go_wp2_with fail
  go_at_call 12
  refine (c3 _ _ cap cc5 hcap1 hcap2).mono ?_
  rintro e w7 ⟨⟨P2, Q2, rfl, pn2⟩, hb7⟩
  have B7 := bt hB5 hb7
  have B7_1 := B7.alloc B7.size (.cells #[.int .u64 Y.seq, .slice P2.a Y.plan.targets.length P2.c, .slice Q2.a Y.plan.data.length Q2.c] 28)
  go_wp2_with fail
  go_at_call 9
  refine ((awake06 _)).mono ?_
  rintro e w8 ⟨rfl, hb8⟩
  replace B7 := bt B7_1 hb8
  clear B7_1
  go_wp2_with fail
  go_ret
  exact ⟨rfl, B7⟩
theorem walk (w : World) (s : Nat) (L : Pn) (p q : Pl) (h1 : s < 18446744073709551616 ∧ IsPn w L p q) (z : Int) (_ : (Lit.int .i64 z).wf = true) (y : Int) (wy : (Lit.int .u8 y).wf = true) :
    Calls Try.prog 5 #[tval ⟨s, L⟩ p q, .int .i64 z, .int .u8 y] w fun e w' => e = .returned (.bool true) ∧ Below w.heap.size w w' := by
  have hy : 0 ≤ y ∧ y < 256 := by simp [Lit.wf, IntKind.min, IntKind.max, IntKind.bits, IntKind.signed] at wy; omega
  obtain ⟨y, rfl⟩ := Int.eq_ofNat_of_zero_le hy.1
  have hy2 : y < 256 := by omega
  cases hg : few ⟨s, L⟩ [] with
  | false => exact walk_no ⟨s, L⟩ p q z y w h1.2 h1.1 hy2 hg
  | true =>
    by_cases ht : (⟨s, L⟩ : Tx).Ok
    · by_cases h0 : y = 0
      · exact walk_zero ⟨s, L⟩ p q z y w h1.2 h1.1 hy2 hg ht h0
      · have hr0 : 0 < (⟨s, L⟩ : Tx).rows.length := by simp [Tx.rows]
        have hz : ∃ k : Nat, k < 64 * (⟨s, L⟩ : Tx).rows.length ∧ (IntKind.u64.wrap z).tmod (((⟨s, L⟩ : Tx).rows.length : Int) * 64) = k := by
          have : 0 ≤ IntKind.u64.wrap z := by simp [IntKind.wrap, IntKind.bits, IntKind.signed]; omega
          obtain ⟨u, hu⟩ := Int.eq_ofNat_of_zero_le this
          generalize (⟨s, L⟩ : Tx).rows.length = n at *
          refine ⟨u % (64 * n), Nat.mod_lt _ (by omega), ?_⟩
          rw [hu, Int.tmod_eq_emod_of_nonneg (by omega), show ((n : Int) * 64) = ((64 * n : Nat) : Int) by omega]
          rfl
        obtain ⟨k, hk, hz⟩ := hz
        exact walk_on ⟨s, L⟩ p q z y w h1.2 h1.1 hy2 hg ht h0 k hk hz
    · exact walk_bad ⟨s, L⟩ p q z y w h1.2 h1.1 hy2 hg ht
/-! ### The row -/
theorem own : ownKnob Try.prog.godebug = none := by kernel_rfl
set_option maxRecDepth 100000 in
theorem lifted (os : Os) (started : os.Started) (H : Type) (enc : TypeId × Value → H) :
    ReturnsInHanded {} Try.checked os 5 .any (Rows.txnByteSpec.pre6 enc Try.prog Try.f5 Rows.txnByteRow.domain false) (Rows.txnByteSpec.post enc Try.prog Try.f5 false true false false) := by
  refine returnsInHanded_of_change (C := Try.checked) own started (by kernel_rfl) Try.func5
    (ChangeSpec.witness6 (enc := enc) (C := Try.checked) false ⟨#[], #[.agg #[.int .u64 0, .slice none 0 0, .slice none 0 0], .int .i64 0, .int .u8 0], []⟩ 8 (by kernel_rfl) (by kernel_rfl) (by kernel_rfl) (by kernel_rfl)) ?_
  intro W base args ds gs before hval0 hW hcnd _
  have hval : ∀ (j : Nat) t v, Try.f5.params[j]? = some t → args[j]? = some v → Value.okWide Try.prog W .any base t v := hval0
  have hW' := hW
  obtain ⟨p, q, hA0, hV, rfl, hfz, hnd⟩ := hW
  have hA : DataW.TrodAll enc Try.prog W 0 (fun _ => true) true Try.f5.params.toList args.toList ds p := hA0
  have hAk := hA
  rw [Try.params5] at hA hval
  obtain ⟨v0, vs0, d0, ds0, p0, q0, hargs, rfl, rfl, h0, r0⟩ := trodAll_cons hA
  obtain ⟨v1, vs1, d1, ds1, p1, q1, rfl, rfl, rfl, h1, r1⟩ := trodAll_cons r0
  obtain ⟨v2, vs2, d2, ds2, p2, q2, rfl, rfl, rfl, h2, r2⟩ := trodAll_cons r1
  obtain ⟨rfl, rfl, rfl⟩ := trodAll_nil r2
  obtain rfl : args = #[v0, v1, v2] := by cases args; simp_all
  obtain ⟨rfl, rfl⟩ := trodVars_none hV
  obtain ⟨s0, D0, P0, Q0, rfl, w0⟩ := open_txn Try.underlying28 ⟨by kernel_rfl, by kernel_rfl⟩ ⟨by kernel_rfl, by kernel_rfl⟩ (by kernel_rfl) Try.underlying22 Try.underlying26 (by kernel_rfl) Try.underlying23 Try.underlying24 Try.underlying3 (by kernel_rfl) Try.underlying9 (by kernel_rfl) (hval 0 28 v0 rfl rfl) h0
  obtain ⟨a1, rfl, rfl, rfl, w1⟩ := open_int Try.underlying3 (hval 1 3 v1 rfl rfl) h1
  obtain ⟨a2, rfl, rfl, rfl, w2⟩ := open_int Try.underlying5 (hval 2 5 v2 rfl rfl) h2
  clear hA0 hval0
  simp only [List.append_nil] at hW'
  refine (walk W s0 D0 P0 Q0 w0 a1 w1 a2 w2).mono fun e W' ⟨he, hb⟩ => ?_
  subst he
  exact ⟨_, rfl, post_of_below (pa := _) (pv := []) hW' (fun _ _ _ => (trodAll_cons_mk (shut_bool Try.underlying4 _) trodAll_mk0)) (fun sp hsp => trodAll_stays (by kernel_rfl) hb (by kernel_rfl) hAk (fun x hx => hW'.lt x (by simpa using hx)) (fun x hx => hsp x (by simpa using hx))) (fun _ _ => rfl) (by simp) hb (ok_one (by kernel_rfl) rfl (okWide_bool_mk Try.underlying4 _))⟩
theorem over_ : Rows.txnByteRow.holds Try.pinned (OpenSpec.ofChange Rows.txnByteSpec) :=
  OpenClaim.holds_of_wide 5 Try.f5 rfl rfl rfl rfl rfl rfl rfl ⟨rfl, rfl, rfl, rfl, rfl⟩ rfl rfl rfl rfl rfl (by kernel_rfl) Try.func5 (by kernel_rfl)
    (of_decide_eq_true (by kernel_rfl)) (by unfold Func.isWrapper; first | (rw [if_pos (by decide +kernel)]; kernel_rfl) | (rw [if_neg (by decide +kernel)]; exact ⟨rfl, rfl⟩))
    (fun os started H enc _ => lifted os started H enc)
/-- The statement. -/
theorem proved : Rows.TxnByteSaid := over_
#print axioms proved
end Go.Proofs.Ytkiokdphjfkocaa.txnByte
