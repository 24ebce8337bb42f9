/- TxnReads: transactions as sectors, and sectors as transactions, are the document's: any transaction, any few sectors. No condition. -/
import Derived.Test.YtkiokdphjfkocaaLaw06a
import Derived.Test.YtkiokdphjfkocaaTxn8
import Derived.Test.YtkiokdphjfkocaaOpen5
import Derived.Test.YtkiokdphjfkocaaShut
set_option linter.unusedVariables false
namespace Go.Proofs.Ytkiokdphjfkocaa.txnReads
open Go.RowKit Go.Shelf Go.WideShapes Go.ChangeShapes Go.ChangeAt
open Go.ChangeMaps (open_string shut_string)
attribute [local go_sem] bs_mk bs_append bs_extract bs_size bs_toList bs_get
set_option maxRecDepth 100000 in
theorem walk_no (t : Tx) (p q : Pl) (l : List (List UInt8)) (A : Option Addr) (c : Nat) (w : World) (hL : IsPn w t.plan p q) (hA : Cells w A (strCells l)) (hlc : l.length ≤ c) (hcm : c ≤ maxLen) (hs : ∀ s ∈ l, s.length ≤ 281474976710656) (hg : few t l = false) :
    Calls Try.prog 3 #[tval t p q, .slice A l.length c] w fun e w' => e = .returned (.bool true) ∧ Below w.heap.size w w' := by
  have hG := fun (W : World) (hb : Below w.heap.size w W) => few06 t p q l A c W (hL.below hb) (hA.below hb) hlc hcm hs
  rw [hg] at hG
  clear hL hg
  have hB := Below.refl w.heap.size w
  have x := Blk.new w 28 #[.int .u64 t.seq, .slice p.a t.plan.targets.length p.c, .slice q.a t.plan.data.length q.c]
  have xk := blk3 x
  have hB_1 := hB.alloc hB.size (.cells #[.int .u64 t.seq, .slice p.a t.plan.targets.length p.c, .slice q.a t.plan.data.length q.c] 28)
  go_enter Try.func3, Try.ntmps3
  go_wp2_with fail
  go_at_call 8
  refine ((hG _ hB_1)).mono ?_
  rintro e w1 ⟨rfl, hb1⟩
  replace hB := bt hB_1 hb1
  replace x := x.below hb1 x.lt
  replace xk := blk3 x
  clear hB_1
  go_wp2_with fail
  go_at_call 9
  refine ((awake06 _)).mono ?_
  rintro e w2 ⟨rfl, hb2⟩
  replace hB := bt hB hb2
  replace x := x.below hb2 x.lt
  replace xk := blk3 x
  go_wp2_with fail
  go_ret
  exact ⟨rfl, hB⟩
set_option maxRecDepth 100000 in
set_option maxHeartbeats 1000000 in
theorem walk_ok (t : Tx) (p q : Pl) (l : List (List UInt8)) (A : Option Addr) (c : Nat) (w : World) (hL : IsPn w t.plan p q) (hA : Cells w A (strCells l)) (hlc : l.length ≤ c) (hcm : c ≤ maxLen) (hs : ∀ s ∈ l, s.length ≤ 281474976710656) (hn : A = none → c = 0) (hsq : t.seq < 18446744073709551616) (hg : few t l = true) :
    Calls Try.prog 3 #[tval t p q, .slice A l.length c] w fun e w' => e = .returned (.bool true) ∧ Below w.heap.size w w' := by
  have hG := fun (W : World) (hb : Below w.heap.size w W) => few06 t p q l A c W (hL.below hb) (hA.below hb) hlc hcm hs
  rw [hg] at hG
  obtain ⟨f1, f2, f3⟩ := few_iff hg
  have hlt := tot_count l
  have hsm : ∀ s ∈ l, s.length ≤ maxLen := fun s h => by have := hs s h; unfold maxLen; omega
  have h1 := fun (W : World) (hb : Below w.heap.size w W) => tx_write t p q W (hL.below hb) hsq
  have h2 := fun (W : World) (hb : Below w.heap.size w W) => r6_write t p q W (hL.below hb) hsq
  have h3 := fun (W : World) (hb : Below w.heap.size w W) => tx_read l A c W (hA.below hb) (by omega) hlc hcm hsm
  have h4 := fun (W : World) (hb : Below w.heap.size w W) => r6_read l A c W (hA.below hb) (by omega) hsm
  have hwl := write_len t
  obtain ⟨hr1, hr2⟩ := read_len l
  clear hL hA hg hsm
  generalize t.write = X at *
  generalize txRead l = Y at *
  obtain ⟨X, xe⟩ := X
  obtain ⟨Y, ye⟩ := Y
  simp only at hwl hr1 hr2 h1 h2 h3 h4
  have h5 := fun (W : World) (A B : Option Addr) (c d : Nat) (hA : Cells W A (strCells X)) (hB : Cells W B (strCells X)) => rows06 X A B c d W hA hB (by omega)
  have h6 := fun (W : World) (a b a' b' : Pl) (hA : IsPn W Y.plan a b) (hB : IsPn W Y.plan a' b') => r6_same Y Y a b a' b' W hA hB (by omega) (by omega) (by omega) (by omega)
  rw [Tx.same_self] at h6
  have hB := Below.refl w.heap.size w
  have x := Blk.new w 28 #[.int .u64 t.seq, .slice p.a t.plan.targets.length p.c, .slice q.a t.plan.data.length q.c]
  have xk := blk3 x
  have hB_1 := hB.alloc hB.size (.cells #[.int .u64 t.seq, .slice p.a t.plan.targets.length p.c, .slice q.a t.plan.data.length q.c] 28)
  go_enter Try.func3, Try.ntmps3
  go_wp2_with fail
  go_at_call 8
  refine ((hG _ hB_1)).mono ?_
  rintro e w1 ⟨rfl, hb1⟩
  replace hB := bt hB_1 hb1
  replace x := x.below hb1 x.lt
  replace xk := blk3 x
  clear hB_1
  go_wp2_with fail
  go_at_call 10
  refine ((h1 _ hB)).mono ?_
  rintro e w2 ⟨⟨v1, rfl, own1⟩, hb2⟩
  replace hB := bt hB hb2
  replace x := x.below hb2 x.lt
  replace xk := blk3 x
  obtain ⟨C1, c1, rfl, _⟩ := own_slice own1
  have cc1 := Cells.of_own own1
  go_wp2_with fail
  go_at_call 11
  refine ((h2 _ hB)).mono ?_
  rintro e w3 ⟨⟨v2, rfl, own2⟩, hb3⟩
  replace hB := bt hB hb3
  replace x := x.below hb3 x.lt
  replace xk := blk3 x
  replace cc1 := cc1.below hb3
  obtain ⟨C2, c2, rfl, _⟩ := own_slice own2
  have cc2 := Cells.of_own own2
  simp only
  go_wp2_with fail
  go_at_call 12
  refine ((h3 _ hB)).mono ?_
  rintro e w4 ⟨⟨P1, Q1, rfl, pn1⟩, hb4⟩
  replace hB := bt hB hb4
  replace x := x.below hb4 x.lt
  replace xk := blk3 x
  replace cc1 := cc1.below hb4
  replace cc2 := cc2.below hb4
  have y := Blk.new w4 28 #[.int .u64 Y.seq, .slice P1.a Y.plan.targets.length P1.c, .slice Q1.a Y.plan.data.length Q1.c]
  have yk := blk3 y
  have hB_2 := hB.alloc hB.size (.cells #[.int .u64 Y.seq, .slice P1.a Y.plan.targets.length P1.c, .slice Q1.a Y.plan.data.length Q1.c] 28)
  have x_3 := x.alloc (.cells #[.int .u64 Y.seq, .slice P1.a Y.plan.targets.length P1.c, .slice Q1.a Y.plan.data.length Q1.c] 28)
  have xk_3 := blk3 x_3
  have cc1_4 := cc1.below ((Below.refl _ _).alloc (Nat.le_refl _) (.cells #[.int .u64 Y.seq, .slice P1.a Y.plan.targets.length P1.c, .slice Q1.a Y.plan.data.length Q1.c] 28))
  have cc2_5 := cc2.below ((Below.refl _ _).alloc (Nat.le_refl _) (.cells #[.int .u64 Y.seq, .slice P1.a Y.plan.targets.length P1.c, .slice Q1.a Y.plan.data.length Q1.c] 28))
  have pn1_6 := pn1.below ((Below.refl _ _).alloc (Nat.le_refl _) (.cells #[.int .u64 Y.seq, .slice P1.a Y.plan.targets.length P1.c, .slice Q1.a Y.plan.data.length Q1.c] 28))
  go_wp2_with fail
  go_at_call 13
  refine ((h4 _ hB_2)).mono ?_
  rintro e w5 ⟨⟨P2, Q2, rfl, pn2⟩, hb5⟩
  replace hB := bt hB_2 hb5
  replace x := x_3.below hb5 x_3.lt
  replace xk := blk3 x
  replace cc1 := cc1_4.below hb5
  replace cc2 := cc2_5.below hb5
  replace pn1 := pn1_6.below hb5
  replace y := y.below hb5 y.lt
  replace yk := blk3 y
  clear hB_2 xk_3 x_3 cc1_4 cc2_5 pn1_6
  have z := Blk.new w5 28 #[.int .u64 Y.seq, .slice P2.a Y.plan.targets.length P2.c, .slice Q2.a Y.plan.data.length Q2.c]
  have zk := blk3 z
  have hB_7 := hB.alloc hB.size (.cells #[.int .u64 Y.seq, .slice P2.a Y.plan.targets.length P2.c, .slice Q2.a Y.plan.data.length Q2.c] 28)
  have x_8 := x.alloc (.cells #[.int .u64 Y.seq, .slice P2.a Y.plan.targets.length P2.c, .slice Q2.a Y.plan.data.length Q2.c] 28)
  have xk_8 := blk3 x_8
  have cc1_9 := cc1.below ((Below.refl _ _).alloc (Nat.le_refl _) (.cells #[.int .u64 Y.seq, .slice P2.a Y.plan.targets.length P2.c, .slice Q2.a Y.plan.data.length Q2.c] 28))
  have cc2_10 := cc2.below ((Below.refl _ _).alloc (Nat.le_refl _) (.cells #[.int .u64 Y.seq, .slice P2.a Y.plan.targets.length P2.c, .slice Q2.a Y.plan.data.length Q2.c] 28))
  have pn1_11 := pn1.below ((Below.refl _ _).alloc (Nat.le_refl _) (.cells #[.int .u64 Y.seq, .slice P2.a Y.plan.targets.length P2.c, .slice Q2.a Y.plan.data.length Q2.c] 28))
  have y_12 := y.alloc (.cells #[.int .u64 Y.seq, .slice P2.a Y.plan.targets.length P2.c, .slice Q2.a Y.plan.data.length Q2.c] 28)
  have yk_12 := blk3 y_12
  have pn2_13 := pn2.below ((Below.refl _ _).alloc (Nat.le_refl _) (.cells #[.int .u64 Y.seq, .slice P2.a Y.plan.targets.length P2.c, .slice Q2.a Y.plan.data.length Q2.c] 28))
  go_wp2_with fail
  go_at_call 14
  refine ((h5 _ C1 C2 c1 c2 cc1_9 cc2_10)).mono ?_
  rintro e w6 ⟨rfl, hb6⟩
  replace hB := bt hB_7 hb6
  replace x := x_8.below hb6 x_8.lt
  replace xk := blk3 x
  replace cc1 := cc1_9.below hb6
  replace cc2 := cc2_10.below hb6
  replace pn1 := pn1_11.below hb6
  replace y := y_12.below hb6 y_12.lt
  replace yk := blk3 y
  replace pn2 := pn2_13.below hb6
  replace z := z.below hb6 z.lt
  replace zk := blk3 z
  clear hB_7 xk_8 x_8 cc1_9 cc2_10 pn1_11 yk_12 y_12 pn2_13
  go_wp2_with fail
  go_at_call 15
  refine ((h6 _ P1 Q1 P2 Q2 pn1 pn2)).mono ?_
  rintro e w7 ⟨rfl, hb7⟩
  replace hB := bt hB hb7
  replace x := x.below hb7 x.lt
  replace xk := blk3 x
  replace cc1 := cc1.below hb7
  replace cc2 := cc2.below hb7
  replace pn1 := pn1.below hb7
  replace y := y.below hb7 y.lt
  replace yk := blk3 y
  replace pn2 := pn2.below hb7
  replace z := z.below hb7 z.lt
  replace zk := blk3 z
  go_wp2_with fail
  go_at_call 9
  refine ((awake06 _)).mono ?_
  rintro e w8 ⟨rfl, hb8⟩
  replace hB := bt hB hb8
  replace x := x.below hb8 x.lt
  replace xk := blk3 x
  replace cc1 := cc1.below hb8
  replace cc2 := cc2.below hb8
  replace pn1 := pn1.below hb8
  replace y := y.below hb8 y.lt
  replace yk := blk3 y
  replace pn2 := pn2.below hb8
  replace z := z.below hb8 z.lt
  replace zk := blk3 z
  go_wp2_with fail
  go_ret
  exact ⟨rfl, hB⟩
theorem walk (w : World) (z : Nat) (L : Pn) (p q : Pl) (h1 : z < 18446744073709551616 ∧ IsPn w L p q) (A : Option Addr) (c : Nat) (l : List (List UInt8)) (h2 : (Cells w A (strCells l) ∧ (A = none → c = 0) ∧ l.length ≤ c ∧ c ≤ maxLen ∧ ∀ x ∈ l, x.length ≤ reachBytes) ∧ l.length * Try.prog.bytesOf 9 ≤ reachBytes) :
    Calls Try.prog 3 #[tval ⟨z, L⟩ p q, .slice A l.length c] w fun e w' => e = .returned (.bool true) ∧ Below w.heap.size w w' := by
  obtain ⟨⟨hA, hn, hlc, hcm, hs⟩, _⟩ := h2
  unfold reachBytes at hs
  have hs : ∀ s ∈ l, s.length ≤ 281474976710656 := fun s h => by have := hs s h; omega
  cases hg : few ⟨z, L⟩ l with
  | false => exact walk_no ⟨z, L⟩ p q l A c w h1.2 hA hlc hcm hs hg
  | true => exact walk_ok ⟨z, L⟩ p q l A c w h1.2 hA hlc hcm hs hn h1.1 hg
/-! ### The row -/
theorem own : ownKnob Try.prog.godebug = none := by kernel_rfl
set_option maxRecDepth 100000 in
theorem lifted (os : Os) (started : os.Started) (H : Type) (enc : TypeId × Value → H) :
    ReturnsInHanded {} Try.checked os 3 .any (Rows.txnReadsSpec.pre6 enc Try.prog Try.f3 Rows.txnReadsRow.domain false) (Rows.txnReadsSpec.post enc Try.prog Try.f3 false true false false) := by
  refine returnsInHanded_of_change_sized (C := Try.checked) own started (by kernel_rfl) Try.func3
    (ChangeSpec.witness6 (enc := enc) (C := Try.checked) false ⟨#[], #[.agg #[.int .u64 0, .slice none 0 0, .slice none 0 0], .slice none 0 0], []⟩ 8 (by kernel_rfl) (by kernel_rfl) (by kernel_rfl) (by kernel_rfl)) ?_
  intro W base args ds gs before hval0 hW hcnd hsz0 _
  have hval : ∀ (j : Nat) t v, Try.f3.params[j]? = some t → args[j]? = some v → Value.okWide Try.prog W .any base t v := hval0
  have hW' := hW
  obtain ⟨p, q, hA0, hV, rfl, hfz, hnd⟩ := hW
  have hA : DataW.TrodAll enc Try.prog W 0 (fun _ => true) true Try.f3.params.toList args.toList ds p := hA0
  have hAk := hA
  have hsz : (DataW.weightsEach Try.prog (Try.f3.params.toList ++ Rows.txnReadsSpec.plain.varTypes Try.prog) (ds ++ gs)).all (· ≤ reachBytes) = true := hsz0
  rw [Try.params3] at hA hval hsz
  obtain ⟨v0, vs0, d0, ds0, p0, q0, hargs, rfl, rfl, h0, r0⟩ := trodAll_cons hA
  obtain ⟨v1, vs1, d1, ds1, p1, q1, rfl, rfl, rfl, h1, r1⟩ := trodAll_cons r0
  obtain ⟨rfl, rfl, rfl⟩ := trodAll_nil r1
  obtain rfl : args = #[v0, v1] := by cases args; simp_all
  obtain ⟨rfl, rfl⟩ := trodVars_none hV
  obtain ⟨s0, D0, P0, Q0, rfl, w0⟩ := open_txn Try.underlying28 ⟨by kernel_rfl, by kernel_rfl⟩ ⟨by kernel_rfl, by kernel_rfl⟩ (by kernel_rfl) Try.underlying22 Try.underlying26 (by kernel_rfl) Try.underlying23 Try.underlying24 Try.underlying3 (by kernel_rfl) Try.underlying9 (by kernel_rfl) (hval 0 28 v0 rfl rfl) h0
  obtain ⟨A1, n1, c1, rfl⟩ := okWide_slice Try.underlying24 (hval 1 24 v1 rfl rfl)
  obtain ⟨_, h1'⟩ := h1
  obtain ⟨B1, e1, l1, hB1, w1⟩ := open_strs_sized Try.underlying24 Try.underlying9 (by kernel_rfl) h1' (weights_each hsz (j := 1) rfl rfl)
  rw [hB1] at hW' hAk ⊢
  clear hA0 hval0
  simp only [List.append_nil] at hW'
  refine (walk W s0 D0 P0 Q0 w0 B1 e1 l1 w1).mono fun e W' ⟨he, hb⟩ => ?_
  subst he
  exact ⟨_, rfl, post_of_below (pa := _) (pv := []) hW' (fun _ _ _ => (trodAll_cons_mk (shut_bool Try.underlying4 _) trodAll_mk0)) (fun sp hsp => trodAll_stays (by kernel_rfl) hb (by kernel_rfl) hAk (fun x hx => hW'.lt x (by simpa using hx)) (fun x hx => hsp x (by simpa using hx))) (fun _ _ => rfl) (by simp) hb (ok_one (by kernel_rfl) rfl (okWide_bool_mk Try.underlying4 _))⟩
theorem over_ : Rows.txnReadsRow.holds Try.pinned (OpenSpec.ofChange Rows.txnReadsSpec) :=
  OpenClaim.holds_of_wide 3 Try.f3 rfl rfl rfl rfl rfl rfl rfl ⟨rfl, rfl, rfl, rfl, rfl⟩ rfl rfl rfl rfl rfl (by kernel_rfl) Try.func3 (by kernel_rfl)
    (of_decide_eq_true (by kernel_rfl)) (by unfold Func.isWrapper; first | (rw [if_pos (by decide +kernel)]; kernel_rfl) | (rw [if_neg (by decide +kernel)]; exact ⟨rfl, rfl⟩))
    (fun os started H enc _ => lifted os started H enc)
/-- The statement. -/
theorem proved : Rows.TxnReadsSaid := over_
#print axioms proved
end Go.Proofs.Ytkiokdphjfkocaa.txnReads
