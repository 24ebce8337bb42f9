/- TxnBack: a transaction written and read, with any sectors behind, is the same; what is read is written as it stood: any transaction, any few sectors. No condition. -/
import Derived.Test.YtkiokdphjfkocaaLaw06a
import Derived.Test.YtkiokdphjfkocaaTxn7
import Derived.Test.YtkiokdphjfkocaaOpen5
import Derived.Test.YtkiokdphjfkocaaShut
set_option linter.unusedVariables false
namespace Go.Proofs.Ytkiokdphjfkocaa.txnBack
open Go.RowKit Go.Shelf Go.WideShapes Go.ChangeShapes Go.ChangeAt
open Go.ChangeMaps (open_string shut_string)
attribute [local go_sem] bs_mk bs_append bs_extract bs_size bs_toList bs_get
set_option maxRecDepth 100000 in
theorem walk_no (t : Tx) (p q : Pl) (l : List (List UInt8)) (A : Option Addr) (c : Nat) (w : World) (hL : IsPn w t.plan p q) (hA : Cells w A (strCells l)) (hlc : l.length ≤ c) (hcm : c ≤ maxLen) (hs : ∀ s ∈ l, s.length ≤ 281474976710656) (hg : few t l = false) :
    Calls Try.prog 4 #[tval t p q, .slice A l.length c] w fun e w' => e = .returned (.bool true) ∧ Below w.heap.size w w' := by
  have hG := fun (W : World) (hb : Below w.heap.size w W) => few06 t p q l A c W (hL.below hb) (hA.below hb) hlc hcm hs
  rw [hg] at hG
  clear hL hg
  have hB := Below.refl w.heap.size w
  have x := Blk.new w 28 #[.int .u64 t.seq, .slice p.a t.plan.targets.length p.c, .slice q.a t.plan.data.length q.c]
  have xk := blk3 x
  have hB_1 := hB.alloc hB.size (.cells #[.int .u64 t.seq, .slice p.a t.plan.targets.length p.c, .slice q.a t.plan.data.length q.c] 28)
  go_enter Try.func4, Try.ntmps4
  go_wp2_with fail
  go_at_call 8
  refine ((hG _ hB_1)).mono ?_
  rintro e w1 ⟨rfl, hb1⟩
  replace hB := bt hB_1 hb1
  replace x := x.below hb1 x.lt
  replace xk := blk3 x
  clear hB_1
  go_wp2_with fail
  go_at_call 9
  refine ((awake06 _)).mono ?_
  rintro e w2 ⟨rfl, hb2⟩
  replace hB := bt hB hb2
  replace x := x.below hb2 x.lt
  replace xk := blk3 x
  go_wp2_with fail
  go_ret
  exact ⟨rfl, hB⟩
set_option maxRecDepth 100000 in
set_option maxHeartbeats 1000000 in
theorem walk_yy (t : Tx) (p q : Pl) (l : List (List UInt8)) (A : Option Addr) (c : Nat) (w : World) (hL : IsPn w t.plan p q) (hA : Cells w A (strCells l)) (hlc : l.length ≤ c) (hcm : c ≤ maxLen) (hs : ∀ s ∈ l, s.length ≤ 281474976710656) (hn : A = none → c = 0) (hsq : t.seq < 18446744073709551616) (hg : few t l = true) (he : (txRead l).2 = 0) (ht : t.Ok) :
    Calls Try.prog 4 #[tval t p q, .slice A l.length c] w fun e w' => e = .returned (.bool true) ∧ Below w.heap.size w w' := by
  have hG := fun (W : World) (hb : Below w.heap.size w W) => few06 t p q l A c W (hL.below hb) (hA.below hb) hlc hcm hs
  rw [hg] at hG
  obtain ⟨f1, f2, f3⟩ := few_iff hg
  have hlt := tot_count l
  have hsm : ∀ s ∈ l, s.length ≤ maxLen := fun s h => by have := hs s h; unfold maxLen; omega
  have c1 := fun (W : World) (hb : Below w.heap.size w W) => tx_write t p q W (hL.below hb) hsq
  have c2 := fun (W : World) (hb : Below w.heap.size w W) => tx_read l A c W (hA.below hb) (by omega) hlc hcm hsm
  have hw : t.write = (t.rows, 0) := by unfold Tx.write; rw [if_pos ht]
  have hrl := Tx.rows_length ht
  have hrs := Tx.rows_64 ht
  have htl : txSize t.plan.targets.length ≤ 27 := by have := ht.1.2.1; unfold txSize; split <;> omega
  have hback := Tx.read_rows ht hsq l
  rw [hw] at c1
  have HM := hid (hA.take (txSize (hcount (l.headD []))))
  have m1 := (read_ok he).2.2.1
  have m2 := (read_ok he).2.2.2.2.2.2.2
  have hMt : (strCells l).take (txSize (hcount (l.headD []))) = strCells (l.take (txSize (hcount (l.headD [])))) := by simp [strCells]
  have hMl : (l.take (txSize (hcount (l.headD [])))).length ≤ l.length := by rw [List.length_take]; omega
  have hA' := hA.take (txSize (hcount (l.headD [])))
  rw [hMt] at hA'
  have c3 := fun (W : World) (a b : Pl) (hP : IsPn W (txRead l).1.plan a b) => tx_write (txRead l).1 a b W hP (read_seq l)
  rw [m2] at c3
  have c4 := fun (W : World) (hb : Below w.heap.size w W) (C : Option Addr) (d : Nat) (hC : Cells W C (strCells (l.take (txSize (hcount (l.headD [])))))) => rows06 (l.take (txSize (hcount (l.headD [])))) C A d c W hC (hA'.below hb) (by omega)
  generalize l.take (txSize (hcount (l.headD []))) = M at *
  have hMc : M.length ≤ c := by omega
  have gM : ¬ l.length < M.length := by omega
  clear m1 m2 hMt HM
  generalize hY : txRead l = Y at *
  obtain ⟨Y, ye⟩ := Y
  simp only at he c3
  subst he
  have c6 := fun W => tx_size t.plan.targets.length (by unfold okI; omega) W
  rw [txSizeI_nat, ← hrl] at c6
  have c5 := fun (W : World) (C : Option Addr) (d : Nat) (hC : Cells W C (strCells (t.rows ++ l))) (hd : (t.rows ++ l).length ≤ d) (hd2 : d ≤ maxLen) => tx_read (t.rows ++ l) C d W hC (by rw [List.length_append]; omega) hd hd2 (fun s h => by
    rcases List.mem_append.1 h with h | h
    · rw [hrs s h]; decide
    · exact hsm s h)
  rw [hback] at c5
  have c7 := fun (W : World) (hb : Below w.heap.size w W) (a b : Pl) (hP : IsPn W t.plan a b) => r6_same t t a b p q W hP (hL.below hb) (by omega) (by omega) (by omega) (by omega)
  rw [Tx.same_self] at c7
  have HR := hid (show strCells t.rows ++ strCells l = strCells (t.rows ++ l) by simp [strCells])
  have HRl : t.rows.length + l.length = (t.rows ++ l).length := by rw [List.length_append]
  have HAl := hid (fun (W : World) (hb : Below w.heap.size w W) => hA.below hb)
  have Hnil := hid hn
  obtain ⟨i0, hi, iz0, iz1, iz2⟩ := info_parts Try.infoStrP
  have hrl27 : t.rows.length ≤ 27 := by omega
  clear hback hrs hrl
  generalize t.rows = R at *
  generalize hRl : R ++ l = RL at *
  clear hRl
  clear hL hA hg hsm hY
  have hB := Below.refl w.heap.size w
  have x := Blk.new w 28 #[.int .u64 t.seq, .slice p.a t.plan.targets.length p.c, .slice q.a t.plan.data.length q.c]
  have xk := blk3 x
  have hB_1 := hB.alloc hB.size (.cells #[.int .u64 t.seq, .slice p.a t.plan.targets.length p.c, .slice q.a t.plan.data.length q.c] 28)
  go_enter Try.func4, Try.ntmps4
  go_wp2_with fail
  go_at_call 8
  refine ((hG _ hB_1)).mono ?_
  rintro e w1 ⟨rfl, hb1⟩
  replace hB := bt hB_1 hb1
  replace x := x.below hb1 x.lt
  replace xk := blk3 x
  clear hB_1
  go_wp2_with fail
  go_at_call 12
  refine ((c2 _ hB)).mono ?_
  rintro e w2 ⟨⟨P1, Q1, rfl, pn1⟩, hb2⟩
  replace hB := bt hB hb2
  replace x := x.below hb2 x.lt
  replace xk := blk3 x
  simp only at pn1
  dsimp only
  have y := Blk.new w2 28 #[.int .u64 Y.seq, .slice P1.a Y.plan.targets.length P1.c, .slice Q1.a Y.plan.data.length Q1.c]
  have yk := blk3 y
  have hB_2 := hB.alloc hB.size (.cells #[.int .u64 Y.seq, .slice P1.a Y.plan.targets.length P1.c, .slice Q1.a Y.plan.data.length Q1.c] 28)
  have x_3 := x.alloc (.cells #[.int .u64 Y.seq, .slice P1.a Y.plan.targets.length P1.c, .slice Q1.a Y.plan.data.length Q1.c] 28)
  have xk_3 := blk3 x_3
  have pn1_4 := pn1.below ((Below.refl _ _).alloc (Nat.le_refl _) (.cells #[.int .u64 Y.seq, .slice P1.a Y.plan.targets.length P1.c, .slice Q1.a Y.plan.data.length Q1.c] 28))
  go_wp2_with fail
  go_at_call 10
  refine ((c3 _ P1 Q1 pn1_4)).mono ?_
  rintro e w3 ⟨⟨v1, rfl, own1⟩, hb3⟩
  replace hB := bt hB_2 hb3
  replace x := x_3.below hb3 x_3.lt
  replace xk := blk3 x
  replace pn1 := pn1_4.below hb3
  replace y := y.below hb3 y.lt
  replace yk := blk3 y
  clear hB_2 xk_3 x_3 pn1_4
  simp only at own1
  obtain ⟨C1, d1, rfl, _⟩ := own_slice own1
  have cc1 := Cells.of_own own1
  go_wp2_with fail
  go_at_call 14
  refine ((c4 _ hB C1 d1 cc1)).mono ?_
  rintro e w4 ⟨rfl, hb4⟩
  replace hB := bt hB hb4
  replace x := x.below hb4 x.lt
  replace xk := blk3 x
  replace pn1 := pn1.below hb4
  replace y := y.below hb4 y.lt
  replace yk := blk3 y
  go_wp2_with fail
  go_at_call 10
  refine ((c1 _ hB)).mono ?_
  rintro e w5 ⟨⟨v2, rfl, own2⟩, hb5⟩
  replace hB := bt hB hb5
  replace x := x.below hb5 x.lt
  replace xk := blk3 x
  replace pn1 := pn1.below hb5
  replace y := y.below hb5 y.lt
  replace yk := blk3 y
  simp only at own2
  obtain ⟨C2, d2, rfl, _, _, nil2⟩ := own_slice own2
  have cc2 := Cells.of_own own2
  have o6 := World.ownsRow_made (base := w5.heap.size) (e := 9) (size := 1) w5 #[] 0 (Nat.le_refl _) (Nat.zero_le _) rfl
  have hx5 : w.heap.size < w5.heap.size := x.lt
  have hB_5 := hB.alloc hB.size (.cells #[] 9)
  have x_6 := x.alloc (.cells #[] 9)
  have xk_6 := blk3 x_6
  have pn1_7 := pn1.below ((Below.refl _ _).alloc (Nat.le_refl _) (.cells #[] 9))
  have y_8 := y.alloc (.cells #[] 9)
  have yk_8 := blk3 y_8
  have cc2_9 := cc2.below ((Below.refl _ _).alloc (Nat.le_refl _) (.cells #[] 9))
  have B5 := hB_5
  have X5 := x_6
  go_wp2_with (first | (at_builtin; refine wpList_app rfl (.tmp 62) (.tmp 63) 24 rfl w5.heap.size 9 i0 (.string ⟨#[]⟩) 1 16 Try.underlying24 hi iz0 iz1 iz2 rfl (by decide) _ 0 [] rfl o6 C2 R.length d2 (strCells R) rfl cc2_9 (by rw [strCells_length, Nat.mul_one]) nil2 (one_strs _) (by unfold maxLen; omega) (by omega) (by simp) ?_; intro v3 w7 o7 hb7; rw [Nat.zero_add, List.nil_append] at o7) | (at_builtin; refine wpList_app rfl (.tmp 64) (.tmp 65) 24 rfl w5.heap.size 9 i0 (.string ⟨#[]⟩) 1 16 Try.underlying24 hi iz0 iz1 iz2 rfl (by decide) v3 R.length (strCells R) rfl o7 A l.length c (strCells l) rfl (HAl.out _ (B5.trans (hb7.mono (Nat.le_of_lt hx5)))) (by rw [strCells_length, Nat.mul_one]) Hnil.out (one_strs _) (by unfold maxLen; omega) (by omega) (Nat.le_trans (by simp) hb7.size) ?_; intro v4 w8 o8 hb8; rw [HR.out, HRl] at o8))
  obtain ⟨C4, d4, rfl, hd4, hd4m, _⟩ := own_slice o8
  have cc4 := Cells.of_own o8
  have B8 := B5.trans ((hb7.trans hb8).mono (Nat.le_of_lt hx5))
  have x8 := X5.below (hb7.trans hb8) hx5
  go_at_call 12
  refine (c5 _ C4 d4 cc4 hd4 hd4m).mono ?_
  rintro e w9 ⟨⟨P2, Q2, rfl, pn2⟩, hb9⟩
  have B9 := bt B8 hb9
  have x9 := x8.below hb9 x8.lt
  have x9k := blk3 x9
  have z := Blk.new w9 28 #[.int .u64 t.seq, .slice P2.a t.plan.targets.length P2.c, .slice Q2.a t.plan.data.length Q2.c]
  have zk := blk3 z
  have B9_1 := B9.alloc B9.size (.cells #[.int .u64 t.seq, .slice P2.a t.plan.targets.length P2.c, .slice Q2.a t.plan.data.length Q2.c] 28)
  have x9_2 := x9.alloc (.cells #[.int .u64 t.seq, .slice P2.a t.plan.targets.length P2.c, .slice Q2.a t.plan.data.length Q2.c] 28)
  have x9k_2 := blk3 x9_2
  have pn2_3 := pn2.below ((Below.refl _ _).alloc (Nat.le_refl _) (.cells #[.int .u64 t.seq, .slice P2.a t.plan.targets.length P2.c, .slice Q2.a t.plan.data.length Q2.c] 28))
  go_wp2_with fail
  go_at_call 15
  refine ((c7 _ B9_1 P2 Q2 pn2_3)).mono ?_
  rintro e w10 ⟨rfl, hb10⟩
  replace B9 := bt B9_1 hb10
  replace x9 := x9_2.below hb10 x9_2.lt
  replace x9k := blk3 x9
  replace pn2 := pn2_3.below hb10
  replace z := z.below hb10 z.lt
  replace zk := blk3 z
  clear B9_1 x9k_2 x9_2 pn2_3
  go_wp2_with fail
  go_at_call 16
  refine ((c6 _)).mono ?_
  rintro e w11 ⟨rfl, hb11⟩
  replace B9 := bt B9 hb11
  replace x9 := x9.below hb11 x9.lt
  replace x9k := blk3 x9
  replace pn2 := pn2.below hb11
  replace z := z.below hb11 z.lt
  replace zk := blk3 z
  go_wp2_with fail
  go_at_call 9
  refine ((awake06 _)).mono ?_
  rintro e w12 ⟨rfl, hb12⟩
  replace B9 := bt B9 hb12
  replace x9 := x9.below hb12 x9.lt
  replace x9k := blk3 x9
  replace pn2 := pn2.below hb12
  replace z := z.below hb12 z.lt
  replace zk := blk3 z
  go_wp2_with fail
  go_ret
  exact ⟨rfl, B9⟩
set_option maxRecDepth 100000 in
set_option maxHeartbeats 1000000 in
theorem walk_yn (t : Tx) (p q : Pl) (l : List (List UInt8)) (A : Option Addr) (c : Nat) (w : World) (hL : IsPn w t.plan p q) (hA : Cells w A (strCells l)) (hlc : l.length ≤ c) (hcm : c ≤ maxLen) (hs : ∀ s ∈ l, s.length ≤ 281474976710656) (hn : A = none → c = 0) (hsq : t.seq < 18446744073709551616) (hg : few t l = true) (he : (txRead l).2 = 0) (ht : ¬ t.Ok) :
    Calls Try.prog 4 #[tval t p q, .slice A l.length c] w fun e w' => e = .returned (.bool true) ∧ Below w.heap.size w w' := by
  have hG := fun (W : World) (hb : Below w.heap.size w W) => few06 t p q l A c W (hL.below hb) (hA.below hb) hlc hcm hs
  rw [hg] at hG
  obtain ⟨f1, f2, f3⟩ := few_iff hg
  have hlt := tot_count l
  have hsm : ∀ s ∈ l, s.length ≤ maxLen := fun s h => by have := hs s h; unfold maxLen; omega
  have c1 := fun (W : World) (hb : Below w.heap.size w W) => tx_write t p q W (hL.below hb) hsq
  have c2 := fun (W : World) (hb : Below w.heap.size w W) => tx_read l A c W (hA.below hb) (by omega) hlc hcm hsm
  have hw : t.write = ([], 25) := by unfold Tx.write; rw [if_neg ht]
  rw [hw] at c1
  have HM := hid (hA.take (txSize (hcount (l.headD []))))
  have m1 := (read_ok he).2.2.1
  have m2 := (read_ok he).2.2.2.2.2.2.2
  have hMt : (strCells l).take (txSize (hcount (l.headD []))) = strCells (l.take (txSize (hcount (l.headD [])))) := by simp [strCells]
  have hMl : (l.take (txSize (hcount (l.headD [])))).length ≤ l.length := by rw [List.length_take]; omega
  have hA' := hA.take (txSize (hcount (l.headD [])))
  rw [hMt] at hA'
  have c3 := fun (W : World) (a b : Pl) (hP : IsPn W (txRead l).1.plan a b) => tx_write (txRead l).1 a b W hP (read_seq l)
  rw [m2] at c3
  have c4 := fun (W : World) (hb : Below w.heap.size w W) (C : Option Addr) (d : Nat) (hC : Cells W C (strCells (l.take (txSize (hcount (l.headD [])))))) => rows06 (l.take (txSize (hcount (l.headD [])))) C A d c W hC (hA'.below hb) (by omega)
  generalize l.take (txSize (hcount (l.headD []))) = M at *
  have hMc : M.length ≤ c := by omega
  have gM : ¬ l.length < M.length := by omega
  clear m1 m2 hMt HM
  generalize hY : txRead l = Y at *
  obtain ⟨Y, ye⟩ := Y
  simp only at he c3
  subst he
  clear hL hA hg hsm hY
  have hB := Below.refl w.heap.size w
  have x := Blk.new w 28 #[.int .u64 t.seq, .slice p.a t.plan.targets.length p.c, .slice q.a t.plan.data.length q.c]
  have xk := blk3 x
  have hB_1 := hB.alloc hB.size (.cells #[.int .u64 t.seq, .slice p.a t.plan.targets.length p.c, .slice q.a t.plan.data.length q.c] 28)
  go_enter Try.func4, Try.ntmps4
  go_wp2_with fail
  go_at_call 8
  refine ((hG _ hB_1)).mono ?_
  rintro e w1 ⟨rfl, hb1⟩
  replace hB := bt hB_1 hb1
  replace x := x.below hb1 x.lt
  replace xk := blk3 x
  clear hB_1
  go_wp2_with fail
  go_at_call 12
  refine ((c2 _ hB)).mono ?_
  rintro e w2 ⟨⟨P1, Q1, rfl, pn1⟩, hb2⟩
  replace hB := bt hB hb2
  replace x := x.below hb2 x.lt
  replace xk := blk3 x
  simp only at pn1
  dsimp only
  have y := Blk.new w2 28 #[.int .u64 Y.seq, .slice P1.a Y.plan.targets.length P1.c, .slice Q1.a Y.plan.data.length Q1.c]
  have yk := blk3 y
  have hB_2 := hB.alloc hB.size (.cells #[.int .u64 Y.seq, .slice P1.a Y.plan.targets.length P1.c, .slice Q1.a Y.plan.data.length Q1.c] 28)
  have x_3 := x.alloc (.cells #[.int .u64 Y.seq, .slice P1.a Y.plan.targets.length P1.c, .slice Q1.a Y.plan.data.length Q1.c] 28)
  have xk_3 := blk3 x_3
  have pn1_4 := pn1.below ((Below.refl _ _).alloc (Nat.le_refl _) (.cells #[.int .u64 Y.seq, .slice P1.a Y.plan.targets.length P1.c, .slice Q1.a Y.plan.data.length Q1.c] 28))
  go_wp2_with fail
  go_at_call 10
  refine ((c3 _ P1 Q1 pn1_4)).mono ?_
  rintro e w3 ⟨⟨v1, rfl, own1⟩, hb3⟩
  replace hB := bt hB_2 hb3
  replace x := x_3.below hb3 x_3.lt
  replace xk := blk3 x
  replace pn1 := pn1_4.below hb3
  replace y := y.below hb3 y.lt
  replace yk := blk3 y
  clear hB_2 xk_3 x_3 pn1_4
  simp only at own1
  obtain ⟨C1, d1, rfl, _⟩ := own_slice own1
  have cc1 := Cells.of_own own1
  go_wp2_with fail
  go_at_call 14
  refine ((c4 _ hB C1 d1 cc1)).mono ?_
  rintro e w4 ⟨rfl, hb4⟩
  replace hB := bt hB hb4
  replace x := x.below hb4 x.lt
  replace xk := blk3 x
  replace pn1 := pn1.below hb4
  replace y := y.below hb4 y.lt
  replace yk := blk3 y
  go_wp2_with fail
  go_at_call 10
  refine ((c1 _ hB)).mono ?_
  rintro e w5 ⟨⟨v2, rfl, own2⟩, hb5⟩
  replace hB := bt hB hb5
  replace x := x.below hb5 x.lt
  replace xk := blk3 x
  replace pn1 := pn1.below hb5
  replace y := y.below hb5 y.lt
  replace yk := blk3 y
  simp only at own2
  obtain ⟨C2, d2, rfl, _, _, nil2⟩ := own_slice own2
  go_wp2_with fail
  go_at_call 9
  refine ((awake06 _)).mono ?_
  rintro e w6 ⟨rfl, hb6⟩
  replace hB := bt hB hb6
  replace x := x.below hb6 x.lt
  replace xk := blk3 x
  replace pn1 := pn1.below hb6
  replace y := y.below hb6 y.lt
  replace yk := blk3 y
  go_wp2_with fail
  go_ret
  exact ⟨rfl, hB⟩
set_option maxRecDepth 100000 in
set_option maxHeartbeats 1000000 in
theorem walk_ny (t : Tx) (p q : Pl) (l : List (List UInt8)) (A : Option Addr) (c : Nat) (w : World) (hL : IsPn w t.plan p q) (hA : Cells w A (strCells l)) (hlc : l.length ≤ c) (hcm : c ≤ maxLen) (hs : ∀ s ∈ l, s.length ≤ 281474976710656) (hn : A = none → c = 0) (hsq : t.seq < 18446744073709551616) (hg : few t l = true) (he : (txRead l).2 ≠ 0) (ht : t.Ok) :
    Calls Try.prog 4 #[tval t p q, .slice A l.length c] w fun e w' => e = .returned (.bool true) ∧ Below w.heap.size w w' := by
  have hG := fun (W : World) (hb : Below w.heap.size w W) => few06 t p q l A c W (hL.below hb) (hA.below hb) hlc hcm hs
  rw [hg] at hG
  obtain ⟨f1, f2, f3⟩ := few_iff hg
  have hlt := tot_count l
  have hsm : ∀ s ∈ l, s.length ≤ maxLen := fun s h => by have := hs s h; unfold maxLen; omega
  have c1 := fun (W : World) (hb : Below w.heap.size w W) => tx_write t p q W (hL.below hb) hsq
  have c2 := fun (W : World) (hb : Below w.heap.size w W) => tx_read l A c W (hA.below hb) (by omega) hlc hcm hsm
  have hw : t.write = (t.rows, 0) := by unfold Tx.write; rw [if_pos ht]
  have hrl := Tx.rows_length ht
  have hrs := Tx.rows_64 ht
  have htl : txSize t.plan.targets.length ≤ 27 := by have := ht.1.2.1; unfold txSize; split <;> omega
  have hback := Tx.read_rows ht hsq l
  rw [hw] at c1
  generalize hY : txRead l = Y at *
  obtain ⟨Y, ye⟩ := Y
  simp only at he
  have ge : (ye == 0) = false := by rw [beq_eq_false_iff_ne]; exact he
  have c6 := fun W => tx_size t.plan.targets.length (by unfold okI; omega) W
  rw [txSizeI_nat, ← hrl] at c6
  have c5 := fun (W : World) (C : Option Addr) (d : Nat) (hC : Cells W C (strCells (t.rows ++ l))) (hd : (t.rows ++ l).length ≤ d) (hd2 : d ≤ maxLen) => tx_read (t.rows ++ l) C d W hC (by rw [List.length_append]; omega) hd hd2 (fun s h => by
    rcases List.mem_append.1 h with h | h
    · rw [hrs s h]; decide
    · exact hsm s h)
  rw [hback] at c5
  have c7 := fun (W : World) (hb : Below w.heap.size w W) (a b : Pl) (hP : IsPn W t.plan a b) => r6_same t t a b p q W hP (hL.below hb) (by omega) (by omega) (by omega) (by omega)
  rw [Tx.same_self] at c7
  have HR := hid (show strCells t.rows ++ strCells l = strCells (t.rows ++ l) by simp [strCells])
  have HRl : t.rows.length + l.length = (t.rows ++ l).length := by rw [List.length_append]
  have HAl := hid (fun (W : World) (hb : Below w.heap.size w W) => hA.below hb)
  have Hnil := hid hn
  obtain ⟨i0, hi, iz0, iz1, iz2⟩ := info_parts Try.infoStrP
  have hrl27 : t.rows.length ≤ 27 := by omega
  clear hback hrs hrl
  generalize t.rows = R at *
  generalize hRl : R ++ l = RL at *
  clear hRl
  clear hL hA hg hsm hY
  have hB := Below.refl w.heap.size w
  have x := Blk.new w 28 #[.int .u64 t.seq, .slice p.a t.plan.targets.length p.c, .slice q.a t.plan.data.length q.c]
  have xk := blk3 x
  have hB_1 := hB.alloc hB.size (.cells #[.int .u64 t.seq, .slice p.a t.plan.targets.length p.c, .slice q.a t.plan.data.length q.c] 28)
  go_enter Try.func4, Try.ntmps4
  go_wp2_with fail
  go_at_call 8
  refine ((hG _ hB_1)).mono ?_
  rintro e w1 ⟨rfl, hb1⟩
  replace hB := bt hB_1 hb1
  replace x := x.below hb1 x.lt
  replace xk := blk3 x
  clear hB_1
  go_wp2_with fail
  go_at_call 12
  refine ((c2 _ hB)).mono ?_
  rintro e w2 ⟨⟨P1, Q1, rfl, pn1⟩, hb2⟩
  replace hB := bt hB hb2
  replace x := x.below hb2 x.lt
  replace xk := blk3 x
  simp only at pn1
  dsimp only
  have y := Blk.new w2 28 #[.int .u64 Y.seq, .slice P1.a Y.plan.targets.length P1.c, .slice Q1.a Y.plan.data.length Q1.c]
  have yk := blk3 y
  have hB_2 := hB.alloc hB.size (.cells #[.int .u64 Y.seq, .slice P1.a Y.plan.targets.length P1.c, .slice Q1.a Y.plan.data.length Q1.c] 28)
  have x_3 := x.alloc (.cells #[.int .u64 Y.seq, .slice P1.a Y.plan.targets.length P1.c, .slice Q1.a Y.plan.data.length Q1.c] 28)
  have xk_3 := blk3 x_3
  have pn1_4 := pn1.below ((Below.refl _ _).alloc (Nat.le_refl _) (.cells #[.int .u64 Y.seq, .slice P1.a Y.plan.targets.length P1.c, .slice Q1.a Y.plan.data.length Q1.c] 28))
  go_wp2_with fail
  go_at_call 10
  refine ((c1 _ hB_2)).mono ?_
  rintro e w5 ⟨⟨v2, rfl, own2⟩, hb5⟩
  replace hB := bt hB_2 hb5
  replace x := x_3.below hb5 x_3.lt
  replace xk := blk3 x
  replace pn1 := pn1_4.below hb5
  replace y := y.below hb5 y.lt
  replace yk := blk3 y
  clear hB_2 xk_3 x_3 pn1_4
  simp only at own2
  obtain ⟨C2, d2, rfl, _, _, nil2⟩ := own_slice own2
  have cc2 := Cells.of_own own2
  have o6 := World.ownsRow_made (base := w5.heap.size) (e := 9) (size := 1) w5 #[] 0 (Nat.le_refl _) (Nat.zero_le _) rfl
  have hx5 : w.heap.size < w5.heap.size := x.lt
  have hB_5 := hB.alloc hB.size (.cells #[] 9)
  have x_6 := x.alloc (.cells #[] 9)
  have xk_6 := blk3 x_6
  have pn1_7 := pn1.below ((Below.refl _ _).alloc (Nat.le_refl _) (.cells #[] 9))
  have y_8 := y.alloc (.cells #[] 9)
  have yk_8 := blk3 y_8
  have cc2_9 := cc2.below ((Below.refl _ _).alloc (Nat.le_refl _) (.cells #[] 9))
  have B5 := hB_5
  have X5 := x_6
  go_wp2_with (first | (at_builtin; refine wpList_app rfl (.tmp 62) (.tmp 63) 24 rfl w5.heap.size 9 i0 (.string ⟨#[]⟩) 1 16 Try.underlying24 hi iz0 iz1 iz2 rfl (by decide) _ 0 [] rfl o6 C2 R.length d2 (strCells R) rfl cc2_9 (by rw [strCells_length, Nat.mul_one]) nil2 (one_strs _) (by unfold maxLen; omega) (by omega) (by simp) ?_; intro v3 w7 o7 hb7; rw [Nat.zero_add, List.nil_append] at o7) | (at_builtin; refine wpList_app rfl (.tmp 64) (.tmp 65) 24 rfl w5.heap.size 9 i0 (.string ⟨#[]⟩) 1 16 Try.underlying24 hi iz0 iz1 iz2 rfl (by decide) v3 R.length (strCells R) rfl o7 A l.length c (strCells l) rfl (HAl.out _ (B5.trans (hb7.mono (Nat.le_of_lt hx5)))) (by rw [strCells_length, Nat.mul_one]) Hnil.out (one_strs _) (by unfold maxLen; omega) (by omega) (Nat.le_trans (by simp) hb7.size) ?_; intro v4 w8 o8 hb8; rw [HR.out, HRl] at o8))
  obtain ⟨C4, d4, rfl, hd4, hd4m, _⟩ := own_slice o8
  have cc4 := Cells.of_own o8
  have B8 := B5.trans ((hb7.trans hb8).mono (Nat.le_of_lt hx5))
  have x8 := X5.below (hb7.trans hb8) hx5
  go_at_call 12
  refine (c5 _ C4 d4 cc4 hd4 hd4m).mono ?_
  rintro e w9 ⟨⟨P2, Q2, rfl, pn2⟩, hb9⟩
  have B9 := bt B8 hb9
  have x9 := x8.below hb9 x8.lt
  have x9k := blk3 x9
  have z := Blk.new w9 28 #[.int .u64 t.seq, .slice P2.a t.plan.targets.length P2.c, .slice Q2.a t.plan.data.length Q2.c]
  have zk := blk3 z
  have B9_1 := B9.alloc B9.size (.cells #[.int .u64 t.seq, .slice P2.a t.plan.targets.length P2.c, .slice Q2.a t.plan.data.length Q2.c] 28)
  have x9_2 := x9.alloc (.cells #[.int .u64 t.seq, .slice P2.a t.plan.targets.length P2.c, .slice Q2.a t.plan.data.length Q2.c] 28)
  have x9k_2 := blk3 x9_2
  have pn2_3 := pn2.below ((Below.refl _ _).alloc (Nat.le_refl _) (.cells #[.int .u64 t.seq, .slice P2.a t.plan.targets.length P2.c, .slice Q2.a t.plan.data.length Q2.c] 28))
  go_wp2_with fail
  go_at_call 15
  refine ((c7 _ B9_1 P2 Q2 pn2_3)).mono ?_
  rintro e w10 ⟨rfl, hb10⟩
  replace B9 := bt B9_1 hb10
  replace x9 := x9_2.below hb10 x9_2.lt
  replace x9k := blk3 x9
  replace pn2 := pn2_3.below hb10
  replace z := z.below hb10 z.lt
  replace zk := blk3 z
  clear B9_1 x9k_2 x9_2 pn2_3
  go_wp2_with fail
  go_at_call 16
  refine ((c6 _)).mono ?_
  rintro e w11 ⟨rfl, hb11⟩
  replace B9 := bt B9 hb11
  replace x9 := x9.below hb11 x9.lt
  replace x9k := blk3 x9
  replace pn2 := pn2.below hb11
  replace z := z.below hb11 z.lt
  replace zk := blk3 z
  go_wp2_with fail
  go_at_call 9
  refine ((awake06 _)).mono ?_
  rintro e w12 ⟨rfl, hb12⟩
  replace B9 := bt B9 hb12
  replace x9 := x9.below hb12 x9.lt
  replace x9k := blk3 x9
  replace pn2 := pn2.below hb12
  replace z := z.below hb12 z.lt
  replace zk := blk3 z
  go_wp2_with fail
  go_ret
  exact ⟨rfl, B9⟩
set_option maxRecDepth 100000 in
set_option maxHeartbeats 1000000 in
theorem walk_nn (t : Tx) (p q : Pl) (l : List (List UInt8)) (A : Option Addr) (c : Nat) (w : World) (hL : IsPn w t.plan p q) (hA : Cells w A (strCells l)) (hlc : l.length ≤ c) (hcm : c ≤ maxLen) (hs : ∀ s ∈ l, s.length ≤ 281474976710656) (hn : A = none → c = 0) (hsq : t.seq < 18446744073709551616) (hg : few t l = true) (he : (txRead l).2 ≠ 0) (ht : ¬ t.Ok) :
    Calls Try.prog 4 #[tval t p q, .slice A l.length c] w fun e w' => e = .returned (.bool true) ∧ Below w.heap.size w w' := by
  have hG := fun (W : World) (hb : Below w.heap.size w W) => few06 t p q l A c W (hL.below hb) (hA.below hb) hlc hcm hs
  rw [hg] at hG
  obtain ⟨f1, f2, f3⟩ := few_iff hg
  have hlt := tot_count l
  have hsm : ∀ s ∈ l, s.length ≤ maxLen := fun s h => by have := hs s h; unfold maxLen; omega
  have c1 := fun (W : World) (hb : Below w.heap.size w W) => tx_write t p q W (hL.below hb) hsq
  have c2 := fun (W : World) (hb : Below w.heap.size w W) => tx_read l A c W (hA.below hb) (by omega) hlc hcm hsm
  have hw : t.write = ([], 25) := by unfold Tx.write; rw [if_neg ht]
  rw [hw] at c1
  generalize hY : txRead l = Y at *
  obtain ⟨Y, ye⟩ := Y
  simp only at he
  have ge : (ye == 0) = false := by rw [beq_eq_false_iff_ne]; exact he
  clear hL hA hg hsm hY
  have hB := Below.refl w.heap.size w
  have x := Blk.new w 28 #[.int .u64 t.seq, .slice p.a t.plan.targets.length p.c, .slice q.a t.plan.data.length q.c]
  have xk := blk3 x
  have hB_1 := hB.alloc hB.size (.cells #[.int .u64 t.seq, .slice p.a t.plan.targets.length p.c, .slice q.a t.plan.data.length q.c] 28)
  go_enter Try.func4, Try.ntmps4
  go_wp2_with fail
  go_at_call 8
  refine ((hG _ hB_1)).mono ?_
  rintro e w1 ⟨rfl, hb1⟩
  replace hB := bt hB_1 hb1
  replace x := x.below hb1 x.lt
  replace xk := blk3 x
  clear hB_1
  go_wp2_with fail
  go_at_call 12
  refine ((c2 _ hB)).mono ?_
  rintro e w2 ⟨⟨P1, Q1, rfl, pn1⟩, hb2⟩
  replace hB := bt hB hb2
  replace x := x.below hb2 x.lt
  replace xk := blk3 x
  simp only at pn1
  dsimp only
  have y := Blk.new w2 28 #[.int .u64 Y.seq, .slice P1.a Y.plan.targets.length P1.c, .slice Q1.a Y.plan.data.length Q1.c]
  have yk := blk3 y
  have hB_2 := hB.alloc hB.size (.cells #[.int .u64 Y.seq, .slice P1.a Y.plan.targets.length P1.c, .slice Q1.a Y.plan.data.length Q1.c] 28)
  have x_3 := x.alloc (.cells #[.int .u64 Y.seq, .slice P1.a Y.plan.targets.length P1.c, .slice Q1.a Y.plan.data.length Q1.c] 28)
  have xk_3 := blk3 x_3
  have pn1_4 := pn1.below ((Below.refl _ _).alloc (Nat.le_refl _) (.cells #[.int .u64 Y.seq, .slice P1.a Y.plan.targets.length P1.c, .slice Q1.a Y.plan.data.length Q1.c] 28))
  go_wp2_with fail
  go_at_call 10
  refine ((c1 _ hB_2)).mono ?_
  rintro e w5 ⟨⟨v2, rfl, own2⟩, hb5⟩
  replace hB := bt hB_2 hb5
  replace x := x_3.below hb5 x_3.lt
  replace xk := blk3 x
  replace pn1 := pn1_4.below hb5
  replace y := y.below hb5 y.lt
  replace yk := blk3 y
  clear hB_2 xk_3 x_3 pn1_4
  simp only at own2
  obtain ⟨C2, d2, rfl, _, _, nil2⟩ := own_slice own2
  go_wp2_with fail
  go_at_call 9
  refine ((awake06 _)).mono ?_
  rintro e w6 ⟨rfl, hb6⟩
  replace hB := bt hB hb6
  replace x := x.below hb6 x.lt
  replace xk := blk3 x
  replace pn1 := pn1.below hb6
  replace y := y.below hb6 y.lt
  replace yk := blk3 y
  go_wp2_with fail
  go_ret
  exact ⟨rfl, hB⟩
theorem walk_ok (t : Tx) (p q : Pl) (l : List (List UInt8)) (A : Option Addr) (c : Nat) (w : World) (hL : IsPn w t.plan p q) (hA : Cells w A (strCells l)) (hlc : l.length ≤ c) (hcm : c ≤ maxLen) (hs : ∀ s ∈ l, s.length ≤ 281474976710656) (hn : A = none → c = 0) (hsq : t.seq < 18446744073709551616) (hg : few t l = true) :
    Calls Try.prog 4 #[tval t p q, .slice A l.length c] w fun e w' => e = .returned (.bool true) ∧ Below w.heap.size w w' := by
  by_cases he : (txRead l).2 = 0
  · by_cases ht : t.Ok
    · exact walk_yy t p q l A c w hL hA hlc hcm hs hn hsq hg he ht
    · exact walk_yn t p q l A c w hL hA hlc hcm hs hn hsq hg he ht
  · by_cases ht : t.Ok
    · exact walk_ny t p q l A c w hL hA hlc hcm hs hn hsq hg he ht
    · exact walk_nn t p q l A c w hL hA hlc hcm hs hn hsq hg he ht
theorem walk (w : World) (z : Nat) (L : Pn) (p q : Pl) (h1 : z < 18446744073709551616 ∧ IsPn w L p q) (A : Option Addr) (c : Nat) (l : List (List UInt8)) (h2 : (Cells w A (strCells l) ∧ (A = none → c = 0) ∧ l.length ≤ c ∧ c ≤ maxLen ∧ ∀ x ∈ l, x.length ≤ reachBytes) ∧ l.length * Try.prog.bytesOf 9 ≤ reachBytes) :
    Calls Try.prog 4 #[tval ⟨z, L⟩ p q, .slice A l.length c] w fun e w' => e = .returned (.bool true) ∧ Below w.heap.size w w' := by
  obtain ⟨⟨hA, hn, hlc, hcm, hs⟩, _⟩ := h2
  unfold reachBytes at hs
  have hs : ∀ s ∈ l, s.length ≤ 281474976710656 := fun s h => by have := hs s h; omega
  cases hg : few ⟨z, L⟩ l with
  | false => exact walk_no ⟨z, L⟩ p q l A c w h1.2 hA hlc hcm hs hg
  | true => exact walk_ok ⟨z, L⟩ p q l A c w h1.2 hA hlc hcm hs hn h1.1 hg
/-! ### The row -/
theorem own : ownKnob Try.prog.godebug = none := by kernel_rfl
set_option maxRecDepth 100000 in
theorem lifted (os : Os) (started : os.Started) (H : Type) (enc : TypeId × Value → H) :
    ReturnsInHanded {} Try.checked os 4 .any (Rows.txnBackSpec.pre6 enc Try.prog Try.f4 Rows.txnBackRow.domain false) (Rows.txnBackSpec.post enc Try.prog Try.f4 false true false false) := by
  refine returnsInHanded_of_change_sized (C := Try.checked) own started (by kernel_rfl) Try.func4
    (ChangeSpec.witness6 (enc := enc) (C := Try.checked) false ⟨#[], #[.agg #[.int .u64 0, .slice none 0 0, .slice none 0 0], .slice none 0 0], []⟩ 8 (by kernel_rfl) (by kernel_rfl) (by kernel_rfl) (by kernel_rfl)) ?_
  intro W base args ds gs before hval0 hW hcnd hsz0 _
  have hval : ∀ (j : Nat) t v, Try.f4.params[j]? = some t → args[j]? = some v → Value.okWide Try.prog W .any base t v := hval0
  have hW' := hW
  obtain ⟨p, q, hA0, hV, rfl, hfz, hnd⟩ := hW
  have hA : DataW.TrodAll enc Try.prog W 0 (fun _ => true) true Try.f4.params.toList args.toList ds p := hA0
  have hAk := hA
  have hsz : (DataW.weightsEach Try.prog (Try.f4.params.toList ++ Rows.txnBackSpec.plain.varTypes Try.prog) (ds ++ gs)).all (· ≤ reachBytes) = true := hsz0
  rw [Try.params4] at hA hval hsz
  obtain ⟨v0, vs0, d0, ds0, p0, q0, hargs, rfl, rfl, h0, r0⟩ := trodAll_cons hA
  obtain ⟨v1, vs1, d1, ds1, p1, q1, rfl, rfl, rfl, h1, r1⟩ := trodAll_cons r0
  obtain ⟨rfl, rfl, rfl⟩ := trodAll_nil r1
  obtain rfl : args = #[v0, v1] := by cases args; simp_all
  obtain ⟨rfl, rfl⟩ := trodVars_none hV
  obtain ⟨s0, D0, P0, Q0, rfl, w0⟩ := open_txn Try.underlying28 ⟨by kernel_rfl, by kernel_rfl⟩ ⟨by kernel_rfl, by kernel_rfl⟩ (by kernel_rfl) Try.underlying22 Try.underlying26 (by kernel_rfl) Try.underlying23 Try.underlying24 Try.underlying3 (by kernel_rfl) Try.underlying9 (by kernel_rfl) (hval 0 28 v0 rfl rfl) h0
  obtain ⟨A1, n1, c1, rfl⟩ := okWide_slice Try.underlying24 (hval 1 24 v1 rfl rfl)
  obtain ⟨_, h1'⟩ := h1
  obtain ⟨B1, e1, l1, hB1, w1⟩ := open_strs_sized Try.underlying24 Try.underlying9 (by kernel_rfl) h1' (weights_each hsz (j := 1) rfl rfl)
  rw [hB1] at hW' hAk ⊢
  clear hA0 hval0
  simp only [List.append_nil] at hW'
  refine (walk W s0 D0 P0 Q0 w0 B1 e1 l1 w1).mono fun e W' ⟨he, hb⟩ => ?_
  subst he
  exact ⟨_, rfl, post_of_below (pa := _) (pv := []) hW' (fun _ _ _ => (trodAll_cons_mk (shut_bool Try.underlying4 _) trodAll_mk0)) (fun sp hsp => trodAll_stays (by kernel_rfl) hb (by kernel_rfl) hAk (fun x hx => hW'.lt x (by simpa using hx)) (fun x hx => hsp x (by simpa using hx))) (fun _ _ => rfl) (by simp) hb (ok_one (by kernel_rfl) rfl (okWide_bool_mk Try.underlying4 _))⟩
theorem over_ : Rows.txnBackRow.holds Try.pinned (OpenSpec.ofChange Rows.txnBackSpec) :=
  OpenClaim.holds_of_wide 4 Try.f4 rfl rfl rfl rfl rfl rfl rfl ⟨rfl, rfl, rfl, rfl, rfl⟩ rfl rfl rfl rfl rfl (by kernel_rfl) Try.func4 (by kernel_rfl)
    (of_decide_eq_true (by kernel_rfl)) (by unfold Func.isWrapper; first | (rw [if_pos (by decide +kernel)]; kernel_rfl) | (rw [if_neg (by decide +kernel)]; exact ⟨rfl, rfl⟩))
    (fun os started H enc _ => lifted os started H enc)
/-- The statement. -/
theorem proved : Rows.TxnBackSaid := over_
#print axioms proved
end Go.Proofs.Ytkiokdphjfkocaa.txnBack
