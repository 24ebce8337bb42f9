/- Package ref13: a cluster of the guest's is read. -/
import Derived.Test.YtlapjkbefkmohaaGreatSdImg9
import Derived.Test.YtlapjkbefkmohaaGreatSdTable5
set_option linter.unusedVariables false
namespace Go.Proofs.YtlapjkbefkmohaaGreat
open Go.RowKit Go.Shelf
attribute [local go_sem] bs_mk bs_append bs_extract bs_size bs_toList bs_get
set_option maxRecDepth 100000 in
set_option maxHeartbeats 1000000 in
theorem r13_cluster (D : Dk) (p q : Pl) (w : World) (hD : IsDk w D p q) (hf : D.fit = true) (k : Int) (hk0 : -1000000 ≤ k) (hk1 : k ≤ 1000000) :
 Calls Tryz.prog 24 #[dval D p q, .int .i64 k] w fun e w' => e = .returned (.tuple #[.string (bs (Im.clus D k).1), .int .i64 (Im.clus D k).2]) ∧ Below w.heap.size w w' := by
 have hat := fun W => r4_at k hk0 hk1 W
 have hl := (Dk.fit_parts hf).2.2.1
 have hr1 := fun (W : World) (hb : Below w.heap.size w W) => r1_read D p q W (hD.below hb) (96 + 2 * k) hl
 have hr2 := fun (W : World) (hb : Below w.heap.size w W) => r1_read D p q W (hD.below hb) (96 + 2 * k + 1) hl
 have l1 := Dk.read_len hf (96 + 2 * k)
 have l2 := Dk.read_len hf (96 + 2 * k + 1)
 have HC := hid (show Im.clus D k = if (D.read (96 + 2 * k)).2 ≠ 0 then ([], (D.read (96 + 2 * k)).2) else if (D.read (96 + 2 * k + 1)).2 ≠ 0 then ([], (D.read (96 + 2 * k + 1)).2) else ((D.read (96 + 2 * k)).1 ++ (D.read (96 + 2 * k + 1)).1, 0) from rfl)
 generalize D.read (96 + 2 * k) = R1 at *
 generalize D.read (96 + 2 * k + 1) = R2 at *
 obtain ⟨s1, e1⟩ := R1
 obtain ⟨s2, e2⟩ := R2
 simp only at hr1 hr2 HC l1 l2
 obtain ⟨a, ha⟩ : ∃ a : Int, 96 + 2 * k = a := ⟨_, rfl⟩
 rw [ha] at hat hr1 hr2
 have hab : -10000000 ≤ a ∧ a ≤ 10000000 := by omega
 clear hl ha hD hf
 obtain ⟨A1, a1⟩ := p
 obtain ⟨A2, a2⟩ := q
 have hB := Below.refl w.heap.size w
 have x := Blk.new w 25 #[.string (bs D.data), .slice A1 D.cache.length a1, .int .i64 D.fuse, .bool D.off, .slice A2 D.bad.length a2]
 have xk := blk5 x
 have hB_1 := hB.alloc hB.size (.cells #[.string (bs D.data), .slice A1 D.cache.length a1, .int .i64 D.fuse, .bool D.off, .slice A2 D.bad.length a2] 25)
 go_enter Tryz.func24, Tryz.ntmps24
 go_wp2_with fail
 generalize (w.alloc (.cells #[.string (bs D.data), .slice A1 D.cache.length a1, .int .i64 D.fuse, .bool D.off, .slice A2 D.bad.length a2] 25)) = V at hB_1 x xk ⊢
 clear hB
 have hB := hB_1
 clear hB_1
 have X5 := ext5 x
 have D1 := fun e : Ext V => hat e.world
 have D2 := fun e : Ext V => hr1 e.world (bt hB e.below)
 refine wp_region_ext mixed (by kernel_rfl) ?_
 repeat (go_big_quiet_step (((first | (go_at_call 38; with_reducible exact ext_of (D1 _)) | (go_at_call 63; with_reducible exact ext_of (D2 _))))))
 refine wpQuiet_nil ?_
 rintro V1 ⟨pq_, hpq_⟩
 have hb1 := pq_.below
 rw [← hpq_] at hb1
 clear hpq_ pq_
 clear X5 D1 D2
 replace hB := bt hB hb1
 replace x := x.below hb1 x.lt
 replace xk := blk5 x
 by_cases h1 : e1 = 0
 · subst h1
   by_cases h2 : e2 = 0
   · subst h2
     have Hr := hid (show Im.clus D k = (s1 ++ s2, 0) by rw [HC.out]; exact (if_neg (by simp)).trans (if_neg (by simp)))
     clear HC
     go_wp2_with fail
     have X5 := ext5 x
     have D1 := fun e : Ext V1 => hat e.world
     have D2 := fun e : Ext V1 => hr2 e.world (bt hB e.below)
     refine wp_region_ext mixed (by kernel_rfl) ?_
     repeat (go_big_quiet_step (((first | (go_at_call 38; with_reducible exact ext_of (D1 _)) | (go_at_call 63; with_reducible exact ext_of (D2 _))))))
     refine wpQuiet_nil ?_
     rintro V2 ⟨pq_, hpq_⟩
     have hb2 := pq_.below
     rw [← hpq_] at hb2
     clear hpq_ pq_
     clear X5 D1 D2
     go_wp2_with fail
     go_ret2
     rw [Hr.out]
     exact ⟨rfl, bt hB hb2⟩
   · have n2 : (e2 != 0) = true := bne_iff_ne.2 h2
     have Hr := hid (show Im.clus D k = ([], e2) by rw [HC.out]; exact (if_neg (by simp)).trans (if_pos h2))
     clear HC h2
     go_wp2_with fail
     have X5 := ext5 x
     have D1 := fun e : Ext V1 => hat e.world
     have D2 := fun e : Ext V1 => hr2 e.world (bt hB e.below)
     refine wp_region_ext mixed (by kernel_rfl) ?_
     repeat (go_big_quiet_step (((first | (go_at_call 38; with_reducible exact ext_of (D1 _)) | (go_at_call 63; with_reducible exact ext_of (D2 _))))))
     refine wpQuiet_nil ?_
     rintro V2 ⟨pq_, hpq_⟩
     have hb2 := pq_.below
     rw [← hpq_] at hb2
     clear hpq_ pq_
     clear X5 D1 D2
     go_wp2_with fail
     go_ret2
     rw [Hr.out]
     exact ⟨rfl, bt hB hb2⟩
 · have n1 : (e1 != 0) = true := bne_iff_ne.2 h1
   have Hr := hid (show Im.clus D k = ([], e1) by rw [HC.out]; exact if_pos h1)
   clear HC h1
   go_wp2_with fail
   go_ret2
   rw [Hr.out]
   exact ⟨rfl, hB⟩
theorem Tryz.zmake (n : Nat) (hn : n ≤ 100000) (W : World) : (Instr.makeSlice 77 (.int .i64 (n : Int)) (.int .i64 (n : Int))).run Tryz.prog W = .ok (.slice (some ⟨W.heap.size, 0, none⟩) n n) (W.alloc (.cells (madeCells #[.int .u8 0] n) 5)) := by
 obtain ⟨i0, hi, hz0, hz1, hz2⟩ := info_parts Tryz.infoByte
 have hmk := run_make_rowN (P := Tryz.prog) 77 5 i0 (.int .u8 0) Tryz.underlying77 hi hz0 .i64 .i64 n n (Nat.le_refl _) (by rw [hz2]; omega) (by omega) W
 rw [hz1, Nat.mul_one] at hmk
 exact hmk
theorem Tryz.zstr (n : Nat) (W : World) : (convert 77 9 (.slice (some ⟨W.heap.size, 0, none⟩) n n)).run Tryz.prog (W.alloc (.cells (madeCells #[.int .u8 0] n) 5)) = .ok (.string (bs (List.replicate n 0))) (W.alloc (.cells (madeCells #[.int .u8 0] n) 5)) := by
 have hcv := run_convert_bytes_back (P := Tryz.prog) (W.alloc (.cells (madeCells #[.int .u8 0] n) 5)) 77 9 5 ⟨W.heap.size, 0, none⟩ n (List.replicate n 0) Tryz.underlying77 Tryz.underlying5 Tryz.underlying9 (fun j hj => by
  have hj' : j < n := by simpa using hj
  rw [add_at, Nat.zero_add, (Blk.new W _ _).cell j, ← Array.getElem?_toList, toList_madeCells_one]; simp [hj'])
 rw [List.length_replicate, bs_mk] at hcv
 exact hcv
set_option maxRecDepth 100000 in
set_option maxHeartbeats 1000000 in
theorem r13_read (D : Dk) (p q : Pl) (w : World) (hD : IsDk w D p q) (hf : D.fit = true) (l1 u : Int) :
 Calls Tryz.prog 9 #[dval D p q, .int .i64 l1, .int .i64 u] w fun e w' => e = .returned (.tuple #[.string (bs (Im.rd D l1 u).1), .int .i64 (Im.rd D l1 u).2]) ∧ Below w.heap.size w w' := by
 have hfd := fun (W : World) (hb : Below w.heap.size w W) => t11_find D Pn.none p q ⟨none, 0⟩ ⟨none, 0⟩ W (hD.below hb) (isPn_zero _) hf Pn.none_fit l1 u
 have hc := fun (W : World) (hb : Below w.heap.size w W) (k : Int) (h0 : -1000000 ≤ k) (h1 : k ≤ 1000000) => r13_cluster D p q W (hD.below hb) hf k h0 h1
 have hat := (Pn.tabFind_small D Pn.none l1 u).2.2
 have HR := hid (show Im.rd D l1 u = if (Pn.tabFind D Pn.none l1 u).2 ≠ 0 then ([], (Pn.tabFind D Pn.none l1 u).2) else if (Pn.tabFind D Pn.none l1 u).1.1 = 1 then Im.clus D (Pn.tabFind D Pn.none l1 u).1.2 else (List.replicate 128 0, 0) from rfl)
 generalize Pn.tabFind D Pn.none l1 u = Y at *
 obtain ⟨⟨K, A⟩, er⟩ := Y
 simp only at hfd hat HR
 replace hc := fun (W : World) (hb : Below w.heap.size w W) => hc W hb A (by omega) (by omega)
 have hmk := fun W => Tryz.zmake 128 (by decide) W
 have hcv := fun W => Tryz.zstr 128 W
 rw [show ((128 : Nat) : Int) = 128 from rfl] at hmk
 generalize madeCells #[.int .u8 0] 128 = MC at *
 generalize List.replicate 128 (0 : UInt8) = Z at *
 clear hD hf
 obtain ⟨A1, a1⟩ := p
 obtain ⟨A2, a2⟩ := q
 have hB := Below.refl w.heap.size w
 have x := Blk.new w 25 #[.string (bs D.data), .slice A1 D.cache.length a1, .int .i64 D.fuse, .bool D.off, .slice A2 D.bad.length a2]
 have xk := blk5 x
 have hB_1 := hB.alloc hB.size (.cells #[.string (bs D.data), .slice A1 D.cache.length a1, .int .i64 D.fuse, .bool D.off, .slice A2 D.bad.length a2] 25)
 go_enter Tryz.func9, Tryz.ntmps9
 go_wp2_with fail
 go_at_call 23
 refine ((hfd _ hB_1)).mono ?_
 rintro e w1 ⟨rfl, hb1⟩
 replace hB := bt hB_1 hb1
 replace x := x.below hb1 x.lt
 replace xk := blk5 x
 clear hB_1
 have y := Blk.new w1 73 #[.int .i64 K, .int .i64 A]
 have yk := blk2 y
 have hB_2 := hB.alloc hB.size (.cells #[.int .i64 K, .int .i64 A] 73)
 have x_3 := x.alloc (.cells #[.int .i64 K, .int .i64 A] 73)
 have xk_3 := blk5 x_3
 by_cases he : er = 0
 · subst he
   by_cases hK : K = 1
   · subst hK
     have Hr := hid (show Im.rd D l1 u = Im.clus D A by rw [HR.out]; exact (if_neg (by simp)).trans (if_pos rfl))
     clear HR
     go_wp2_with fail
     go_at_call 24
     refine ((hc _ hB_2)).mono ?_
     rintro e w2 ⟨rfl, hb2⟩
     replace hB := bt hB_2 hb2
     replace x := x_3.below hb2 x_3.lt
     replace xk := blk5 x
     replace y := y.below hb2 y.lt
     replace yk := blk2 y
     clear hB_2 xk_3 x_3
     go_wp2_with fail
     go_ret2
     rw [Hr.out]
     exact ⟨rfl, hB⟩
   · have nK : (K == 1) = false := beq_eq_false_iff_ne.2 hK
     have Hr := hid (show Im.rd D l1 u = (Z, 0) by rw [HR.out]; exact (if_neg (by simp)).trans (if_neg hK))
     clear HR hK
     have bw := (hB_2).alloc (hB_2).size (.cells MC 5)
     have hcv2 := hcv (w1.alloc (.cells #[.int .i64 K, .int .i64 A] 73))
     simp only [World.size_alloc] at hcv2
     clear hcv
     go_wp2_with fail
     go_ret2
     rw [Hr.out]
     exact ⟨rfl, bw⟩
 · have n1 : (er != 0) = true := bne_iff_ne.2 he
   have Hr := hid (show Im.rd D l1 u = ([], er) by rw [HR.out]; exact if_pos he)
   clear HR he
   go_wp2_with fail
   go_ret2
   rw [Hr.out]
   exact ⟨rfl, hB_2⟩
end Go.Proofs.YtlapjkbefkmohaaGreat
