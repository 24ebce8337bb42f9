/- Package table and the document's ref11: an entry of a table. -/
import Derived.Test.YtlapjkbefkmohaaGreatSdTable1
import Derived.Test.YtlapjkbefkmohaaGreatSdRegs
import Derived.Laws.BitsAllLaws
set_option linter.unusedVariables false
namespace Go.Proofs.YtlapjkbefkmohaaGreat
open Go.RowKit Go.Shelf
attribute [local go_sem] bs_mk bs_append bs_extract bs_size bs_toList bs_get

theorem and56 (n : Nat) (h : n < 18446744073709551616) : bits .and .u64 (n : Int) 72057594037927935 = ((n % 72057594037927936 : Nat) : Int) := by
 have := u64_and_nat n 72057594037927935 h (by omega)
 rw [show ((72057594037927935 : Nat) : Int) = 72057594037927935 from rfl] at this
 rw [this]
 have e := Nat.and_two_pow_sub_one_eq_mod n 56
 simp only [Nat.reducePow, Nat.reduceSub] at e
 rw [e]
theorem take8_of (b : List UInt8) (hb : b.length = 64) (o : Nat) (ho : o ≤ 56) : takeR (b.drop o) 8 = (un (cut b o 8), (b.drop o).drop 8, 0) ∧ un (cut b o 8) < 18446744073709551616 := by
 have hl : ¬ (((b.drop o).length : Nat) : Int) < 8 := by rw [List.length_drop]; omega
 refine ⟨?_, ?_⟩
 · rw [takeR, if_neg (by omega), if_neg hl]; rfl
 · have := un_lt (cut b o 8)
   rw [cut_length (by omega)] at this
   exact this
theorem t_get_no (D : Dk) (L : Pn) (p q p' q' : Pl) (w : World) (t i : Int) (h : Pn.refused t i) :
 Calls Tryz.prog 118 #[dval D p q, pval L p' q', .int .i64 t, .int .i64 i] w fun e w' => e = .returned (.tuple #[eval2 (Pn.tabGet D L t i).1.1 (Pn.tabGet D L t i).1.2, .int .i64 (Pn.tabGet D L t i).2]) ∧ Below w.heap.size w w' := by
 have Hw := hid (Pn.tabGet_refused (D := D) (L := L) h)
 have hp := fun W => t_place_no t i h W
 clear h
 obtain ⟨A1, a1⟩ := p
 obtain ⟨A2, a2⟩ := q
 obtain ⟨B1, b1⟩ := p'
 obtain ⟨B2, b2⟩ := q'
 have hB := Below.refl w.heap.size w
 have x := Blk.new w 25 #[.string (bs D.data), .slice A1 D.cache.length a1, .int .i64 D.fuse, .bool D.off, .slice A2 D.bad.length a2]
 have xk := blk5 x
 have hB_1 := hB.alloc hB.size (.cells #[.string (bs D.data), .slice A1 D.cache.length a1, .int .i64 D.fuse, .bool D.off, .slice A2 D.bad.length a2] 25)
 have z := Blk.new (w.alloc (.cells #[.string (bs D.data), .slice A1 D.cache.length a1, .int .i64 D.fuse, .bool D.off, .slice A2 D.bad.length a2] 25)) 67 #[.slice B1 L.targets.length b1, .slice B2 L.data.length b2]
 simp only [World.size_alloc] at z
 have zk := blk2 z
 have hB_2 := hB_1.alloc hB_1.size (.cells #[.slice B1 L.targets.length b1, .slice B2 L.data.length b2] 67)
 have x_3 := x.alloc (.cells #[.slice B1 L.targets.length b1, .slice B2 L.data.length b2] 67)
 have xk_3 := blk5 x_3
 have r := Blk.new ((w.alloc (.cells #[.string (bs D.data), .slice A1 D.cache.length a1, .int .i64 D.fuse, .bool D.off, .slice A2 D.bad.length a2] 25)).alloc (.cells #[.slice B1 L.targets.length b1, .slice B2 L.data.length b2] 67)) 73 #[.int .i64 0, .int .i64 0]
 simp only [World.size_alloc] at r
 have rk := blk2 r
 have rkf := r.frozen
 have hB_4 := hB_2.alloc hB_2.size (.cells #[.int .i64 0, .int .i64 0] 73)
 have x_5 := x_3.alloc (.cells #[.int .i64 0, .int .i64 0] 73)
 have xk_5 := blk5 x_5
 have z_6 := z.alloc (.cells #[.int .i64 0, .int .i64 0] 73)
 have zk_6 := blk2 z_6
 go_enter Tryz.func118, Tryz.ntmps118
 go_wp2_with fail
 go_at_call 119
 refine ((hp _)).mono ?_
 rintro e w1 ⟨rfl, hb1⟩
 replace hB := bt hB_4 hb1
 replace x := x_5.below hb1 x_5.lt
 replace xk := blk5 x
 replace z := z_6.below hb1 z_6.lt
 replace zk := blk2 z
 replace r := r.below hb1 r.lt
 replace rk := blk2 r
 replace rkf := r.frozen
 clear hB_1 hB_2 xk_3 x_3 hB_4 xk_5 x_5 zk_6 z_6
 have w1l := hB.size
 have lt2 := r.lt
 go_wp2_with fail
 rw [Hw.out]
 have yy := blk2 (blk_set2 r (.int .i64 0) (.int .i64 0))
 have b9 := below_set2 hB (g := w.heap.size + 1 + 1) (by omega) (.int .i64 0) (.int .i64 0)
 refine bodyPost_ret (v := .tuple #[eval2 0 0, .int .i64 10]) (by simp [results, Tryz.results118, go_sem, yy]) rfl ?_
 exact ⟨rfl, b9⟩
set_option maxRecDepth 100000 in
theorem t_get_yes (D : Dk) (L : Pn) (p q p' q' : Pl) (w : World) (hD : IsDk w D p q) (hL : IsPn w L p' q') (hf : D.fit = true) (hfl : L.Fit) (t i : Int) (h : ¬ Pn.refused t i) :
 Calls Tryz.prog 118 #[dval D p q, pval L p' q', .int .i64 t, .int .i64 i] w fun e w' => e = .returned (.tuple #[eval2 (Pn.tabGet D L t i).1.1 (Pn.tabGet D L t i).1.2, .int .i64 (Pn.tabGet D L t i).2]) ∧ Below w.heap.size w w' := by
 have hp := fun W => t_place_yes t i h W
 have hlk := fun (W : World) (hb : Below w.heap.size w W) => pl_look D L p q p' q' W (hD.below hb) (hL.below hb) (Pn.entAt t i) ((Dk.fit_parts hf).2.2.1) (by have := hfl.2.1; omega) hfl.1
 have ho : 0 ≤ Pn.entOff i ∧ Pn.entOff i ≤ 56 := by unfold Pn.refused at h; unfold Pn.entOff; omega
 obtain ⟨b, er, hb⟩ : ∃ b er, Pn.look D L (Pn.entAt t i) = (b, er) := ⟨_, _, rfl⟩
 simp only [hb] at hlk
 have hlen : er = 0 → b.length = 64 := fun h => by have := Pn.look_full hf hfl (k := Pn.entAt t i) (by rw [hb]; exact h); rw [hb] at this; exact this
 have Hw := hid (show Pn.tabGet D L t i = if er ≠ 0 then ((0, 0), er) else Pn.entOf (cut b (Pn.entOff i).toNat 8) by rw [Pn.tabGet, if_neg h, hb])
 generalize Pn.entAt t i = at_ at *
 obtain ⟨o, hoo⟩ : ∃ o : Nat, Pn.entOff i = o := Int.eq_ofNat_of_zero_le ho.1
 rw [hoo] at hp Hw ho
 rw [Int.toNat_natCast] at Hw
 have ho2 : o ≤ 56 := by omega
 clear h hb hD hL hf hfl hoo ho
 obtain ⟨A1, a1⟩ := p
 obtain ⟨A2, a2⟩ := q
 obtain ⟨B1, b1⟩ := p'
 obtain ⟨B2, b2⟩ := q'
 have hB := Below.refl w.heap.size w
 have x := Blk.new w 25 #[.string (bs D.data), .slice A1 D.cache.length a1, .int .i64 D.fuse, .bool D.off, .slice A2 D.bad.length a2]
 have xk := blk5 x
 have hB_1 := hB.alloc hB.size (.cells #[.string (bs D.data), .slice A1 D.cache.length a1, .int .i64 D.fuse, .bool D.off, .slice A2 D.bad.length a2] 25)
 have z := Blk.new (w.alloc (.cells #[.string (bs D.data), .slice A1 D.cache.length a1, .int .i64 D.fuse, .bool D.off, .slice A2 D.bad.length a2] 25)) 67 #[.slice B1 L.targets.length b1, .slice B2 L.data.length b2]
 simp only [World.size_alloc] at z
 have zk := blk2 z
 have hB_2 := hB_1.alloc hB_1.size (.cells #[.slice B1 L.targets.length b1, .slice B2 L.data.length b2] 67)
 have x_3 := x.alloc (.cells #[.slice B1 L.targets.length b1, .slice B2 L.data.length b2] 67)
 have xk_3 := blk5 x_3
 have r := Blk.new ((w.alloc (.cells #[.string (bs D.data), .slice A1 D.cache.length a1, .int .i64 D.fuse, .bool D.off, .slice A2 D.bad.length a2] 25)).alloc (.cells #[.slice B1 L.targets.length b1, .slice B2 L.data.length b2] 67)) 73 #[.int .i64 0, .int .i64 0]
 simp only [World.size_alloc] at r
 have rk := blk2 r
 have rkf := r.frozen
 have hB_4 := hB_2.alloc hB_2.size (.cells #[.int .i64 0, .int .i64 0] 73)
 have x_5 := x_3.alloc (.cells #[.int .i64 0, .int .i64 0] 73)
 have xk_5 := blk5 x_5
 have z_6 := z.alloc (.cells #[.int .i64 0, .int .i64 0] 73)
 have zk_6 := blk2 z_6
 go_enter Tryz.func118, Tryz.ntmps118
 go_wp2_with fail
 go_at_call 119
 refine ((hp _)).mono ?_
 rintro e w1 ⟨rfl, hb1⟩
 replace hB := bt hB_4 hb1
 replace x := x_5.below hb1 x_5.lt
 replace xk := blk5 x
 replace z := z_6.below hb1 z_6.lt
 replace zk := blk2 z
 replace r := r.below hb1 r.lt
 replace rk := blk2 r
 replace rkf := r.frozen
 clear hB_1 hB_2 xk_3 x_3 hB_4 xk_5 x_5 zk_6 z_6
 go_wp2_with fail
 go_at_call 120
 refine ((hlk _ hB)).mono ?_
 rintro e w2 ⟨rfl, hb2⟩
 replace hB := bt hB hb2
 replace x := x.below hb2 x.lt
 replace xk := blk5 x
 replace z := z.below hb2 z.lt
 replace zk := blk2 z
 replace r := r.below hb2 r.lt
 replace rk := blk2 r
 replace rkf := r.frozen
 by_cases h1 : er = 0
 case neg =>
  have n1 : (er != 0) = true := by simpa using h1
  have Hr := hid (show Pn.tabGet D L t i = ((0, 0), er) by rw [Hw.out, if_pos h1])
  clear h1
  have w1l := hB.size
  go_wp2_with fail
  rw [Hr.out]
  have yy := blk2 (blk_set2 r (.int .i64 0) (.int .i64 0))
  have b9 := below_set2 hB (g := w.heap.size + 1 + 1) (by omega) (.int .i64 0) (.int .i64 0)
  refine bodyPost_ret (v := .tuple #[eval2 0 0, .int .i64 er]) (by simp [results, Tryz.results118, go_sem, yy]) rfl ?_
  exact ⟨rfl, b9⟩
 subst h1
 have hl := hlen rfl
 have e64 : List.take 64 b = b := List.take_of_length_le (by omega)
 obtain ⟨t1, t2⟩ := take8_of b hl o ho2
 have ht := fun W => take_any (b.drop o) (by rw [List.length_drop]; unfold maxLen; omega) 8 W
 rw [t1] at ht
 have Hr := hid (show Pn.tabGet D L t i = Pn.entOf (cut b o 8) by rw [Hw.out, if_neg (by simp)])
 have Hq := hid (show Pn.entOf (cut b o 8) = if Pn.entOk (((un (cut b o 8) : Nat) : Int) / 72057594037927936) (((un (cut b o 8) : Nat) : Int) % 72057594037927936) then (((((un (cut b o 8) : Nat) : Int) / 72057594037927936), (((un (cut b o 8) : Nat) : Int) % 72057594037927936)), 0) else ((0, 0), 14) from Pn.entOf.eq_1 _)
 generalize Pn.entOf (cut b o 8) = E at Hr Hq
 generalize un (cut b o 8) = n at ht t2 Hq
 have ha := and56 n t2
 clear hlen hlk hp t1
 go_wp2_with fail
 go_at_call 121
 refine ((ht _)).mono ?_
 rintro e w3 ⟨rfl, hb3⟩
 replace hB := bt hB hb3
 replace x := x.below hb3 x.lt
 replace xk := blk5 x
 replace z := z.below hb3 z.lt
 replace zk := blk2 z
 replace r := r.below hb3 r.lt
 replace rk := blk2 r
 replace rkf := r.frozen
 go_wp2_with fail
 generalize (n : Int) / 72057594037927936 = K at Hq ⊢
 generalize (n : Int) % 72057594037927936 = A at Hq ⊢
 clear ha
 have y := Blk.new w3 73 #[.int .i64 K, .int .i64 A]
 have yk := blk2 y
 have hB_7 := hB.alloc hB.size (.cells #[.int .i64 K, .int .i64 A] 73)
 have x_8 := x.alloc (.cells #[.int .i64 K, .int .i64 A] 73)
 have xk_8 := blk5 x_8
 have z_9 := z.alloc (.cells #[.int .i64 K, .int .i64 A] 73)
 have zk_9 := blk2 z_9
 have r_10 := r.alloc (.cells #[.int .i64 K, .int .i64 A] 73)
 have rk_10 := blk2 r_10
 have rkf_10 := r_10.frozen
 have he := fun W => t_entry K A W
 cases hE : Pn.entOk K A with
 | true =>
  have Hs := hid (show Pn.tabGet D L t i = ((K, A), 0) by rw [Hr.out, Hq.out, if_pos hE])
  rw [hE] at he
  clear hE
  go_wp2_with fail
  go_at_call 122
  refine ((he _)).mono ?_
  rintro e w4 ⟨rfl, hb4⟩
  replace hB := bt hB_7 hb4
  replace x := x_8.below hb4 x_8.lt
  replace xk := blk5 x
  replace z := z_9.below hb4 z_9.lt
  replace zk := blk2 z
  replace r := r_10.below hb4 r_10.lt
  replace rk := blk2 r
  replace rkf := r.frozen
  replace y := y.below hb4 y.lt
  replace yk := blk2 y
  clear hB_7 xk_8 x_8 zk_9 z_9 rk_10 rkf_10 r_10
  have w1l := hB.size
  go_wp2_with fail
  rw [Hs.out]
  have yy := blk2 (blk_set2 r (.int .i64 K) (.int .i64 A))
  have b9 := below_set2 hB (g := w.heap.size + 1 + 1) (by omega) (.int .i64 K) (.int .i64 A)
  refine bodyPost_ret (v := .tuple #[eval2 K A, .int .i64 0]) (by simp [results, Tryz.results118, go_sem, yy]) rfl ?_
  exact ⟨rfl, b9⟩
 | false =>
  have Hs := hid (show Pn.tabGet D L t i = ((0, 0), 14) by rw [Hr.out, Hq.out, if_neg (by rw [hE]; simp)])
  rw [hE] at he
  clear hE
  go_wp2_with fail
  go_at_call 122
  refine ((he _)).mono ?_
  rintro e w4 ⟨rfl, hb4⟩
  replace hB := bt hB_7 hb4
  replace x := x_8.below hb4 x_8.lt
  replace xk := blk5 x
  replace z := z_9.below hb4 z_9.lt
  replace zk := blk2 z
  replace r := r_10.below hb4 r_10.lt
  replace rk := blk2 r
  replace rkf := r.frozen
  replace y := y.below hb4 y.lt
  replace yk := blk2 y
  clear hB_7 xk_8 x_8 zk_9 z_9 rk_10 rkf_10 r_10
  have w1l := hB.size
  go_wp2_with fail
  rw [Hs.out]
  have yy := blk2 (blk_set2 r (.int .i64 0) (.int .i64 0))
  have b9 := below_set2 hB (g := w.heap.size + 1 + 1) (by omega) (.int .i64 0) (.int .i64 0)
  refine bodyPost_ret (v := .tuple #[eval2 0 0, .int .i64 14]) (by simp [results, Tryz.results118, go_sem, yy]) rfl ?_
  exact ⟨rfl, b9⟩
theorem t_get (D : Dk) (L : Pn) (p q p' q' : Pl) (w : World) (hD : IsDk w D p q) (hL : IsPn w L p' q') (hf : D.fit = true) (hfl : L.Fit) (t i : Int) :
 Calls Tryz.prog 118 #[dval D p q, pval L p' q', .int .i64 t, .int .i64 i] w fun e w' => e = .returned (.tuple #[eval2 (Pn.tabGet D L t i).1.1 (Pn.tabGet D L t i).1.2, .int .i64 (Pn.tabGet D L t i).2]) ∧ Below w.heap.size w w' := by
 by_cases h : Pn.refused t i
 · exact t_get_no D L p q p' q' w t i h
 · exact t_get_yes D L p q p' q' w hD hL hf hfl t i h
end Go.Proofs.YtlapjkbefkmohaaGreat
