/- The document's ref11: an entry of a table. -/
import Derived.Test.YtlapjkbefkmohaaGreatSdTable3
set_option linter.unusedVariables false
namespace Go.Proofs.YtlapjkbefkmohaaGreat
open Go.RowKit Go.Shelf
attribute [local go_sem] bs_mk bs_append bs_extract bs_size bs_toList bs_get
theorem take4_of (s : List UInt8) (hs : s.length = 8) : takeR (s.drop 4) 4 = (un (s.drop 4), (s.drop 4).drop 4, 0) ∧ un (s.drop 4) < 4294967296 := by
 have hl : (s.drop 4).length = 4 := by simp; omega
 refine ⟨?_, ?_⟩
 · rw [takeR, if_neg (by omega), if_neg (by rw [hl]; omega), show (4 : Int).toNat = 4 from rfl, List.take_of_length_le (by omega)]
 · have := un_lt (s.drop 4)
   rw [hl] at this
   exact this
theorem entOf_cons (c : UInt8) (r : List UInt8) (h : r.length = 7) :
 Pn.entOf (c :: r) = if Pn.entOk (c.toNat : Int) (un (r.drop 3) : Nat) = true ∧ [c, 0, 0, 0] ++ be 4 (un (r.drop 3)) = c :: r then (((c.toNat : Int), ((un (r.drop 3) : Nat) : Int)), 0) else ((0, 0), 14) := by
 have e := Pn.entOf_ref (s := c :: r) (by simp [h])
 have e1 : un ((c :: r).take 1) = c.toNat := by simp [un]
 have e2 : be 1 c.toNat = [c] := by simp [be]
 rw [e1, e2] at e
 exact e
theorem t11_get_no (D : Dk) (L : Pn) (p q p' q' : Pl) (w : World) (t i : Int) (h : Pn.refused t i) :
 Calls Tryz.prog 62 #[dval D p q, pval L p' q', .int .i64 t, .int .i64 i] w fun e w' => e = .returned (.tuple #[eval2 (Pn.tabGet D L t i).1.1 (Pn.tabGet D L t i).1.2, .int .i64 (Pn.tabGet D L t i).2]) ∧ Below w.heap.size w w' := by
 have Hw := hid (Pn.tabGet_refused (D := D) (L := L) h)
 have hp := fun W => t11_refused t i W
 rw [decide_eq_true h] at hp
 clear h
 obtain ⟨A1, a1⟩ := p
 obtain ⟨A2, a2⟩ := q
 obtain ⟨B1, b1⟩ := p'
 obtain ⟨B2, b2⟩ := q'
 have hB := Below.refl w.heap.size w
 have x := Blk.new w 25 #[.string (bs D.data), .slice A1 D.cache.length a1, .int .i64 D.fuse, .bool D.off, .slice A2 D.bad.length a2]
 have xk := blk5 x
 have hB_1 := hB.alloc hB.size (.cells #[.string (bs D.data), .slice A1 D.cache.length a1, .int .i64 D.fuse, .bool D.off, .slice A2 D.bad.length a2] 25)
 have z := Blk.new (w.alloc (.cells #[.string (bs D.data), .slice A1 D.cache.length a1, .int .i64 D.fuse, .bool D.off, .slice A2 D.bad.length a2] 25)) 67 #[.slice B1 L.targets.length b1, .slice B2 L.data.length b2]
 simp only [World.size_alloc] at z
 have zk := blk2 z
 have hB_2 := hB_1.alloc hB_1.size (.cells #[.slice B1 L.targets.length b1, .slice B2 L.data.length b2] 67)
 have x_3 := x.alloc (.cells #[.slice B1 L.targets.length b1, .slice B2 L.data.length b2] 67)
 have xk_3 := blk5 x_3
 have r := Blk.new ((w.alloc (.cells #[.string (bs D.data), .slice A1 D.cache.length a1, .int .i64 D.fuse, .bool D.off, .slice A2 D.bad.length a2] 25)).alloc (.cells #[.slice B1 L.targets.length b1, .slice B2 L.data.length b2] 67)) 73 #[.int .i64 0, .int .i64 0]
 simp only [World.size_alloc] at r
 have rk := blk2 r
 have rkf := r.frozen
 have hB_4 := hB_2.alloc hB_2.size (.cells #[.int .i64 0, .int .i64 0] 73)
 have x_5 := x_3.alloc (.cells #[.int .i64 0, .int .i64 0] 73)
 have xk_5 := blk5 x_5
 have z_6 := z.alloc (.cells #[.int .i64 0, .int .i64 0] 73)
 have zk_6 := blk2 z_6
 go_enter Tryz.func62, Tryz.ntmps62
 go_wp2_with fail
 go_at_call 83
 refine ((hp _)).mono ?_
 rintro e w1 ⟨rfl, hb1⟩
 replace hB := bt hB_4 hb1
 replace x := x_5.below hb1 x_5.lt
 replace xk := blk5 x
 replace z := z_6.below hb1 z_6.lt
 replace zk := blk2 z
 replace r := r.below hb1 r.lt
 replace rk := blk2 r
 replace rkf := r.frozen
 clear hB_1 hB_2 xk_3 x_3 hB_4 xk_5 x_5 zk_6 z_6
 have w1l := hB.size
 have lt2 := r.lt
 go_wp2_with fail
 rw [Hw.out]
 have yy := blk2 (blk_set2 r (.int .i64 0) (.int .i64 0))
 have b9 := below_set2 hB (g := w.heap.size + 1 + 1) (by omega) (.int .i64 0) (.int .i64 0)
 refine bodyPost_ret (v := .tuple #[eval2 0 0, .int .i64 10]) (by simp [results, Tryz.results62, go_sem, yy]) rfl ?_
 exact ⟨rfl, b9⟩
set_option maxRecDepth 100000 in
theorem t11_get_yes (D : Dk) (L : Pn) (p q p' q' : Pl) (w : World) (hD : IsDk w D p q) (hL : IsPn w L p' q') (hf : D.fit = true) (hfl : L.Fit) (t i : Int) (h : ¬ Pn.refused t i) :
 Calls Tryz.prog 62 #[dval D p q, pval L p' q', .int .i64 t, .int .i64 i] w fun e w' => e = .returned (.tuple #[eval2 (Pn.tabGet D L t i).1.1 (Pn.tabGet D L t i).1.2, .int .i64 (Pn.tabGet D L t i).2]) ∧ Below w.heap.size w w' := by
 have hp := fun W => t11_refused t i W
 rw [decide_eq_false h] at hp
 have hp2 := fun W => t11_place t i h W
 have hlk := fun (W : World) (hb : Below w.heap.size w W) => r5_look D L p q p' q' W (hD.below hb) (hL.below hb) (Pn.entAt t i) ((Dk.fit_parts hf).2.2.1) (by have := hfl.2.1; omega) hfl.1
 have ho : 0 ≤ Pn.entOff i ∧ Pn.entOff i ≤ 56 := by unfold Pn.refused at h; unfold Pn.entOff; omega
 obtain ⟨b, er, hb⟩ : ∃ b er, Pn.look D L (Pn.entAt t i) = (b, er) := ⟨_, _, rfl⟩
 simp only [hb] at hlk
 have hlen : er = 0 → b.length = 64 := fun h => by have := Pn.look_full hf hfl (k := Pn.entAt t i) (by rw [hb]; exact h); rw [hb] at this; exact this
 have Hw := hid (show Pn.tabGet D L t i = if er ≠ 0 then ((0, 0), er) else Pn.entOf (cut b (Pn.entOff i).toNat 8) by rw [Pn.tabGet, if_neg h, hb])
 generalize Pn.entAt t i = at_ at *
 obtain ⟨o, hoo⟩ : ∃ o : Nat, Pn.entOff i = o := Int.eq_ofNat_of_zero_le ho.1
 rw [hoo] at hp2 Hw ho
 rw [Int.toNat_natCast] at Hw
 have ho2 : o ≤ 56 := by omega
 clear h hb hD hL hf hfl hoo ho
 obtain ⟨A1, a1⟩ := p
 obtain ⟨A2, a2⟩ := q
 obtain ⟨B1, b1⟩ := p'
 obtain ⟨B2, b2⟩ := q'
 have hB := Below.refl w.heap.size w
 have x := Blk.new w 25 #[.string (bs D.data), .slice A1 D.cache.length a1, .int .i64 D.fuse, .bool D.off, .slice A2 D.bad.length a2]
 have xk := blk5 x
 have hB_1 := hB.alloc hB.size (.cells #[.string (bs D.data), .slice A1 D.cache.length a1, .int .i64 D.fuse, .bool D.off, .slice A2 D.bad.length a2] 25)
 have z := Blk.new (w.alloc (.cells #[.string (bs D.data), .slice A1 D.cache.length a1, .int .i64 D.fuse, .bool D.off, .slice A2 D.bad.length a2] 25)) 67 #[.slice B1 L.targets.length b1, .slice B2 L.data.length b2]
 simp only [World.size_alloc] at z
 have zk := blk2 z
 have hB_2 := hB_1.alloc hB_1.size (.cells #[.slice B1 L.targets.length b1, .slice B2 L.data.length b2] 67)
 have x_3 := x.alloc (.cells #[.slice B1 L.targets.length b1, .slice B2 L.data.length b2] 67)
 have xk_3 := blk5 x_3
 have r := Blk.new ((w.alloc (.cells #[.string (bs D.data), .slice A1 D.cache.length a1, .int .i64 D.fuse, .bool D.off, .slice A2 D.bad.length a2] 25)).alloc (.cells #[.slice B1 L.targets.length b1, .slice B2 L.data.length b2] 67)) 73 #[.int .i64 0, .int .i64 0]
 simp only [World.size_alloc] at r
 have rk := blk2 r
 have rkf := r.frozen
 have hB_4 := hB_2.alloc hB_2.size (.cells #[.int .i64 0, .int .i64 0] 73)
 have x_5 := x_3.alloc (.cells #[.int .i64 0, .int .i64 0] 73)
 have xk_5 := blk5 x_5
 have z_6 := z.alloc (.cells #[.int .i64 0, .int .i64 0] 73)
 have zk_6 := blk2 z_6
 go_enter Tryz.func62, Tryz.ntmps62
 go_wp2_with fail
 go_at_call 83
 refine ((hp _)).mono ?_
 rintro e w1 ⟨rfl, hb1⟩
 replace hB := bt hB_4 hb1
 replace x := x_5.below hb1 x_5.lt
 replace xk := blk5 x
 replace z := z_6.below hb1 z_6.lt
 replace zk := blk2 z
 replace r := r.below hb1 r.lt
 replace rk := blk2 r
 replace rkf := r.frozen
 clear hB_1 hB_2 xk_3 x_3 hB_4 xk_5 x_5 zk_6 z_6
 go_wp2_with fail
 go_at_call 84
 refine ((hp2 _)).mono ?_
 rintro e w2 ⟨rfl, hb2⟩
 replace hB := bt hB hb2
 replace x := x.below hb2 x.lt
 replace xk := blk5 x
 replace z := z.below hb2 z.lt
 replace zk := blk2 z
 replace r := r.below hb2 r.lt
 replace rk := blk2 r
 replace rkf := r.frozen
 go_wp2_with fail
 go_at_call 55
 refine ((hlk _ hB)).mono ?_
 rintro e w3 ⟨rfl, hb3⟩
 replace hB := bt hB hb3
 replace x := x.below hb3 x.lt
 replace xk := blk5 x
 replace z := z.below hb3 z.lt
 replace zk := blk2 z
 replace r := r.below hb3 r.lt
 replace rk := blk2 r
 replace rkf := r.frozen
 by_cases h1 : er = 0
 case neg =>
  have n1 : (er != 0) = true := by simpa using h1
  have Hr := hid (show Pn.tabGet D L t i = ((0, 0), er) by rw [Hw.out, if_pos h1])
  clear h1
  have w1l := hB.size
  go_wp2_with fail
  rw [Hr.out]
  have yy := blk2 (blk_set2 r (.int .i64 0) (.int .i64 0))
  have b9 := below_set2 hB (g := w.heap.size + 1 + 1) (by omega) (.int .i64 0) (.int .i64 0)
  refine bodyPost_ret (v := .tuple #[eval2 0 0, .int .i64 er]) (by simp [results, Tryz.results62, go_sem, yy]) rfl ?_
  exact ⟨rfl, b9⟩
 subst h1
 have hl := hlen rfl
 have hcut : cut b o 8 = (b.take (o + 8)).drop o := by rw [cut, List.drop_take]; congr 1; omega
 have Hr := hid (show Pn.tabGet D L t i = Pn.entOf ((b.take (o + 8)).drop o) by rw [Hw.out, if_neg (by simp), hcut])
 have hl8 : ((b.take (o + 8)).drop o).length = 8 := by simp; omega
 clear hcut
 generalize hs : (b.take (o + 8)).drop o = s at Hr hl8
 obtain ⟨t1, t2⟩ := take4_of s hl8
 have ht := fun W => rtake_any (s.drop 4) (by rw [List.length_drop]; unfold maxLen; omega) 4 W
 rw [t1] at ht
 obtain ⟨c, r7, rfl⟩ : ∃ c r7, s = c :: r7 := by cases s with
  | nil => simp at hl8
  | cons c r7 => exact ⟨c, r7, rfl⟩
 have hl7 : r7.length = 7 := by simpa using hl8
 have e7 : List.take 7 r7 = r7 := List.take_of_length_le (by omega)
 have Hq := hid (entOf_cons c r7 hl7)
 rw [List.drop_succ_cons] at ht t2
 generalize Pn.entOf (c :: r7) = E at Hr Hq
 generalize un (r7.drop 3) = n at ht t2 Hq
 have hby := fun W => t11_bytes c n t2 W
 have lby : ([c, 0, 0, 0] ++ be 4 n).length ≤ 8 := by simp [be_length]
 have hen := fun W => t11_entry (c.toNat : Int) (n : Int) W
 have hw1 := i64w (x := (n : Int)) (by omega)
 have c0 : 0 ≤ (c.toNat : Int) := by omega
 have c1 : (c.toNat : Int) ≤ 255 := by have := c.toNat_lt; omega
 clear hlen hlk hp hp2 t1
 go_wp2_with fail
 go_at_call 58
 refine ((ht _)).mono ?_
 rintro e w4 ⟨rfl, hb4⟩
 replace hB := bt hB hb4
 replace x := x.below hb4 x.lt
 replace xk := blk5 x
 replace z := z.below hb4 z.lt
 replace zk := blk2 z
 replace r := r.below hb4 r.lt
 replace rk := blk2 r
 replace rkf := r.frozen
 have y := Blk.new w4 73 #[.int .i64 (c.toNat : Int), .int .i64 n]
 have yk := blk2 y
 have hB_7 := hB.alloc hB.size (.cells #[.int .i64 (c.toNat : Int), .int .i64 n] 73)
 have x_8 := x.alloc (.cells #[.int .i64 (c.toNat : Int), .int .i64 n] 73)
 have xk_8 := blk5 x_8
 have z_9 := z.alloc (.cells #[.int .i64 (c.toNat : Int), .int .i64 n] 73)
 have zk_9 := blk2 z_9
 have r_10 := r.alloc (.cells #[.int .i64 (c.toNat : Int), .int .i64 n] 73)
 have rk_10 := blk2 r_10
 have rkf_10 := r_10.frozen
 cases hE : Pn.entOk (c.toNat : Int) (n : Int) with
 | false =>
  have Hs := hid (show Pn.tabGet D L t i = ((0, 0), 14) by rw [Hr.out, Hq.out, if_neg (by rw [hE]; simp)])
  rw [hE] at hen
  clear hE
  go_wp2_with fail
  go_at_call 85
  refine ((hen _)).mono ?_
  rintro e w5 ⟨rfl, hb5⟩
  replace hB := bt hB_7 hb5
  replace x := x_8.below hb5 x_8.lt
  replace xk := blk5 x
  replace z := z_9.below hb5 z_9.lt
  replace zk := blk2 z
  replace r := r_10.below hb5 r_10.lt
  replace rk := blk2 r
  replace rkf := r.frozen
  replace y := y.below hb5 y.lt
  replace yk := blk2 y
  clear hB_7 xk_8 x_8 zk_9 z_9 rk_10 rkf_10 r_10
  have w1l := hB.size
  go_wp2_with fail
  rw [Hs.out]
  have yy := blk2 (blk_set2 r (.int .i64 0) (.int .i64 0))
  have b9 := below_set2 hB (g := w.heap.size + 1 + 1) (by omega) (.int .i64 0) (.int .i64 0)
  refine bodyPost_ret (v := .tuple #[eval2 0 0, .int .i64 14]) (by simp [results, Tryz.results62, go_sem, yy]) rfl ?_
  exact ⟨rfl, b9⟩
 | true =>
  rw [hE] at hen
  by_cases hq : [c, 0, 0, 0] ++ be 4 n = c :: r7
  · have Hs := hid (show Pn.tabGet D L t i = (((c.toNat : Int), (n : Int)), 0) by rw [Hr.out, Hq.out, if_pos ⟨hE, hq⟩])
    rw [hq] at hby
    clear hE hq lby
    go_wp2_with fail
    go_at_call 85
    refine ((hen _)).mono ?_
    rintro e w5 ⟨rfl, hb5⟩
    replace hB := bt hB_7 hb5
    replace x := x_8.below hb5 x_8.lt
    replace xk := blk5 x
    replace z := z_9.below hb5 z_9.lt
    replace zk := blk2 z
    replace r := r_10.below hb5 r_10.lt
    replace rk := blk2 r
    replace rkf := r.frozen
    replace y := y.below hb5 y.lt
    replace yk := blk2 y
    clear hB_7 xk_8 x_8 zk_9 z_9 rk_10 rkf_10 r_10
    go_wp2_with fail
    go_at_call 86
    refine ((hby _)).mono ?_
    rintro e w6 ⟨rfl, hb6⟩
    replace hB := bt hB hb6
    replace x := x.below hb6 x.lt
    replace xk := blk5 x
    replace z := z.below hb6 z.lt
    replace zk := blk2 z
    replace r := r.below hb6 r.lt
    replace rk := blk2 r
    replace rkf := r.frozen
    replace y := y.below hb6 y.lt
    replace yk := blk2 y
    have w1l := hB.size
    go_wp2_with fail
    rw [Hs.out]
    have yy := blk2 (blk_set2 r (.int .i64 (c.toNat : Int)) (.int .i64 n))
    have b9 := below_set2 hB (g := w.heap.size + 1 + 1) (by omega) (.int .i64 (c.toNat : Int)) (.int .i64 n)
    refine bodyPost_ret (v := .tuple #[eval2 (c.toNat : Int) n, .int .i64 0]) (by simp [results, Tryz.results62, go_sem, yy]) rfl ?_
    exact ⟨rfl, b9⟩
  · have Hs := hid (show Pn.tabGet D L t i = ((0, 0), 14) by rw [Hr.out, Hq.out, if_neg (fun h => hq h.2)])
    have hne : (([c, 0, 0, 0] ++ be 4 n) == c :: r7) = false := by rw [beq_eq_false_iff_ne]; exact hq
    clear hE hq
    generalize [c, 0, 0, 0] ++ be 4 n = T at *
    go_wp2_with fail
    go_at_call 85
    refine ((hen _)).mono ?_
    rintro e w5 ⟨rfl, hb5⟩
    replace hB := bt hB_7 hb5
    replace x := x_8.below hb5 x_8.lt
    replace xk := blk5 x
    replace z := z_9.below hb5 z_9.lt
    replace zk := blk2 z
    replace r := r_10.below hb5 r_10.lt
    replace rk := blk2 r
    replace rkf := r.frozen
    replace y := y.below hb5 y.lt
    replace yk := blk2 y
    clear hB_7 xk_8 x_8 zk_9 z_9 rk_10 rkf_10 r_10
    go_wp2_with fail
    go_at_call 86
    refine ((hby _)).mono ?_
    rintro e w6 ⟨rfl, hb6⟩
    replace hB := bt hB hb6
    replace x := x.below hb6 x.lt
    replace xk := blk5 x
    replace z := z.below hb6 z.lt
    replace zk := blk2 z
    replace r := r.below hb6 r.lt
    replace rk := blk2 r
    replace rkf := r.frozen
    replace y := y.below hb6 y.lt
    replace yk := blk2 y
    have w1l := hB.size
    go_wp2_with fail
    rw [Hs.out]
    have yy := blk2 (blk_set2 r (.int .i64 0) (.int .i64 0))
    have b9 := below_set2 hB (g := w.heap.size + 1 + 1) (by omega) (.int .i64 0) (.int .i64 0)
    refine bodyPost_ret (v := .tuple #[eval2 0 0, .int .i64 14]) (by simp [results, Tryz.results62, go_sem, yy]) rfl ?_
    exact ⟨rfl, b9⟩
theorem t11_get (D : Dk) (L : Pn) (p q p' q' : Pl) (w : World) (hD : IsDk w D p q) (hL : IsPn w L p' q') (hf : D.fit = true) (hfl : L.Fit) (t i : Int) :
 Calls Tryz.prog 62 #[dval D p q, pval L p' q', .int .i64 t, .int .i64 i] w fun e w' => e = .returned (.tuple #[eval2 (Pn.tabGet D L t i).1.1 (Pn.tabGet D L t i).1.2, .int .i64 (Pn.tabGet D L t i).2]) ∧ Below w.heap.size w w' := by
 by_cases h : Pn.refused t i
 · exact t11_get_no D L p q p' q' w t i h
 · exact t11_get_yes D L p q p' q' w hD hL hf hfl t i h
end Go.Proofs.YtlapjkbefkmohaaGreat
