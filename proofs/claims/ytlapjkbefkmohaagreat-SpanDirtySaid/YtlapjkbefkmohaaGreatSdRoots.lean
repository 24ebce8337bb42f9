/- Package root, ref10: an image's root is read. Package root, ref10: an image's root is read, whole. -/
import Derived.Test.YtlapjkbefkmohaaGreatSdPointPlain
import Derived.Test.YtlapjkbefkmohaaGreatSdDev2
import Derived.Test.YtlapjkbefkmohaaGreatSdPacks
import Derived.Test.YtlapjkbefkmohaaGreatSdPlan8
set_option linter.unusedVariables false
namespace Go.Proofs.YtlapjkbefkmohaaGreat
open Go.RowKit Go.Shelf
attribute [local go_sem] bs_mk bs_append bs_extract bs_size bs_toList bs_get
theorem u32w {x : Int} (h : 0 ≤ x ∧ x ≤ 4294967295) : IntKind.u32.wrap x = x := by simp [IntKind.wrap, IntKind.bits, IntKind.signed]; omega
abbrev rval (l n : Nat) : Value := .agg #[.int .i64 l, .int .u32 n]
theorem putS_yes (x k : Nat) (h1 : 1 ≤ k) (h2 : k ≤ 8) : putS x (k : Nat) = be k x := by rw [putS, if_pos ⟨by omega, by omega⟩, Int.toNat_natCast]
theorem padR64 (s : List UInt8) (h : s.length ≤ 64) : padR s 64 = (pad64 s, 0) := by rw [padR, if_neg (by omega)]; rfl
theorem takeR_in (s : List UInt8) (k : Nat) (h1 : 1 ≤ k) (h2 : k ≤ 8) (h : k ≤ s.length) : takeR s (k : Nat) = (un (s.take k), s.drop k, 0) := by rw [takeR, if_neg (by omega), if_neg (by omega), Int.toNat_natCast]
theorem prefixR (s : List UInt8) (h : 4 ≤ s.length) : Lib.hasPrefix s magicR = decide (s.take 4 = magicR) := by
 have e : Lib.hasPrefix s magicR = magicR.isPrefixOf s := rfl
 rw [e, Bool.eq_iff_iff, List.isPrefixOf_iff_prefix, List.prefix_iff_eq_take, decide_eq_true_eq]
 exact eq_comm
theorem r10_cluster (k : Nat) (w : World) : Calls Tryz.prog 59 #[.int .i64 k] w fun e w' => e = .returned (.bool (decide (k < 256))) ∧ w' = w := by
 have h0 : decide ((0 : Int) ≤ (k : Int)) = true := decide_eq_true (by omega)
 by_cases h : k < 256
 · have h1 : decide ((k : Int) < 256) = true := decide_eq_true (by omega)
   have h2 : decide (k < 256) = true := decide_eq_true h
   have Hw := hid h2
   go_enter Tryz.func59, Tryz.ntmps59
   go_wp2_with fail
   go_ret
   exact ⟨by rw [Hw.out]; rfl, rfl⟩
 · have h1 : decide ((k : Int) < 256) = false := decide_eq_false (by omega)
   have h2 : decide (k < 256) = false := decide_eq_false h
   have Hw := hid h2
   go_enter Tryz.func59, Tryz.ntmps59
   go_wp2_with fail
   go_ret
   exact ⟨by rw [Hw.out]; rfl, rfl⟩
theorem r10_head (l n : Nat) (hl : l < 65536) (hn : n < 4294967296) (w : World) :
 Calls Tryz.prog 60 #[rval l n] w fun e w' => e = .returned (.string (bs (rtHead l n))) ∧ Below w.heap.size w w' := by
 have p1 := fun W => rput_any (l : Int) 2 (by omega) (by omega) W
 have p2 := fun W => rput_any (n : Int) 4 (by omega) (by omega) W
 rw [Int.toNat_natCast, show putS l 2 = be 2 l from putS_yes l 2 (by decide) (by decide)] at p1
 rw [Int.toNat_natCast, show putS n 4 = be 4 n from putS_yes n 4 (by decide) (by decide)] at p2
 have hbl := rtBody_length l n
 have c1 := fun W => r2_of (rtBody l n) (by omega) W
 have c2 := fun W => r2_bytes (crcOf (rtBody l n)) (crcMore_lt 0 _) W
 have c3 := fun W => rpad_any (rtBody l n ++ be 4 (crcOf (rtBody l n))) (by rw [List.length_append, be_length]; unfold maxLen; omega) 64 W
 rw [padR64 _ (by rw [List.length_append, be_length]; omega)] at c3
 have Hh := hid (show rtHead l n = pad64 (rtBody l n ++ be 4 (crcOf (rtBody l n))) from rfl)
 have Hb := hid (show (67 : UInt8) :: 79 :: 70 :: 82 :: (be 2 l ++ be 4 n) = rtBody l n from rfl)
 have u1 := u64w (x := (l : Int)) ⟨by omega, by omega⟩
 have u2 := u64w (x := (n : Int)) ⟨by omega, by omega⟩
 have lb1 := be_length 2 l
 have lb2 := be_length 4 n
 have lb3 := be_length 4 (crcOf (rtBody l n))
 generalize crcOf (rtBody l n) = cr at *
 generalize be 4 cr = B3 at *
 generalize be 2 l = B1 at *
 generalize be 4 n = B2 at *
 have hB := Below.refl w.heap.size w
 have x := Blk.new w 62 #[.int .i64 l, .int .u32 n]
 have xk := blk2 x
 have hB_1 := hB.alloc hB.size (.cells #[.int .i64 l, .int .u32 n] 62)
 go_enter Tryz.func60, Tryz.ntmps60
 go_wp2_with fail
 generalize (w.alloc (.cells #[.int .i64 l, .int .u32 n] 62)) = V at hB_1 x xk ⊢
 clear hB
 have hB := hB_1
 clear hB_1
 have X2 := ext2 x
 have D1 := fun e : Ext V => p1 e.world
 have D2 := fun e : Ext V => p2 e.world
 refine wp_region_ext mixed (by kernel_rfl) ?_
 repeat (go_big_quiet_step (((first | (go_at_call 74; with_reducible exact ext_of (D1 _)) | (go_at_call 74; with_reducible exact ext_of (D2 _))))))
 refine wpQuiet_nil ?_
 rintro W ⟨pq_, hpq_⟩
 have hW := pq_.below
 rw [← hpq_] at hW
 clear hpq_ pq_
 have hB2 := bt hB hW
 have hB3 := hB2
 rw [Hb.out]
 go_wp2_with fail
 go_at_call 57
 refine ((c1 _)).mono ?_
 rintro e w' ⟨rfl, rfl⟩
 go_wp2_with fail
 go_at_call 56
 refine ((c2 _)).mono ?_
 rintro e w2 ⟨rfl, hb2⟩
 replace hB3 := bt hB3 hb2
 go_wp2_with fail
 go_at_call 75
 refine ((c3 _)).mono ?_
 rintro e w3 ⟨rfl, hb3⟩
 replace hB3 := bt hB3 hb3
 go_wp2_with fail
 go_ret
 exact ⟨by rw [Hh.out]; rfl, hB3⟩
end Go.Proofs.YtlapjkbefkmohaaGreat
set_option linter.unusedVariables false
namespace Go.Proofs.YtlapjkbefkmohaaGreat
open Go.RowKit Go.Shelf
attribute [local go_sem] bs_mk bs_append bs_extract bs_size bs_toList bs_get
theorem below_of_same {P : Program} {f : FuncId} {args : Array Value} {W : World} {v : Value} (h : Calls P f args W fun e w' => e = .returned v ∧ W = w') : Calls P f args W fun e w' => e = .returned v ∧ Below W.heap.size W w' :=
 h.mono fun _ _ h => ⟨h.1, by rw [← h.2]; exact Below.refl _ _⟩
set_option maxRecDepth 100000 in
set_option maxHeartbeats 1000000 in
theorem r10_get (D : Dk) (L : Pn) (p q p' q' : Pl) (w : World) (hD : IsDk w D p q) (hL : IsPn w L p' q') (hf : D.fit = true) (hfl : L.Fit) :
 Calls Tryz.prog 20 #[dval D p q, pval L p' q'] w fun e w' => e = .returned (.tuple #[rval (Pn.rtGet D L).1.1 (Pn.rtGet D L).1.2, .int .i64 (Pn.rtGet D L).2]) ∧ Below w.heap.size w w' := by
 have hlk := fun (W : World) (hb : Below w.heap.size w W) => r5_look D L p q p' q' W (hD.below hb) (hL.below hb) 1 ((Dk.fit_parts hf).2.2.1) (by have := hfl.2.1; omega) hfl.1
 obtain ⟨s, er, hs⟩ : ∃ s er, Pn.look D L 1 = (s, er) := ⟨_, _, rfl⟩
 simp only [hs] at hlk
 have hlen : er = 0 → s.length = 64 := fun h => by have := Pn.look_full hf hfl (k := 1) (by rw [hs]; exact h); rw [hs] at this; exact this
 have Hw := hid (show Pn.rtGet D L = if er ≠ 0 then ((0, 0), er) else rtOf s by rw [Pn.rtGet, hs])
 clear hs hD hL hf hfl
 obtain ⟨A1, a1⟩ := p
 obtain ⟨A2, a2⟩ := q
 obtain ⟨B1, b1⟩ := p'
 obtain ⟨B2, b2⟩ := q'
 have hB := Below.refl w.heap.size w
 have x := Blk.new w 25 #[.string (bs D.data), .slice A1 D.cache.length a1, .int .i64 D.fuse, .bool D.off, .slice A2 D.bad.length a2]
 have xk := blk5 x
 have hB_1 := hB.alloc hB.size (.cells #[.string (bs D.data), .slice A1 D.cache.length a1, .int .i64 D.fuse, .bool D.off, .slice A2 D.bad.length a2] 25)
 have z := Blk.new (w.alloc (.cells #[.string (bs D.data), .slice A1 D.cache.length a1, .int .i64 D.fuse, .bool D.off, .slice A2 D.bad.length a2] 25)) 67 #[.slice B1 L.targets.length b1, .slice B2 L.data.length b2]
 simp only [World.size_alloc] at z
 have zk := blk2 z
 have hB_2 := hB_1.alloc hB_1.size (.cells #[.slice B1 L.targets.length b1, .slice B2 L.data.length b2] 67)
 have x_3 := x.alloc (.cells #[.slice B1 L.targets.length b1, .slice B2 L.data.length b2] 67)
 have xk_3 := blk5 x_3
 have r := Blk.new ((w.alloc (.cells #[.string (bs D.data), .slice A1 D.cache.length a1, .int .i64 D.fuse, .bool D.off, .slice A2 D.bad.length a2] 25)).alloc (.cells #[.slice B1 L.targets.length b1, .slice B2 L.data.length b2] 67)) 62 #[.int .i64 0, .int .u32 0]
 simp only [World.size_alloc] at r
 have rk := blk2 r
 have rkf := r.frozen
 have hB_4 := hB_2.alloc hB_2.size (.cells #[.int .i64 0, .int .u32 0] 62)
 have x_5 := x_3.alloc (.cells #[.int .i64 0, .int .u32 0] 62)
 have xk_5 := blk5 x_5
 have z_6 := z.alloc (.cells #[.int .i64 0, .int .u32 0] 62)
 have zk_6 := blk2 z_6
 go_enter Tryz.func20, Tryz.ntmps20
 go_wp2_with fail
 go_at_call 55
 refine ((hlk _ hB_4)).mono ?_
 rintro e w1 ⟨rfl, hb1⟩
 replace hB := bt hB_4 hb1
 replace x := x_5.below hb1 x_5.lt
 replace xk := blk5 x
 replace z := z_6.below hb1 z_6.lt
 replace zk := blk2 z
 replace r := r.below hb1 r.lt
 replace rk := blk2 r
 replace rkf := r.frozen
 clear hB_1 hB_2 xk_3 x_3 hB_4 xk_5 x_5 zk_6 z_6
 by_cases h1 : er = 0
 case neg =>
  have n1 : (er != 0) = true := by simpa using h1
  have Hr := hid (show Pn.rtGet D L = ((0, 0), er) by rw [Hw.out, if_pos h1])
  clear h1
  have w1l := (hB).size
  go_wp2_with fail
  rw [Hr.out]
  have yy := blk2 (blk_set2 r (.int .i64 0) (.int .u32 0))
  have b9 := below_set2 hB (g := w.heap.size + 1 + 1) (by omega) (.int .i64 0) (.int .u32 0)
  refine bodyPost_ret (v := .tuple #[.agg #[.int .i64 0, .int .u32 0], .int .i64 er]) (by simp [results, Tryz.results20, go_sem, yy]) rfl ?_
  exact ⟨rfl, b9⟩
 subst h1
 have hl := hlen rfl
 have Hr0 := hid (show Pn.rtGet D L = rtOf s by rw [Hw.out, if_neg (by simp)])
 have hpx := prefixR s (by omega)
 have Hof := hid (show rtOf s = _ from by unfold rtOf; rfl)
 have e10 : ¬ s.length < 10 := by omega
 have e14 : ¬ s.length < 14 := by omega
 have es4 : List.drop 4 (List.take 64 s) = s.drop 4 := by rw [List.take_of_length_le (by omega)]
 have es6 : List.drop 6 (List.take 64 s) = s.drop 6 := by rw [List.take_of_length_le (by omega)]
 clear hlen hlk Hw
 by_cases hm : s.take 4 = magicR
 rotate_left
 · have Hr := hid (show Pn.rtGet D L = ((0, 0), 14) by rw [Hr0.out, rtOf, if_pos hm])
   have hd : (s.take 4 == [67, 79, 70, 82]) = false := by rw [beq_eq_false_iff_ne]; exact hm
   clear hm
   have w1l := (hB).size
   go_wp2_with fail
   rw [Hr.out]
   have yy := blk2 (blk_set2 r (.int .i64 0) (.int .u32 0))
   have b9 := below_set2 hB (g := w.heap.size + 1 + 1) (by omega) (.int .i64 0) (.int .u32 0)
   refine bodyPost_ret (v := .tuple #[.agg #[.int .i64 0, .int .u32 0], .int .i64 14]) (by simp [results, Tryz.results20, go_sem, yy]) rfl ?_
   exact ⟨rfl, b9⟩
 have hd : (s.take 4 == [67, 79, 70, 82]) = true := by rw [beq_iff_eq]; exact hm
 have Hm := hid hm
 clear hm hpx
 have c1 := fun W => r2_of (s.take 10) (by rw [List.length_take]; omega) W
 have hcl := crcMore_lt 0 (s.take 10)
 have hcl : crcOf (s.take 10) < 4294967296 := hcl
 have c2 := fun W => r2_bytes (crcOf (s.take 10)) hcl W
 have Hsum := hid (Iff.refl (be 4 (crcOf (s.take 10)) = (s.drop 10).take 4))
 have e1014 : (s.take 14).drop 10 = (s.drop 10).take 4 := by rw [List.drop_take]
 rw [← e1014] at Hsum
 have Hsum2 := hid (show be 4 (crcOf (s.take 10)) = (s.drop 10).take 4 ↔ be 4 (crcOf (s.take 10)) = (s.take 14).drop 10 by rw [e1014])
 clear e1014 Hsum
 obtain ⟨cr, hcr⟩ : ∃ c, crcOf (s.take 10) = c := ⟨_, rfl⟩
 have Hcr := hid hcr
 rw [hcr] at c1 c2 hcl
 clear hcr
 go_wp2_with fail
 generalize w1 = V at hB x xk z zk r rk rkf ⊢
 have D1 := fun e : Ext V => below_of_same (c1 e.world)
 have D2 := fun e : Ext V => c2 e.world
 by_cases hq : be 4 cr = (s.take 14).drop 10
 rotate_left
 · have Hr := hid (show Pn.rtGet D L = ((0, 0), 15) by rw [Hr0.out, rtOf, if_neg (fun h => h Hm.out), if_pos (fun h => hq (by rw [← Hcr.out]; exact Hsum2.out.1 h))])
   have f1 : (be 4 cr == (s.take 14).drop 10) = false := by simpa using hq
   clear hq
   refine wp_region_ext mixed (by kernel_rfl) ?_
   repeat (go_big_quiet_step ((first | (go_at_call 57; with_reducible exact ext_of (D1 _)) | (go_at_call 56; with_reducible exact ext_of (D2 _)))))
   refine wpQuiet_nil ?_
   rintro w2 ⟨pq_, hpq_⟩
   have hb2 := pq_.below
   rw [← hpq_] at hb2
   clear hpq_ pq_
   have hB := bt hB hb2
   have r := (r).below hb2 (r).lt
   have rk := blk2 r
   have rf := r.frozen
   have w1l := (hB).size
   go_wp2_with fail
   rw [Hr.out]
   have yy := blk2 (blk_set2 r (.int .i64 0) (.int .u32 0))
   have b9 := below_set2 hB (g := w.heap.size + 1 + 1) (by omega) (.int .i64 0) (.int .u32 0)
   refine bodyPost_ret (v := .tuple #[.agg #[.int .i64 0, .int .u32 0], .int .i64 15]) (by simp [results, Tryz.results20, go_sem, yy]) rfl ?_
   exact ⟨rfl, b9⟩
 have Hr1 := hid (show Pn.rtGet D L = if 256 ≤ un ((s.drop 4).take 2) ∨ rtHead (un ((s.drop 4).take 2)) (un ((s.drop 6).take 4)) ≠ s then ((0, 0), 14) else ((un ((s.drop 4).take 2), un ((s.drop 6).take 4)), 0) by
  rw [Hr0.out, rtOf, if_neg (fun h => h Hm.out), if_neg (fun h => h (Hsum2.out.2 (by rw [Hcr.out]; exact hq)))])
 have f1 : (be 4 cr == (s.take 14).drop 10) = true := by simpa using hq
 clear hq Hsum2 Hcr Hr0 Hof
 refine wp_region_ext mixed (by kernel_rfl) ?_
 repeat (go_big_quiet_step ((first | (go_at_call 57; with_reducible exact ext_of (D1 _)) | (go_at_call 56; with_reducible exact ext_of (D2 _)))))
 refine wpQuiet_nil ?_
 rintro w2 ⟨pq_, hpq_⟩
 have hb2 := pq_.below
 rw [← hpq_] at hb2
 clear hpq_ pq_
 have hB0 := bt hB hb2
 have r0 := (r).below hb2 (r).lt
 clear D1 D2 c1 c2 f1
 have ub2 := un_bound (s.drop 4) 2 (by decide)
 have ub4 := un_bound (s.drop 6) 4 (by decide)
 have n1 := fun W => rtake_any (s.drop 4) (by rw [List.length_drop]; unfold maxLen; omega) 2 W
 rw [show takeR (s.drop 4) 2 = (un ((s.drop 4).take 2), (s.drop 4).drop 2, 0) from takeR_in (s.drop 4) 2 (by decide) (by decide) (by rw [List.length_drop]; omega)] at n1
 have n2 := fun W => rtake_any (s.drop 6) (by rw [List.length_drop]; unfold maxLen; omega) 4 W
 rw [show takeR (s.drop 6) 4 = (un ((s.drop 6).take 4), (s.drop 6).drop 4, 0) from takeR_in (s.drop 6) 4 (by decide) (by decide) (by rw [List.length_drop]; omega)] at n2
 generalize un ((s.drop 4).take 2) = l at *
 generalize un ((s.drop 6).take 4) = n at *
 replace ub2 : l < 65536 := ub2
 replace ub4 : n < 4294967296 := ub4
 have u1 := i64w (x := (l : Int)) ⟨by omega, by omega⟩
 have u2 := u32w (x := (n : Int)) ⟨by omega, by omega⟩
 have hs1 := fun W => r10_head l n ub2 ub4 W
 have ho := fun W => r10_cluster l W
 have hB := hB0
 have r0k := blk2 r0
 have r0kf := r0.frozen
 go_wp2_with fail
 go_at_call 58
 refine ((n1 _)).mono ?_
 rintro e w3 ⟨rfl, hb3⟩
 replace hB := bt hB hb3
 replace r0 := r0.below hb3 r0.lt
 replace r0k := blk2 r0
 replace r0kf := r0.frozen
 go_wp2_with fail
 go_at_call 58
 refine ((n2 _)).mono ?_
 rintro e w4 ⟨rfl, hb4⟩
 replace hB := bt hB hb4
 replace r0 := r0.below hb4 r0.lt
 replace r0k := blk2 r0
 replace r0kf := r0.frozen
 have y := Blk.new w4 62 #[.int .i64 l, .int .u32 n]
 have yk := blk2 y
 have hB_1 := hB.alloc hB.size (.cells #[.int .i64 l, .int .u32 n] 62)
 have r0_2 := r0.alloc (.cells #[.int .i64 l, .int .u32 n] 62)
 have r0k_2 := blk2 r0_2
 have r0kf_2 := r0_2.frozen
 go_wp2_with fail
 go_at_call 59
 refine (ho _).mono ?_
 rintro e w5 ⟨rfl, rfl⟩
 by_cases hbig : 256 ≤ l
 · have Hr := hid (show Pn.rtGet D L = ((0, 0), 14) by rw [Hr1.out, if_pos (.inl hbig)])
   have hd2 : decide (256 ≤ l) = true := decide_eq_true hbig
   have hd3 : decide (l < 256) = false := decide_eq_false (by omega)
   have w1l := (hB_1).size
   go_wp2_with fail
   rw [Hr.out]
   have yy := blk2 (blk_set2 r0_2 (.int .i64 0) (.int .u32 0))
   have b9 := below_set2 hB_1 (g := w.heap.size + 1 + 1) (by omega) (.int .i64 0) (.int .u32 0)
   refine bodyPost_ret (v := .tuple #[.agg #[.int .i64 0, .int .u32 0], .int .i64 14]) (by simp [results, Tryz.results20, go_sem, yy]) rfl ?_
   exact ⟨rfl, b9⟩
 have hd2 : decide (256 ≤ l) = false := decide_eq_false hbig
 have hd3 : decide (l < 256) = true := decide_eq_true (by omega)
 go_wp2_with fail
 go_at_call 60
 refine ((hs1 _)).mono ?_
 rintro e w6 ⟨rfl, hb6⟩
 replace hB := bt hB_1 hb6
 replace r0 := r0_2.below hb6 r0_2.lt
 replace r0k := blk2 r0
 replace r0kf := r0.frozen
 replace y := y.below hb6 y.lt
 replace yk := blk2 y
 clear hB_1 r0k_2 r0kf_2 r0_2
 by_cases hh : rtHead l n = s
 · have Hr := hid (show Pn.rtGet D L = ((l, n), 0) by rw [Hr1.out, if_neg (by rintro (h | h); exact hbig h; exact h hh)])
   have f1 : (rtHead l n == s) = true := by simpa using hh
   clear hh
   have w1l := (hB).size
   go_wp2_with fail
   rw [Hr.out]
   have yy := blk2 (blk_set2 r0 (.int .i64 l) (.int .u32 n))
   have b9 := below_set2 hB (g := w.heap.size + 1 + 1) (by omega) (.int .i64 l) (.int .u32 n)
   refine bodyPost_ret (v := .tuple #[.agg #[.int .i64 l, .int .u32 n], .int .i64 0]) (by simp [results, Tryz.results20, go_sem, yy]) rfl ?_
   exact ⟨rfl, b9⟩
 · have Hr := hid (show Pn.rtGet D L = ((0, 0), 14) by rw [Hr1.out, if_pos (.inr hh)])
   have f1 : (rtHead l n == s) = false := by rw [beq_eq_false_iff_ne]; exact fun h => hh h
   clear hh
   have w1l := (hB).size
   go_wp2_with fail
   rw [Hr.out]
   have yy := blk2 (blk_set2 r0 (.int .i64 0) (.int .u32 0))
   have b9 := below_set2 hB (g := w.heap.size + 1 + 1) (by omega) (.int .i64 0) (.int .u32 0)
   refine bodyPost_ret (v := .tuple #[.agg #[.int .i64 0, .int .u32 0], .int .i64 14]) (by simp [results, Tryz.results20, go_sem, yy]) rfl ?_
   exact ⟨rfl, b9⟩
end Go.Proofs.YtlapjkbefkmohaaGreat
