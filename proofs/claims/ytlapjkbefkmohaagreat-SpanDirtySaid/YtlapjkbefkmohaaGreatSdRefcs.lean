/- Package refc and the document's ref08: how often a cluster is counted. Package refc and the document's ref08: a cluster counted oftener. Package refc and the document's ref08: all counts. The document's ref08: all counts. -/
import Derived.Test.YtlapjkbefkmohaaGreatSdPlan8
import Derived.Test.YtlapjkbefkmohaaGreatSdPlain1
import Derived.Test.YtlapjkbefkmohaaGreatSdPacks
import Derived.Test.YtlapjkbefkmohaaGreatSdPlan9
import Derived.Test.YtlapjkbefkmohaaGreatSdRegs
import Derived.Test.YtlapjkbefkmohaaGreatSdDev2
import Derived.WalkMore
set_option linter.unusedVariables false
namespace Go.Proofs.YtlapjkbefkmohaaGreat
open Go.RowKit Go.Shelf
attribute [local go_sem] bs_mk bs_append bs_extract bs_size bs_toList bs_get

theorem take2_of (b : List UInt8) (hb : b.length = 64) (o : Nat) (ho : o ≤ 62) : takeR (b.drop o) 2 = (un (cut b o 2), (b.drop o).drop 2, 0) ∧ un (cut b o 2) < 65536 := by
 have hl : ¬ (((b.drop o).length : Nat) : Int) < 2 := by rw [List.length_drop]; omega
 refine ⟨?_, ?_⟩
 · rw [takeR, if_neg (by omega), if_neg hl]; rfl
 · have := un_lt (cut b o 2)
   rw [cut_length (by omega)] at this
   exact this
theorem r8_get_out (D : Dk) (L : Pn) (p q p' q' : Pl) (w : World) (k : Int) (h : k < 0 ∨ 256 ≤ k) :
 Calls Tryz.prog 33 #[dval D p q, pval L p' q', .int .i64 k] w fun e w' => e = .returned (.tuple #[.int .i64 (Pn.cntGet D L k).1, .int .i64 (Pn.cntGet D L k).2]) ∧ Below w.heap.size w w' := by
 have Hw := hid (show Pn.cntGet D L k = (0, 10) by rw [Pn.cntGet, if_pos h])
 obtain ⟨A1, a1⟩ := p
 obtain ⟨A2, a2⟩ := q
 obtain ⟨B1, b1⟩ := p'
 obtain ⟨B2, b2⟩ := q'
 have hB := Below.refl w.heap.size w
 have x := Blk.new w 25 #[.string (bs D.data), .slice A1 D.cache.length a1, .int .i64 D.fuse, .bool D.off, .slice A2 D.bad.length a2]
 have xk := blk5 x
 have hB_1 := hB.alloc hB.size (.cells #[.string (bs D.data), .slice A1 D.cache.length a1, .int .i64 D.fuse, .bool D.off, .slice A2 D.bad.length a2] 25)
 have z := Blk.new (w.alloc (.cells #[.string (bs D.data), .slice A1 D.cache.length a1, .int .i64 D.fuse, .bool D.off, .slice A2 D.bad.length a2] 25)) 67 #[.slice B1 L.targets.length b1, .slice B2 L.data.length b2]
 simp only [World.size_alloc] at z
 have zk := blk2 z
 have hB_2 := hB_1.alloc hB_1.size (.cells #[.slice B1 L.targets.length b1, .slice B2 L.data.length b2] 67)
 have x_3 := x.alloc (.cells #[.slice B1 L.targets.length b1, .slice B2 L.data.length b2] 67)
 have xk_3 := blk5 x_3
 by_cases h0 : k < 0
 · go_enter Tryz.func33, Tryz.ntmps33
   go_wp2_with fail
   go_ret2
   rw [Hw.out]
   exact ⟨rfl, hB_2⟩
 · have h1 : 256 ≤ k := by omega
   clear h
   go_enter Tryz.func33, Tryz.ntmps33
   go_wp2_with fail
   go_ret2
   rw [Hw.out]
   exact ⟨rfl, hB_2⟩
set_option maxRecDepth 100000 in
theorem r8_get_in (D : Dk) (L : Pn) (p q p' q' : Pl) (w : World) (hD : IsDk w D p q) (hL : IsPn w L p' q') (hf : D.fit = true) (hfl : L.Fit) (k : Nat) (hk : k < 256) :
 Calls Tryz.prog 33 #[dval D p q, pval L p' q', .int .i64 k] w fun e w' => e = .returned (.tuple #[.int .i64 (Pn.cntGet D L k).1, .int .i64 (Pn.cntGet D L k).2]) ∧ Below w.heap.size w w' := by
 have hr := fun W => r4_ref k hk W
 have hlk := fun (W : World) (hb : Below w.heap.size w W) => r5_look D L p q p' q' W (hD.below hb) (hL.below hb) (87 + (k : Int) / 32) ((Dk.fit_parts hf).2.2.1) (by have := hfl.2.1; omega) hfl.1
 obtain ⟨b, er, hb⟩ : ∃ b er, Pn.look D L (87 + (k : Int) / 32) = (b, er) := ⟨_, _, rfl⟩
 simp only [hb] at hlk
 have hlen : er = 0 → b.length = 64 := fun h => by have := Pn.look_full hf hfl (k := 87 + (k : Int) / 32) (by rw [hb]; exact h); rw [hb] at this; exact this
 have hc : ¬ ((k : Int) < 0 ∨ 256 ≤ (k : Int)) := by omega
 have Hw := hid (show Pn.cntGet D L k = if er ≠ 0 then (0, er) else (((un (cut b (2 * (k % 32)) 2) : Nat) : Int), 0) by
  rw [Pn.cntGet, if_neg hc, hb]
  rw [show (2 * ((k : Int) % 32)).toNat = 2 * (k % 32) by omega])
 obtain ⟨o, ho⟩ : ∃ o, k % 32 = o := ⟨_, rfl⟩
 rw [ho] at hr Hw
 have ho' : o < 32 := by omega
 have hk0 : ¬ (k : Int) < 0 := by omega
 have hk1 : (k : Int) < 256 := by omega
 clear hc hb hD hL hf hfl ho
 obtain ⟨A1, a1⟩ := p
 obtain ⟨A2, a2⟩ := q
 obtain ⟨B1, b1⟩ := p'
 obtain ⟨B2, b2⟩ := q'
 have hB := Below.refl w.heap.size w
 have x := Blk.new w 25 #[.string (bs D.data), .slice A1 D.cache.length a1, .int .i64 D.fuse, .bool D.off, .slice A2 D.bad.length a2]
 have xk := blk5 x
 have hB_1 := hB.alloc hB.size (.cells #[.string (bs D.data), .slice A1 D.cache.length a1, .int .i64 D.fuse, .bool D.off, .slice A2 D.bad.length a2] 25)
 have z := Blk.new (w.alloc (.cells #[.string (bs D.data), .slice A1 D.cache.length a1, .int .i64 D.fuse, .bool D.off, .slice A2 D.bad.length a2] 25)) 67 #[.slice B1 L.targets.length b1, .slice B2 L.data.length b2]
 simp only [World.size_alloc] at z
 have zk := blk2 z
 have hB_2 := hB_1.alloc hB_1.size (.cells #[.slice B1 L.targets.length b1, .slice B2 L.data.length b2] 67)
 have x_3 := x.alloc (.cells #[.slice B1 L.targets.length b1, .slice B2 L.data.length b2] 67)
 have xk_3 := blk5 x_3
 go_enter Tryz.func33, Tryz.ntmps33
 go_wp2_with fail
 go_at_call 66
 refine ((hr _)).mono ?_
 rintro e w1 ⟨rfl, hb1⟩
 replace hB := bt hB_2 hb1
 replace x := x_3.below hb1 x_3.lt
 replace xk := blk5 x
 replace z := z.below hb1 z.lt
 replace zk := blk2 z
 clear hB_1 hB_2 xk_3 x_3
 go_wp2_with fail
 go_at_call 55
 refine ((hlk _ hB)).mono ?_
 rintro e w2 ⟨rfl, hb2⟩
 replace hB := bt hB hb2
 replace x := x.below hb2 x.lt
 replace xk := blk5 x
 replace z := z.below hb2 z.lt
 replace zk := blk2 z
 by_cases h1 : er = 0
 case neg =>
  have n1 : (er != 0) = true := by simpa using h1
  have Hr := hid (show Pn.cntGet D L k = (0, er) by rw [Hw.out, if_pos h1])
  clear h1
  go_wp2_with fail
  go_ret2
  rw [Hr.out]
  exact ⟨rfl, hB⟩
 subst h1
 have hl := hlen rfl
 have e64 : List.take 64 b = b := List.take_of_length_le (by omega)
 obtain ⟨t1, t2⟩ := take2_of b hl (2 * o) (by omega)
 have ht := fun W => rtake_any (b.drop (2 * o)) (by rw [List.length_drop]; unfold maxLen; omega) 2 W
 rw [t1] at ht
 generalize un (cut b (2 * o) 2) = n at ht t2 Hw
 have Hr := hid (show Pn.cntGet D L k = (((n : Nat) : Int), 0) by rw [Hw.out, if_neg (by simp)])
 clear hlen hlk hr t1
 go_wp2_with fail
 go_at_call 58
 refine ((ht _)).mono ?_
 rintro e w3 ⟨rfl, hb3⟩
 replace hB := bt hB hb3
 replace x := x.below hb3 x.lt
 replace xk := blk5 x
 replace z := z.below hb3 z.lt
 replace zk := blk2 z
 go_wp2_with fail
 go_ret2
 rw [Hr.out]
 exact ⟨rfl, hB⟩
theorem r8_get (D : Dk) (L : Pn) (p q p' q' : Pl) (w : World) (hD : IsDk w D p q) (hL : IsPn w L p' q') (hf : D.fit = true) (hfl : L.Fit) (k : Int) :
 Calls Tryz.prog 33 #[dval D p q, pval L p' q', .int .i64 k] w fun e w' => e = .returned (.tuple #[.int .i64 (Pn.cntGet D L k).1, .int .i64 (Pn.cntGet D L k).2]) ∧ Below w.heap.size w w' := by
 by_cases h : k < 0 ∨ 256 ≤ k
 · exact r8_get_out D L p q p' q' w k h
 · obtain ⟨k, rfl⟩ := Int.eq_ofNat_of_zero_le (show 0 ≤ k by omega)
   exact r8_get_in D L p q p' q' w hD hL hf hfl k (by omega)
end Go.Proofs.YtlapjkbefkmohaaGreat
set_option linter.unusedVariables false
namespace Go.Proofs.YtlapjkbefkmohaaGreat
open Go.RowKit Go.Shelf
attribute [local go_sem] bs_mk bs_append bs_extract bs_size bs_toList bs_get

set_option maxRecDepth 100000 in
theorem r8_add_no (D : Dk) (L : Pn) (p q p' q' : Pl) (w : World) (hD : IsDk w D p q) (hL : IsPn w L p' q') (hf : D.fit = true) (hfl : L.Fit) (k b : Int) (hb : -9223372036854775808 ≤ b ∧ b ≤ 9223372036854775807)
 (h : (Pn.cntGet D L k).2 ≠ 0 ∨ ((Pn.cntGet D L k).2 = 0 ∧ (b < -(Pn.cntGet D L k).1 ∨ 65535 - (Pn.cntGet D L k).1 < b))) :
 Calls Tryz.prog 52 #[dval D p q, pval L p' q', .int .i64 k, .int .i64 b] w fun e w' => RetPn w.heap.size L p' q' (Pn.cntAdd D L k b) e w' ∧ Below w.heap.size w w' := by
 have hg := fun (W : World) (hb : Below w.heap.size w W) => r8_get D L p q p' q' W (hD.below hb) (hL.below hb) hf hfl k
 have hle := Pn.cntGet_le D L k
 have Hz := hid (fun (W : World) (hb : Below w.heap.size w W) => hL.below hb)
 have Hp := Pn.cntAdd.eq_1 D L k b
 obtain ⟨⟨c, er⟩, hc⟩ : ∃ x, Pn.cntGet D L k = x := ⟨_, rfl⟩
 rw [hc] at h hle Hp
 simp only [hc] at hg
 simp only at h hle Hp
 have Hp := hid Hp
 clear hc hD hL hf hfl
 obtain ⟨A1, a1⟩ := p
 obtain ⟨A2, a2⟩ := q
 obtain ⟨B1, b1⟩ := p'
 obtain ⟨B2, b2⟩ := q'
 have hB := Below.refl w.heap.size w
 have x := Blk.new w 25 #[.string (bs D.data), .slice A1 D.cache.length a1, .int .i64 D.fuse, .bool D.off, .slice A2 D.bad.length a2]
 have xk := blk5 x
 have hB_1 := hB.alloc hB.size (.cells #[.string (bs D.data), .slice A1 D.cache.length a1, .int .i64 D.fuse, .bool D.off, .slice A2 D.bad.length a2] 25)
 have z := Blk.new (w.alloc (.cells #[.string (bs D.data), .slice A1 D.cache.length a1, .int .i64 D.fuse, .bool D.off, .slice A2 D.bad.length a2] 25)) 67 #[.slice B1 L.targets.length b1, .slice B2 L.data.length b2]
 simp only [World.size_alloc] at z
 have zk := blk2 z
 have hB_2 := hB_1.alloc hB_1.size (.cells #[.slice B1 L.targets.length b1, .slice B2 L.data.length b2] 67)
 have x_3 := x.alloc (.cells #[.slice B1 L.targets.length b1, .slice B2 L.data.length b2] 67)
 have xk_3 := blk5 x_3
 have r := Blk.new ((w.alloc (.cells #[.string (bs D.data), .slice A1 D.cache.length a1, .int .i64 D.fuse, .bool D.off, .slice A2 D.bad.length a2] 25)).alloc (.cells #[.slice B1 L.targets.length b1, .slice B2 L.data.length b2] 67)) 67 #[.slice none 0 0, .slice none 0 0]
 simp only [World.size_alloc] at r
 have rk := blk2 r
 have rkf := r.frozen
 have hB_4 := hB_2.alloc hB_2.size (.cells #[.slice none 0 0, .slice none 0 0] 67)
 have x_5 := x_3.alloc (.cells #[.slice none 0 0, .slice none 0 0] 67)
 have xk_5 := blk5 x_5
 have z_6 := z.alloc (.cells #[.slice none 0 0, .slice none 0 0] 67)
 have zk_6 := blk2 z_6
 go_enter Tryz.func52, Tryz.ntmps52
 go_wp2_with fail
 go_at_call 33
 refine ((hg _ hB_4)).mono ?_
 rintro e w1 ⟨rfl, hb1⟩
 replace hB := bt hB_4 hb1
 replace x := x_5.below hb1 x_5.lt
 replace xk := blk5 x
 replace z := z_6.below hb1 z_6.lt
 replace zk := blk2 z
 replace r := r.below hb1 r.lt
 replace rk := blk2 r
 replace rkf := r.frozen
 clear hB_1 hB_2 xk_3 x_3 hB_4 xk_5 x_5 zk_6 z_6
 have w1l := hB.size
 have lt2 := r.lt
 by_cases h1 : er = 0
 case neg =>
  have n1 : (er != 0) = true := by simpa using h1
  have Hr := hid (show Pn.cntAdd D L k b = (L, er) by rw [Hp.out, if_pos h1])
  clear h1 h
  go_wp2_with fail
  rw [Hr.out]
  have yy := blk2 (blk_set2 r (.slice B1 L.targets.length b1) (.slice B2 L.data.length b2))
  have b9 := below_set2 hB (g := w.heap.size + 1 + 1) (by omega) (.slice B1 L.targets.length b1) (.slice B2 L.data.length b2)
  refine bodyPost_ret (v := .tuple #[pval L ⟨B1, b1⟩ ⟨B2, b2⟩, .int .i64 er]) (by simp [results, Tryz.results52, go_sem, yy]) rfl ?_
  exact ⟨⟨_, _, rfl, Hz.out _ b9, fun _ _ h => h⟩, b9⟩
 subst h1
 have h := (h.resolve_left (by simp)).2
 have Hr := hid (show Pn.cntAdd D L k b = (L, 18) by rw [Hp.out, if_neg (by simp), if_pos h])
 by_cases h2 : b < -c
 · clear h
   go_wp2_with fail
   rw [Hr.out]
   have yy := blk2 (blk_set2 r (.slice B1 L.targets.length b1) (.slice B2 L.data.length b2))
   have b9 := below_set2 hB (g := w.heap.size + 1 + 1) (by omega) (.slice B1 L.targets.length b1) (.slice B2 L.data.length b2)
   refine bodyPost_ret (v := .tuple #[pval L ⟨B1, b1⟩ ⟨B2, b2⟩, .int .i64 18]) (by simp [results, Tryz.results52, go_sem, yy]) rfl ?_
   exact ⟨⟨_, _, rfl, Hz.out _ b9, fun _ _ h => h⟩, b9⟩
 · have h3 : 65535 - c < b := by omega
   clear h
   go_wp2_with fail
   rw [Hr.out]
   have yy := blk2 (blk_set2 r (.slice B1 L.targets.length b1) (.slice B2 L.data.length b2))
   have b9 := below_set2 hB (g := w.heap.size + 1 + 1) (by omega) (.slice B1 L.targets.length b1) (.slice B2 L.data.length b2)
   refine bodyPost_ret (v := .tuple #[pval L ⟨B1, b1⟩ ⟨B2, b2⟩, .int .i64 18]) (by simp [results, Tryz.results52, go_sem, yy]) rfl ?_
   exact ⟨⟨_, _, rfl, Hz.out _ b9, fun _ _ h => h⟩, b9⟩
set_option maxRecDepth 100000 in
theorem r8_add_ok (D : Dk) (L : Pn) (p q p' q' : Pl) (w : World) (hD : IsDk w D p q) (hL : IsPn w L p' q') (hf : D.fit = true) (hfl : L.Fit) (k : Nat) (hk : k < 256) (b : Int)
 (h : (Pn.cntGet D L k).2 = 0) (h1 : -(Pn.cntGet D L k).1 ≤ b) (h2 : b ≤ 65535 - (Pn.cntGet D L k).1) :
 Calls Tryz.prog 52 #[dval D p q, pval L p' q', .int .i64 k, .int .i64 b] w fun e w' => RetPn w.heap.size L p' q' (Pn.cntAdd D L k b) e w' ∧ Below w.heap.size w w' := by
 have hg := fun (W : World) (hb : Below w.heap.size w W) => r8_get D L p q p' q' W (hD.below hb) (hL.below hb) hf hfl k
 have hle := Pn.cntGet_le D L k
 have hr := fun W => r4_ref k hk W
 have Hp := Pn.cntAdd.eq_1 D L k b
 rw [if_neg (by rw [h]; simp), if_neg (by omega)] at Hp
 obtain ⟨⟨c, er⟩, hc⟩ : ∃ x, Pn.cntGet D L k = x := ⟨_, rfl⟩
 rw [hc] at h hle Hp h1 h2
 simp only [hc] at hg
 simp only at h hle h1 h2
 subst h
 have hpt := fun W => rput_any (c + b) 2 (by omega) (by omega) W
 rw [show putS (c + b).toNat 2 = be 2 (c + b).toNat from rfl] at hpt
 obtain ⟨t, ht⟩ : ∃ t, be 2 (c + b).toNat = t := ⟨_, rfl⟩
 have htl : t.length = 2 := by rw [← ht, be_length]
 have hpa := fun (W : World) (hb : Below w.heap.size w W) => r5_patch D L p q p' q' W (hD.below hb) (hL.below hb) hf hfl (87 + (k : Int) / 32) (2 * ((k % 32 : Nat) : Int)) (by omega) t (by omega)
 have Hr := hid (show Pn.cntAdd D L k b = Pn.patch D L (87 + (k : Int) / 32) (2 * ((k % 32 : Nat) : Int)) t by
  rw [Hp, show (2 * ((k : Int) % 32)) = (2 * ((k % 32 : Nat) : Int)) by omega, ht])
 rw [ht] at hpt
 have Hap := hid (fun g (hg : w.heap.size ≤ g) => hL.apart hg)
 have hle' := hle
 obtain ⟨o, ho⟩ : ∃ o, k % 32 = o := ⟨_, rfl⟩
 rw [ho] at hr Hr hpa
 obtain ⟨X, hX⟩ : ∃ X, Pn.patch D L (87 + (k : Int) / 32) (2 * ((o : Nat) : Int)) t = X := ⟨_, rfl⟩
 rw [hX] at hpa Hr
 clear hc hD hL hf hfl Hp ht htl ho hX
 obtain ⟨A1, a1⟩ := p
 obtain ⟨A2, a2⟩ := q
 obtain ⟨B1, b1⟩ := p'
 obtain ⟨B2, b2⟩ := q'
 have hB := Below.refl w.heap.size w
 have x := Blk.new w 25 #[.string (bs D.data), .slice A1 D.cache.length a1, .int .i64 D.fuse, .bool D.off, .slice A2 D.bad.length a2]
 have xk := blk5 x
 have hB_1 := hB.alloc hB.size (.cells #[.string (bs D.data), .slice A1 D.cache.length a1, .int .i64 D.fuse, .bool D.off, .slice A2 D.bad.length a2] 25)
 have z := Blk.new (w.alloc (.cells #[.string (bs D.data), .slice A1 D.cache.length a1, .int .i64 D.fuse, .bool D.off, .slice A2 D.bad.length a2] 25)) 67 #[.slice B1 L.targets.length b1, .slice B2 L.data.length b2]
 simp only [World.size_alloc] at z
 have zk := blk2 z
 have hB_2 := hB_1.alloc hB_1.size (.cells #[.slice B1 L.targets.length b1, .slice B2 L.data.length b2] 67)
 have x_3 := x.alloc (.cells #[.slice B1 L.targets.length b1, .slice B2 L.data.length b2] 67)
 have xk_3 := blk5 x_3
 have r := Blk.new ((w.alloc (.cells #[.string (bs D.data), .slice A1 D.cache.length a1, .int .i64 D.fuse, .bool D.off, .slice A2 D.bad.length a2] 25)).alloc (.cells #[.slice B1 L.targets.length b1, .slice B2 L.data.length b2] 67)) 67 #[.slice none 0 0, .slice none 0 0]
 simp only [World.size_alloc] at r
 have rk := blk2 r
 have rkf := r.frozen
 have hB_4 := hB_2.alloc hB_2.size (.cells #[.slice none 0 0, .slice none 0 0] 67)
 have x_5 := x_3.alloc (.cells #[.slice none 0 0, .slice none 0 0] 67)
 have xk_5 := blk5 x_5
 have z_6 := z.alloc (.cells #[.slice none 0 0, .slice none 0 0] 67)
 have zk_6 := blk2 z_6
 go_enter Tryz.func52, Tryz.ntmps52
 go_wp2_with fail
 go_at_call 33
 refine ((hg _ hB_4)).mono ?_
 rintro e w1 ⟨rfl, hb1⟩
 replace hB := bt hB_4 hb1
 replace x := x_5.below hb1 x_5.lt
 replace xk := blk5 x
 replace z := z_6.below hb1 z_6.lt
 replace zk := blk2 z
 replace r := r.below hb1 r.lt
 replace rk := blk2 r
 replace rkf := r.frozen
 clear hB_1 hB_2 xk_3 x_3 hB_4 xk_5 x_5 zk_6 z_6
 go_wp2_with fail
 go_at_call 66
 refine ((hr _)).mono ?_
 rintro e w2 ⟨rfl, hb2⟩
 replace hB := bt hB hb2
 replace x := x.below hb2 x.lt
 replace xk := blk5 x
 replace z := z.below hb2 z.lt
 replace zk := blk2 z
 replace r := r.below hb2 r.lt
 replace rk := blk2 r
 replace rkf := r.frozen
 go_wp2_with fail
 have s0 : (w2.drew.cell? ⟨w.heap.size, 0, none⟩ = some (.string (bs D.data)) ∧ w2.drew.cell? ⟨w.heap.size, 1, none⟩ = some (.slice A1 D.cache.length a1) ∧ w2.drew.cell? ⟨w.heap.size, 2, none⟩ = some (.int .i64 D.fuse) ∧ w2.drew.cell? ⟨w.heap.size, 3, none⟩ = some (.bool D.off) ∧ w2.drew.cell? ⟨w.heap.size, 4, none⟩ = some (.slice A2 D.bad.length a2)) ∧
  (w2.drew.cell? ⟨w.heap.size + 1, 0, none⟩ = some (.slice B1 L.targets.length b1) ∧ w2.drew.cell? ⟨w.heap.size + 1, 1, none⟩ = some (.slice B2 L.data.length b2)) ∧ Below w.heap.size w w2.drew := ⟨xk, zk, hB.drew⟩
 have rd := r.drew
 have w2l : w.heap.size + 1 + 1 < w2.drew.heap.size := r.lt
 have hw : IntKind.u64.wrap (IntKind.i64.wrap (c + b)) = c + b := by rw [i64w (by omega), u64w (by omega)]
 clear xk zk x z hg hr
 go_region_held3 (fun W => (W.cell? ⟨w.heap.size, 0, none⟩ = some (.string (bs D.data)) ∧ W.cell? ⟨w.heap.size, 1, none⟩ = some (.slice A1 D.cache.length a1) ∧ W.cell? ⟨w.heap.size, 2, none⟩ = some (.int .i64 D.fuse) ∧ W.cell? ⟨w.heap.size, 3, none⟩ = some (.bool D.off) ∧ W.cell? ⟨w.heap.size, 4, none⟩ = some (.slice A2 D.bad.length a2)) ∧
  (W.cell? ⟨w.heap.size + 1, 0, none⟩ = some (.slice B1 L.targets.length b1) ∧ W.cell? ⟨w.heap.size + 1, 1, none⟩ = some (.slice B2 L.data.length b2)) ∧ Below w.heap.size w W)
  (first | exact s0 | exact held7 s0 hbl1 | exact held7 (held7 s0 hbl1) hbl2 | exact held7s (held7 (held7 s0 hbl1) hbl2) (by omega) (by omega) (by omega) _ _)
  (first | (go_at_call 74; refine (hpt _).mono ?_; rintro e W1 ⟨rfl, hbl1⟩; have r1 := rd.below hbl1 rd.lt) | (go_at_call 78; refine (hpa _ (held7 s0 hbl1).2.2).mono ?_; rintro e W2 ⟨⟨p3, q3, rfl, i3, o3⟩, hbl2⟩; have r2 := r1.below hbl2 r1.lt; have rk2 := blk2 r2; have rf2 := r2.frozen))
 go_wp2_with fail
 rw [Hr.out]
 have ho := o3 (w.heap.size + 1 + 1) (Nat.lt_of_lt_of_le w2l hbl1.size) (Hap.out _ (by omega))
 have yy := blk2 (blk_set2 r2 (.slice p3.a X.1.targets.length p3.c) (.slice q3.a X.1.data.length q3.c))
 have b9 := below_set2 (held7 (held7 s0 hbl1) hbl2).2.2 (g := w.heap.size + 1 + 1) (by omega) (.slice p3.a X.1.targets.length p3.c) (.slice q3.a X.1.data.length q3.c)
 refine bodyPost_ret (v := .tuple #[pval X.1 p3 q3, .int .i64 X.2]) (by simp [results, Tryz.results52, go_sem, yy]) rfl ?_
 exact ⟨⟨_, _, rfl, i3.off2 ho _ _, fun g hg h => o3 g (Nat.lt_of_lt_of_le hg ((held7 s0 hbl1).2.2.size)) h⟩, b9⟩
theorem r8_add (D : Dk) (L : Pn) (p q p' q' : Pl) (w : World) (hD : IsDk w D p q) (hL : IsPn w L p' q') (hf : D.fit = true) (hfl : L.Fit) (k b : Int) (hb : -9223372036854775808 ≤ b ∧ b ≤ 9223372036854775807) :
 Calls Tryz.prog 52 #[dval D p q, pval L p' q', .int .i64 k, .int .i64 b] w fun e w' => RetPn w.heap.size L p' q' (Pn.cntAdd D L k b) e w' ∧ Below w.heap.size w w' := by
 by_cases h : (Pn.cntGet D L k).2 = 0
 · by_cases h2 : b < -(Pn.cntGet D L k).1 ∨ 65535 - (Pn.cntGet D L k).1 < b
   · exact r8_add_no D L p q p' q' w hD hL hf hfl k b hb (.inr ⟨h, h2⟩)
   · have hk : ¬ (k < 0 ∨ 256 ≤ k) := fun hk => by rw [Pn.cntGet, if_pos hk] at h; simp at h
     obtain ⟨k, rfl⟩ := Int.eq_ofNat_of_zero_le (show 0 ≤ k by omega)
     exact r8_add_ok D L p q p' q' w hD hL hf hfl k (by omega) b h (by omega) (by omega)
 · exact r8_add_no D L p q p' q' w hD hL hf hfl k b hb (.inl h)
end Go.Proofs.YtlapjkbefkmohaaGreat
set_option linter.unusedVariables false
namespace Go.Proofs.YtlapjkbefkmohaaGreat
open Go.RowKit Go.Shelf
attribute [local go_sem] bs_mk bs_append bs_extract bs_size bs_toList bs_get Oper.semAt_some

end Go.Proofs.YtlapjkbefkmohaaGreat
set_option linter.unusedVariables false
namespace Go.Proofs.YtlapjkbefkmohaaGreat
open Go.RowKit Go.Shelf
attribute [local go_sem] bs_mk bs_append bs_extract bs_size bs_toList bs_get

end Go.Proofs.YtlapjkbefkmohaaGreat
