/- Package ref15: what ranges are. -/
import Derived.Test.YtlapjkbefkmohaaGreatStSpan9
import Derived.Test.YtlapjkbefkmohaaGreatStSpan5
import Derived.Deep.DeepCutAuto
set_option linter.unusedVariables false
namespace Go.Proofs.YtlapjkbefkmohaaGreat
open Go.RowKit Go.Shelf
attribute [local go_sem] bs_mk bs_append bs_extract bs_size bs_toList bs_get
set_option maxRecDepth 100000 in
set_option maxHeartbeats 2000000 in
theorem r15_status (x : Im) (p q r : Pl) (w : World) (hX : IsIm w x p q r) (hf : x.d.fit = true) (hg : 0 < x.g ∧ x.g ≤ 64) (l1 a n : Int) (ha : -9223372036854775808 ≤ a ∧ a ≤ 9223372036854775807) (hn : -9223372036854775808 ≤ n ∧ n ≤ 9223372036854775807) :
 Calls Tryz.prog 10 #[imval x p q r, .int .i64 l1, .int .i64 a, .int .i64 n] w fun e w' => RetXt w.heap.size 41 (Im.status x.d x.g l1 a n) e w' ∧ Below w.heap.size w w' := by
 obtain ⟨i0, hi, hz0, hz1, hz2⟩ := info_parts Tryz.infoXt
 have hwi := fun (W : World) => r14_within x.g x.h hg a n ha hn W
 have hcut := fun (W : World) => r14_cut a n W
 have hfi := fun (W : World) (hb : Below w.heap.size w W) (k : Int) => t11_find x.d Pn.none p q ⟨none, 0⟩ ⟨none, 0⟩ W (hX.d.below hb) (isPn_zero _) hf Pn.none_fit l1 k
 have Hst := hid (show Im.status x.d x.g l1 a n = spanOf (Im.entFlags x.d l1) x.g a n from rfl)
 have Hp := hid (fun h => spanOf_pcs (Im.entFlags x.d l1) (g := x.g) (a := a) (n := n) h)
 have He := hid (fun k => show Im.entFlags x.d l1 k = (Im.flagsOf (Pn.tabFind x.d Pn.none l1 k).1.1, (Pn.tabFind x.d Pn.none l1 k).2) from rfl)
 clear hX
 obtain ⟨D, g, h, ⟨seq, pos⟩, maps, br⟩ := x
 simp only at hwi hfi Hst Hp He
 clear hf hg
 obtain ⟨A1, a1⟩ := p
 obtain ⟨A2, a2⟩ := q
 obtain ⟨A3, a3⟩ := r
 have hB := Below.refl w.heap.size w
 have x := Blk.new w 33 #[.string (bs D.data), .slice A1 D.cache.length a1, .int .i64 D.fuse, .bool D.off, .slice A2 D.bad.length a2, .int .i64 g, .int .i64 h, .int .u64 seq, .int .i64 pos, .slice A3 maps.length a3, .bool br]
 have xk := blk11 x
 have hB_1 := hB.alloc hB.size (.cells #[.string (bs D.data), .slice A1 D.cache.length a1, .int .i64 D.fuse, .bool D.off, .slice A2 D.bad.length a2, .int .i64 g, .int .i64 h, .int .u64 seq, .int .i64 pos, .slice A3 maps.length a3, .bool br] 33)
 by_cases c1 : n < 1
 · have Hr := hid (show Im.status D g l1 a n = ([], 10) by rw [Hst.out, spanOf, if_pos (.inl c1)])
   clear hwi hcut hfi
   go_enter Tryz.func10, Tryz.ntmps10
   go_wp2_with fail
   go_ret2
   rw [Hr.out]
   exact ⟨⟨_, rfl, World.ownsRow_nil _ _ _ _⟩, hB_1⟩
 cases c2 : Im.within g a n with
 | false =>
  have Hr := hid (show Im.status D g l1 a n = ([], 10) by rw [Hst.out, spanOf, if_pos (.inr c2)])
  rw [c2] at hwi
  clear hcut hfi
  go_enter Tryz.func10, Tryz.ntmps10
  go_wp2_with fail
  go_at_call 25
  refine ((hwi _)).mono ?_
  rintro e w1 ⟨rfl, hb1⟩
  replace hB := bt hB_1 hb1
  replace x := x.below hb1 x.lt
  replace xk := blk11 x
  clear hB_1
  go_wp2_with fail
  go_ret2
  rw [Hr.out]
  exact ⟨⟨_, rfl, World.ownsRow_nil _ _ _ _⟩, hB⟩
 | true =>
 rw [c2] at hwi
 have Hr := hid (show Im.status D g l1 a n = pcs (Im.entFlags D l1) (Im.cuts a n) by rw [Hst.out, Hp.out (by rw [c2]; simp [c1])])
 have Hlen := hid (cuts_length a n)
 have Hrg := hid (show ∀ p ∈ Im.cuts a n, 1 ≤ p.2.2 ∧ p.2.2 ≤ 128 from fun p hp => by
  obtain ⟨w1, w2, w3, w4⟩ := within_iff.1 c2
  by_cases hak : a < 0 ∨ n < 0 ∨ 1073741824 < a ∨ 65536 < n
  · have : Im.cuts a n = [] := by simp [Im.cuts, hak]
    rw [this] at hp; cases hp
  · have := (cuts_tiles hak).mem (by omega) p hp; omega)
 clear Hst Hp c2
 generalize hL : Im.cuts a n = L at *
 clear hL
 go_enter Tryz.func10, Tryz.ntmps10
 go_wp2_with fail
 go_at_call 25
 refine ((hwi _)).mono ?_
 rintro e w1 ⟨rfl, hb1⟩
 replace hB := bt hB_1 hb1
 replace x := x.below hb1 x.lt
 replace xk := blk11 x
 clear hB_1
 go_wp2_with fail
 go_at_call 26
 refine ((hcut _)).mono ?_
 rintro e w2 ⟨⟨v, rfl, hv⟩, hb2⟩
 replace hB := bt hB hb2
 replace x := x.below hb2 x.lt
 replace xk := blk11 x
 obtain ⟨A4, c4, rfl, hn4, hc4, hm4⟩ := own_slice hv
 have HC := hid (fun (W : World) (hb : Below w2.heap.size w2 W) => (Cells.of_own hv).below hb)
 have xw := x
 have hBw := hB
 clear hv hcut hwi
 go_wp2_with fail
 go_loopw [10, 12] (fun l x W => ∃ m : Nat, m ≤ L.length ∧ x = .int .i64 m ∧ Hid ((tell (Im.entFlags D l1) (L.take m)).2 = 0) ∧ W.ownsRow w2.heap.size 41 2 l m (entCells (tell (Im.entFlags D l1) (L.take m)).1) ∧ Below w2.heap.size w2 W) (fun _ x _ => L.length - (intOf x).toNat)
 case atStart => exact ⟨0, Nat.zero_le _, rfl, hid rfl, World.ownsRow_nil _ _ _ _, Below.refl _ _⟩
 case round =>
  obtain ⟨m, hm, rfl, ht, hrow, hb⟩ := hrel
  have hbw := hBw.trans (hb.mono hBw.size)
  by_cases hlt : m < L.length
  · obtain ⟨gA, oA, e1, hc⟩ := (HC.out _ (Below.refl w2.heap.size w2)).cut hlt
    replace hc := hc m hlt
    have hc2 := hc
    replace hc := And.intro (cell_below hb hc2.1) (And.intro (cell_below hb hc2.2.1) (cell_below hb hc2.2.2))
    have Hn := hid (tell_next hlt ht.out)
    obtain ⟨⟨xk, xo, xn⟩, hx⟩ : ∃ x, L[m] = x := ⟨_, rfl⟩
    rw [hx] at hc hc2 Hn
    simp only at hc hc2
    clear hx
    have Hxn := hid (fun (W : World) (hW : Below w2.heap.size w2 W) => cell_below hW hc2.2.2)
    clear hc2
    obtain ⟨⟨⟨K, At⟩, er⟩, hfv⟩ : ∃ x, Pn.tabFind D Pn.none l1 xk = x := ⟨_, rfl⟩
    have Hfl := hid (show Im.entFlags D l1 xk = (Im.flagsOf K, er) by rw [He.out, hfv])
    have hcall := fun (W : World) (hb' : Below wr.heap.size wr W) => hfi W (bt hbw hb') xk
    rw [hfv] at hcall
    rw [Hfl.out] at Hn
    simp only at hcall Hn
    subst e1
    have xr := xw.below hb xw.lt
    have xk1 := blk11 xr
    have hll := Hlen.out
    clear hfv hfi
    have KX := hid (fun (W : World) (hW : Below wr.heap.size wr W) => And.intro (blk11 (xr.below hW xr.lt)) (cell_below hW hc.1))
    have D1 := fun (W : World) (hW : Below wr.heap.size wr W) => show Calls Tryz.prog 23 #[.agg #[.string (bs D.data), .slice A1 D.cache.length a1, .int .i64 D.fuse, .bool D.off, .slice A2 D.bad.length a2], .agg #[.slice none 0 0, .slice none 0 0], .int .i64 l1, .int .i64 xk] W (fun e' w' => e' = .returned (.tuple #[eval2 K At, .int .i64 er]) ∧ Below W.heap.size W w') from hcall W hW
    clear hcall
    go_upto_region 8 with fail
    go_cut [13, 14] (fun sa sb W => ∃ gz, sa = .pointer (some ⟨gz, 0, none⟩) ∧ sb = .int .i64 er ∧ Blk W gz 73 #[.int .i64 K, .int .i64 At] ∧ Below wr.heap.size wr W)
    case first =>
     have KX := KX.out
     clear Hn Hfl
     have s0 : Below wr.heap.size wr wr.drew := (Below.refl _ _).drew
     refine wp_region_late (S := fun W => Below wr.heap.size wr W) (late := fun _ => false) (by kernel_rfl) ?_
     generalize wr.drew = U0 at s0 ⊢
     simp only [List.size_toArray, List.length_cons, List.length_nil, Nat.reduceAdd, Array.replicate_succ, Array.replicate_zero, List.push_toArray, List.nil_append, List.cons_append]
     refine wpLate_take0 (i := 0) (oi := _) (v := .pointer (some ⟨w.heap.size, 0, none⟩)) (d := some 35) rfl rfl (by kernel_rfl) (by kernel_rfl) (by kernel_rfl) (fun _ _ _ h => h) rfl (fun W => by first | rfl | go_simp) ?_
     simp only [Act.put, List.setIfInBounds_toArray, List.set_cons_zero, List.set_cons_succ]
     refine wpLate_take (i := 1) (oi := _) (v := .agg #[.string (bs D.data), .slice A1 D.cache.length a1, .int .i64 D.fuse, .bool D.off, .slice A2 D.bad.length a2]) (d := some 36) rfl rfl (by kernel_rfl) (by kernel_rfl) (by kernel_rfl) (by kernel_rfl) (fun _ _ _ h => h) rfl (fun W hW => by have h := KX W hW; go_simp) s0 ?_
     simp only [Act.put, List.setIfInBounds_toArray, List.set_cons_zero, List.set_cons_succ]
     refine wpLate_take0 (i := 2) (oi := _) (v := .agg #[.slice none 0 0, .slice none 0 0]) (d := some 37) rfl rfl (by kernel_rfl) (by kernel_rfl) (by kernel_rfl) (fun _ _ _ h => h) rfl (fun W => by first | rfl | go_simp) ?_
     simp only [Act.put, List.setIfInBounds_toArray, List.set_cons_zero, List.set_cons_succ]
     refine wpLate_take0 (i := 3) (oi := _) (v := .int .i64 l1) (d := some 38) rfl rfl (by kernel_rfl) (by kernel_rfl) (by kernel_rfl) (fun _ _ _ h => h) rfl (fun W => by first | rfl | go_simp) ?_
     simp only [Act.put, List.setIfInBounds_toArray, List.set_cons_zero, List.set_cons_succ]
     refine wpLate_take0 (i := 4) (oi := _) (v := .slice (some ⟨gA, oA, none⟩) L.length c4) (d := some 39) rfl rfl (by kernel_rfl) (by kernel_rfl) (by kernel_rfl) (fun _ _ _ h => h) rfl (fun W => by first | rfl | go_simp) ?_
     simp only [Act.put, List.setIfInBounds_toArray, List.set_cons_zero, List.set_cons_succ]
     refine wpLate_take0 (i := 5) (oi := _) (v := .int .i64 (m : Int)) (d := some 40) rfl rfl (by kernel_rfl) (by kernel_rfl) (by kernel_rfl) (fun _ _ _ h => h) rfl (fun W => by first | rfl | go_simp) ?_
     simp only [Act.put, List.setIfInBounds_toArray, List.set_cons_zero, List.set_cons_succ]
     refine wpLate_take0 (i := 6) (oi := _) (v := .pointer (some ⟨gA, oA + m * 3, none⟩)) (d := some 41) rfl rfl (by kernel_rfl) (by kernel_rfl) (by kernel_rfl) (fun _ _ _ h => h) rfl (fun W => by first | rfl | go_simp) ?_
     simp only [Act.put, List.setIfInBounds_toArray, List.set_cons_zero, List.set_cons_succ]
     refine wpLate_take0 (i := 7) (oi := _) (v := .pointer (some ⟨gA, oA + m * 3, none⟩)) (d := some 42) rfl rfl (by kernel_rfl) (by kernel_rfl) (by kernel_rfl) (fun _ _ _ h => h) rfl (fun W => by first | rfl | go_simp) ?_
     simp only [Act.put, List.setIfInBounds_toArray, List.set_cons_zero, List.set_cons_succ]
     refine wpLate_take (i := 8) (oi := _) (v := .int .i64 xk) (d := some 43) rfl rfl (by kernel_rfl) (by kernel_rfl) (by kernel_rfl) (by kernel_rfl) (fun _ _ _ h => h) rfl (fun W hW => by have h := KX W hW; go_simp) s0 ?_
     simp only [Act.put, List.setIfInBounds_toArray, List.set_cons_zero, List.set_cons_succ]
     refine wpLate_two (i := 9) (k := 13) (by kernel_rfl) rfl rfl rfl rfl (fun K' hK => ?_) (fun K' hK => ?_)
     · skip
       refine oper_enter' (f := 23) (args := #[.agg #[.string (bs D.data), .slice A1 D.cache.length a1, .int .i64 D.fuse, .bool D.off, .slice A2 D.bad.length a2], .agg #[.slice none 0 0, .slice none 0 0], .int .i64 l1, .int .i64 xk]) (w' := U0) (by go_simp) ((D1 U0 s0).mono ?_)
       rintro e U1 ⟨rfl, hb0⟩
       refine ⟨_, rfl, ?_⟩
       show K' (Act.put _ (some 44) _) _
       have s1 := s0.trans (hb0.mono s0.size)
       refine hK _ _ (fun _ _ => s1) ?_
       simp only [Act.put, List.setIfInBounds_toArray, List.set_cons_zero, List.set_cons_succ]
       refine wpLate_take0 (i := 10) (oi := _) (v := .tuple #[eval2 K At, .int .i64 er]) (d := some 34) rfl rfl (by kernel_rfl) (by kernel_rfl) (by kernel_rfl) (fun _ _ _ h => h) rfl (fun W => by first | rfl | go_simp) ?_
       simp only [Act.put, List.setIfInBounds_toArray, List.set_cons_zero, List.set_cons_succ]
       refine wpLate_take0 (i := 11) (oi := _) (v := eval2 K At) (d := some 45) rfl rfl (by kernel_rfl) (by kernel_rfl) (by kernel_rfl) (fun _ _ _ h => h) rfl (fun W => by first | rfl | go_simp) ?_
       simp only [Act.put, List.setIfInBounds_toArray, List.set_cons_zero, List.set_cons_succ]
       refine wpLate_take0 (i := 12) (oi := _) (v := .int .i64 er) (d := some 46) rfl rfl (by kernel_rfl) (by kernel_rfl) (by kernel_rfl) (fun _ _ _ h => h) rfl (fun W => by first | rfl | go_simp) ?_
       simp only [Act.put, List.setIfInBounds_toArray, List.set_cons_zero, List.set_cons_succ]
       refine wpLate_one (i := 13) (by kernel_rfl) rfl rfl (fun K' hK => ?_)
       refine oper_ran (v := .pointer (some ⟨U1.heap.size, 0, none⟩)) (w' := U1.alloc (.cells #[.int .i64 0, .int .i64 0] 73)) (by go_simp) ?_
       show K' (Act.put _ (some 13) _) _
       have s2 := s1.alloc s1.size (.cells #[.int .i64 0, .int .i64 0] 73)
       have bz := Blk.new U1 73 #[.int .i64 0, .int .i64 0]
       have gz0 : wr.heap.size ≤ U1.heap.size := s1.size
       refine hK _ _ (fun _ _ => s2) ?_
       generalize U1.alloc (.cells #[.int .i64 0, .int .i64 0] 73) = U2 at s2 bz ⊢
       generalize U1.heap.size = gz at bz gz0 ⊢
       simp only [Act.put, List.setIfInBounds_toArray, List.set_cons_zero, List.set_cons_succ]
       refine wpLate_one (i := 14) (by kernel_rfl) rfl rfl (fun K' hK => ?_)
       refine oper_skip (w' := (U2.setCell ⟨gz, 0, none⟩ (.int .i64 K)).setCell ⟨gz, 1, none⟩ (.int .i64 At)) (by have k0 := blk2 bz; have f0 := bz.frozen; have c1 := bz.set 0 (.int .i64 K); simp only [List.setIfInBounds_toArray, List.set_cons_zero] at c1; have f1 := c1.frozen; have k1 := blk2 c1; go_simp) ?_
       show K' (Act.put _ none _) _
       have bz2 := blk_set2 bz (.int .i64 K) (.int .i64 At)
       have bw := below_set2 s2 gz0 (.int .i64 K) (.int .i64 At)
       refine hK _ _ (fun _ _ => bw) ?_
       try simp only [Act.put, List.setIfInBounds_toArray, List.set_cons_zero, List.set_cons_succ]
       refine wpLate_take0 (i := 15) (oi := _) (v := .int .i64 er) (d := some 14) rfl rfl (by kernel_rfl) (by kernel_rfl) (by kernel_rfl) (fun _ _ _ h => h) rfl (fun W => by first | rfl | go_simp) ?_
       simp only [Act.put, List.setIfInBounds_toArray, List.set_cons_zero, List.set_cons_succ]
       refine wpLate_done (by kernel_rfl) ?_ _
       go_wp2_with fail
       go_meet
       exact ⟨gz, rfl, rfl, bz2, bw⟩
     · skip
       refine oper_ran (v := .pointer (some ⟨U0.heap.size, 0, none⟩)) (w' := U0.alloc (.cells #[.int .i64 0, .int .i64 0] 73)) (by go_simp) ?_
       show K' (Act.put _ (some 13) _) _
       have s1 := s0.alloc s0.size (.cells #[.int .i64 0, .int .i64 0] 73)
       have bz := Blk.new U0 73 #[.int .i64 0, .int .i64 0]
       have gz0 : wr.heap.size ≤ U0.heap.size := s0.size
       refine hK _ _ (fun _ _ => s1) ?_
       generalize U0.alloc (.cells #[.int .i64 0, .int .i64 0] 73) = U1 at s1 bz ⊢
       generalize U0.heap.size = gz at bz gz0 ⊢
       simp only [Act.put, List.setIfInBounds_toArray, List.set_cons_zero, List.set_cons_succ]
       refine wpLate_one (i := 9) (by kernel_rfl) rfl rfl (fun K' hK => ?_)
       refine oper_enter' (f := 23) (args := #[.agg #[.string (bs D.data), .slice A1 D.cache.length a1, .int .i64 D.fuse, .bool D.off, .slice A2 D.bad.length a2], .agg #[.slice none 0 0, .slice none 0 0], .int .i64 l1, .int .i64 xk]) (w' := U1) (by go_simp) ((D1 U1 s1).mono ?_)
       rintro e U2 ⟨rfl, hb1⟩
       refine ⟨_, rfl, ?_⟩
       show K' (Act.put _ (some 44) _) _
       have s2 := s1.trans (hb1.mono s1.size)
       replace bz := bz.below hb1 bz.lt
       refine hK _ _ (fun _ _ => s2) ?_
       simp only [Act.put, List.setIfInBounds_toArray, List.set_cons_zero, List.set_cons_succ]
       refine wpLate_take0 (i := 10) (oi := _) (v := .tuple #[eval2 K At, .int .i64 er]) (d := some 34) rfl rfl (by kernel_rfl) (by kernel_rfl) (by kernel_rfl) (fun _ _ _ h => h) rfl (fun W => by first | rfl | go_simp) ?_
       simp only [Act.put, List.setIfInBounds_toArray, List.set_cons_zero, List.set_cons_succ]
       refine wpLate_take0 (i := 11) (oi := _) (v := eval2 K At) (d := some 45) rfl rfl (by kernel_rfl) (by kernel_rfl) (by kernel_rfl) (fun _ _ _ h => h) rfl (fun W => by first | rfl | go_simp) ?_
       simp only [Act.put, List.setIfInBounds_toArray, List.set_cons_zero, List.set_cons_succ]
       refine wpLate_take0 (i := 12) (oi := _) (v := .int .i64 er) (d := some 46) rfl rfl (by kernel_rfl) (by kernel_rfl) (by kernel_rfl) (fun _ _ _ h => h) rfl (fun W => by first | rfl | go_simp) ?_
       simp only [Act.put, List.setIfInBounds_toArray, List.set_cons_zero, List.set_cons_succ]
       refine wpLate_one (i := 14) (by kernel_rfl) rfl rfl (fun K' hK => ?_)
       refine oper_skip (w' := (U2.setCell ⟨gz, 0, none⟩ (.int .i64 K)).setCell ⟨gz, 1, none⟩ (.int .i64 At)) (by have k0 := blk2 bz; have f0 := bz.frozen; have c1 := bz.set 0 (.int .i64 K); simp only [List.setIfInBounds_toArray, List.set_cons_zero] at c1; have f1 := c1.frozen; have k1 := blk2 c1; go_simp) ?_
       show K' (Act.put _ none _) _
       have bz2 := blk_set2 bz (.int .i64 K) (.int .i64 At)
       have bw := below_set2 s2 gz0 (.int .i64 K) (.int .i64 At)
       refine hK _ _ (fun _ _ => bw) ?_
       try simp only [Act.put, List.setIfInBounds_toArray, List.set_cons_zero, List.set_cons_succ]
       refine wpLate_take0 (i := 15) (oi := _) (v := .int .i64 er) (d := some 14) rfl rfl (by kernel_rfl) (by kernel_rfl) (by kernel_rfl) (fun _ _ _ h => h) rfl (fun W => by first | rfl | go_simp) ?_
       simp only [Act.put, List.setIfInBounds_toArray, List.set_cons_zero, List.set_cons_succ]
       refine wpLate_done (by kernel_rfl) ?_ _
       go_wp2_with fail
       go_meet
       exact ⟨gz, rfl, rfl, bz2, bw⟩
    case rest =>
    obtain ⟨gz, rfl, rfl, y1, hW1⟩ := hcut
    have kc2 := cell_below hW1 hc.2.2
    have o2 := own_below hrow hW1
    have b2 := hb.trans (hW1.mono hb.size)
    have bw1 := bt hbw hW1
    have yk := blk2 y1
    clear KX D1
    by_cases he : er = 0
    · subst he
      have Hmap := hid (show entCells (tell (Im.entFlags D l1) (L.take m)).1 ++ [Value.int .i64 xn, Value.int .i64 (Im.flagsOf K)] = entCells (tell (Im.entFlags D l1) (L.take (m + 1))).1 by rw [entCells_snoc, Hn.out, if_neg (by simp)])
      have Hz := hid (show (tell (Im.entFlags D l1) (L.take (m + 1))).2 = 0 by rw [Hn.out, if_neg (by simp)])
      clear Hn Hfl
      have c6 := fun (W : World) => r15_flags K At W
      generalize Im.flagsOf K = fv at *
      go_upto_region 11 with fail
      have KX := fun (W : World) (hW : Below w2.heap.size w2 W ∧ Blk W gz 73 #[.int .i64 K, .int .i64 At]) => And.intro (Hxn.out W hW.1) (blk2 hW.2)
      have hll2 := b2.size
      have s0 : Below w2.heap.size w2 wc.drew ∧ Blk wc.drew gz 73 #[.int .i64 K, .int .i64 At] := ⟨b2.drew, y1.drew⟩
      have hc0 : Below wc.heap.size wc wc.drew := (Below.refl _ _).drew
      refine wp_region_late (S := fun W => Below w2.heap.size w2 W ∧ Blk W gz 73 #[.int .i64 K, .int .i64 At]) (late := fun _ => false) (by kernel_rfl) ?_
      generalize wc.drew = U0 at s0 hc0 ⊢
      simp only [List.size_toArray, List.length_cons, List.length_nil, Nat.reduceAdd, Array.replicate_succ, Array.replicate_zero, List.push_toArray, List.nil_append, List.cons_append]
      refine wpLate_take0 (i := 0) (oi := _) (v := u10) (d := some 50) rfl rfl (by kernel_rfl) (by kernel_rfl) (by kernel_rfl) (fun _ _ _ h => h) rfl (fun W => by first | rfl | go_simp) ?_
      simp only [Act.put, List.setIfInBounds_toArray, List.set_cons_zero, List.set_cons_succ]
      refine wpLate_take0 (i := 1) (oi := _) (v := .slice (some ⟨gA, oA, none⟩) L.length c4) (d := some 51) rfl rfl (by kernel_rfl) (by kernel_rfl) (by kernel_rfl) (fun _ _ _ h => h) rfl (fun W => by first | rfl | go_simp) ?_
      simp only [Act.put, List.setIfInBounds_toArray, List.set_cons_zero, List.set_cons_succ]
      refine wpLate_take0 (i := 2) (oi := _) (v := .int .i64 (m : Int)) (d := some 52) rfl rfl (by kernel_rfl) (by kernel_rfl) (by kernel_rfl) (fun _ _ _ h => h) rfl (fun W => by first | rfl | go_simp) ?_
      simp only [Act.put, List.setIfInBounds_toArray, List.set_cons_zero, List.set_cons_succ]
      refine wpLate_take0 (i := 3) (oi := _) (v := .pointer (some ⟨gA, oA + m * 3, none⟩)) (d := some 53) rfl rfl (by kernel_rfl) (by kernel_rfl) (by kernel_rfl) (fun _ _ _ h => h) rfl (fun W => by first | rfl | go_simp) ?_
      simp only [Act.put, List.setIfInBounds_toArray, List.set_cons_zero, List.set_cons_succ]
      refine wpLate_take0 (i := 4) (oi := _) (v := .pointer (some ⟨gA, oA + m * 3 + 2, none⟩)) (d := some 54) rfl rfl (by kernel_rfl) (by kernel_rfl) (by kernel_rfl) (fun _ _ _ h => h) rfl (fun W => by first | rfl | go_simp) ?_
      simp only [Act.put, List.setIfInBounds_toArray, List.set_cons_zero, List.set_cons_succ]
      refine wpLate_take (i := 5) (oi := _) (v := .int .i64 xn) (d := some 55) rfl rfl (by kernel_rfl) (by kernel_rfl) (by kernel_rfl) (by kernel_rfl) (fun _ _ _ h => h) rfl (fun W hW => by have h := KX W hW; go_simp) s0 ?_
      simp only [Act.put, List.setIfInBounds_toArray, List.set_cons_zero, List.set_cons_succ]
      refine wpLate_take (i := 6) (oi := _) (v := eval2 K At) (d := some 56) rfl rfl (by kernel_rfl) (by kernel_rfl) (by kernel_rfl) (by kernel_rfl) (fun _ _ _ h => h) rfl (fun W hW => by have h := KX W hW; go_simp) s0 ?_
      simp only [Act.put, List.setIfInBounds_toArray, List.set_cons_zero, List.set_cons_succ]
      refine wpLate_one (i := 7) (by kernel_rfl) rfl rfl (fun K' hK => ?_)
      refine oper_enter' (f := 27) (args := #[eval2 K At]) (w' := U0) (by go_simp) ((c6 U0).mono ?_)
      rintro e U1 ⟨rfl, hb0⟩
      refine ⟨_, rfl, ?_⟩
      show K' (Act.put _ (some 57) _) _
      have s1 : Below w2.heap.size w2 U1 ∧ Blk U1 gz 73 #[.int .i64 K, .int .i64 At] := ⟨s0.1.trans (hb0.mono s0.1.size), s0.2.below hb0 s0.2.lt⟩
      refine hK _ _ (fun _ _ => s1) ?_
      simp only [Act.put, List.setIfInBounds_toArray, List.set_cons_zero, List.set_cons_succ]
      refine wpLate_take0 (i := 8) (oi := _) (v := .agg #[.int .i64 xn, .int .i64 fv]) (d := some 58) rfl rfl (by kernel_rfl) (by kernel_rfl) (by kernel_rfl) (fun _ _ _ h => h) rfl (fun W => by first | rfl | go_simp) ?_
      simp only [Act.put, List.setIfInBounds_toArray, List.set_cons_zero, List.set_cons_succ]
      refine wpLate_one (i := 9) (by kernel_rfl) rfl rfl (fun K' hK => ?_)
      refine oper_ran (v := .slice (some ⟨U1.heap.size, 0, none⟩) 1 1) (w' := U1.alloc (.cells #[.int .i64 xn, .int .i64 fv] 41)) (by go_simp) ?_
      show K' (Act.put _ (some 59) _) _
      have s2 : Below w2.heap.size w2 (U1.alloc (.cells #[.int .i64 xn, .int .i64 fv] 41)) ∧ Blk (U1.alloc (.cells #[.int .i64 xn, .int .i64 fv] 41)) gz 73 #[.int .i64 K, .int .i64 At] := ⟨s1.1.alloc s1.1.size _, s1.2.alloc _⟩
      have oF := (own_below (own_below o2 hc0) hb0).alloc (.cells #[.int .i64 xn, .int .i64 fv] 41)
      have nF := World.news_of_block (Blk.new U1 41 #[.int .i64 xn, .int .i64 fv])
      have hs1 := s1.1.size
      have hs2 := s2.1.size
      refine hK _ _ (fun _ _ => s2) ?_
      simp only [Act.put, List.setIfInBounds_toArray, List.set_cons_zero, List.set_cons_succ]
      refine wpLate_one (i := 10) (by kernel_rfl) rfl rfl (fun K' hK => ?_)
      refine wp_append_own _ (.tmp 50) (.tmp 59) 36 rfl w2.heap.size 41 i0 (.agg #[.int .i64 0, .int .i64 0]) 2 16 Tryz.underlying36 hi hz0 hz1 hz2 rfl (by decide) u10 m _ rfl oF ⟨U1.heap.size, 0, none⟩ 1 1 [.int .i64 xn, .int .i64 fv] rfl rfl nF (by simp [Value.oneCell']) (by unfold maxLen; omega) (by omega) hs2 ?_
      intro v5 w5 h5 gr5 _
      have b5 := s2.1.trans (grown_below oF gr5 hs2)
      have y5 : Blk w5 gz 73 #[.int .i64 K, .int .i64 At] := s2.2.kept gr5 (own_box oF s2.2 (by decide))
      show K' (Act.put _ (some 60) _) _
      refine hK _ _ (fun _ _ => ⟨b5, y5⟩) ?_
      simp only [Act.put, List.setIfInBounds_toArray, List.set_cons_zero, List.set_cons_succ]
      refine wpLate_take0 (i := 11) (oi := _) (v := v5) (d := some 10) rfl rfl (by kernel_rfl) (by kernel_rfl) (by kernel_rfl) (fun _ _ _ h => h) rfl (fun W => by first | rfl | go_simp) ?_
      simp only [Act.put, List.setIfInBounds_toArray, List.set_cons_zero, List.set_cons_succ]
      refine wpLate_done (by kernel_rfl) ?_ _
      go_wp2_with fail
      go_roundw
      case rel => exact ⟨m + 1, by omega, by go_num, Hz, by rw [← Hmap.out]; exact h5, b5⟩
      case measure => simp [intOf]; omega
    · have n1 : (er != 0) = true := by simpa using he
      have Hst := hid (show pcs (Im.entFlags D l1) L = ([], er) by
       have e2 : tell (Im.entFlags D l1) (L.take (m + 1)) = ([], er) := by rw [Hn.out, if_pos he]
       have e3 := tell_early hlt (by rw [e2]; exact he)
       rw [pcs, e3, e2, if_pos he])
      clear he Hn
      go_wp2_with fail
      go_ret2
      rw [Hr.out, Hst.out]
      exact ⟨⟨_, rfl, World.ownsRow_nil _ _ _ _⟩, bw1⟩
  · obtain rfl : m = L.length := by omega
    rw [List.take_length] at hrow ht
    have hT := tell_ok ht.out
    have hTl := tell_len _ ht.out
    have Hp := hid (show pcs (Im.entFlags D l1) L = (join (tell (Im.entFlags D l1) L).1, 0) by rw [pcs, if_neg (by rw [ht.out]; simp)])
    have hin : ∀ x ∈ (tell (Im.entFlags D l1) L).1, -9223372036854775808 ≤ x.1 ∧ x.1 ≤ 9223372036854775807 := by
     intro x hx
     rw [hT.1] at hx
     obtain ⟨y, hy, rfl⟩ := List.mem_map.1 hx
     have := Hrg.out y hy
     show -9223372036854775808 ≤ y.2.2 ∧ y.2.2 ≤ 9223372036854775807
     omega
    obtain ⟨A5, c5, rfl, _, _, _⟩ := own_slice hrow
    have hj := r15_join (tell (Im.entFlags D l1) L).1 A5 c5 (by rw [hTl]; have := Hlen.out; omega) hin wr (Cells.of_own hrow)
    rw [hTl] at hj
    clear hT hin ht hTl hfi
    generalize (tell (Im.entFlags D l1) L).1 = T at *
    go_wp2_with fail
    go_at_call 15
    refine hj.mono ?_
    rintro e w3 ⟨⟨v, rfl, hv⟩, hb3⟩
    go_wp2_with fail
    go_ret2
    rw [Hr.out, Hp.out]
    exact ⟨⟨_, rfl, own_base hv hbw.size⟩, bt hbw hb3⟩
end Go.Proofs.YtlapjkbefkmohaaGreat
